/- Part of the walks that the claim stands on. -/
import Derived.Test.YtpmhelkiicigfaaGreatDoorS2
import Derived.Test.YtpmhelkiicigfaaGreatDoorS1
import Derived.Deep.DeepCutAuto
import Derived.Maps.OwnOps
import Derived.Maps.Views
set_option maxRecDepth 100000
set_option maxHeartbeats 40000000
namespace Go.Proofs.YtpmhelkiicigfaaGreatDoor
open Go.RowKit
theorem Zhg (w : World) : Calls Tryz.prog 135 #[.int .i64 1] w fun e w' => e = .returned (.slice (some ⟨w.heap.size, 0, none⟩) 1 1) ∧ w' = w.alloc (.cells #[.int .i64 2] 3) := by
 go_enter Tryz.func135, Tryz.ntmps135;go_wp2_with fail;go_ret;exact ⟨rfl, rfl⟩
theorem Zhh (w : World) : Calls Tryz.prog 135 #[.int .i64 2] w fun e w' => e = .returned (.slice (some ⟨w.heap.size, 0, none⟩) 1 1) ∧ w' = w.alloc (.cells #[.int .i64 1] 3) := by
 go_enter Tryz.func135, Tryz.ntmps135;go_wp2_with fail;go_ret;exact ⟨rfl, rfl⟩
theorem Zhi (w : World) : Calls Tryz.prog 135 #[.int .i64 3] w fun e w' => e = .returned (.slice (some ⟨w.heap.size, 0, none⟩) 1 1) ∧ w' = w.alloc (.cells #[.int .i64 1] 3) := by
 go_enter Tryz.func135, Tryz.ntmps135;go_wp2_with fail;go_ret;exact ⟨rfl, rfl⟩
theorem Zhj (w : World) : Calls Tryz.prog 135 #[.int .i64 4] w fun e w' => e = .returned (.slice (some ⟨w.heap.size, 0, none⟩) 1 1) ∧ w' = w.alloc (.cells #[.int .i64 1] 3) := by
 go_enter Tryz.func135, Tryz.ntmps135;go_wp2_with fail;go_ret;exact ⟨rfl, rfl⟩
theorem Zhk (w : World) : Calls Tryz.prog 135 #[.int .i64 5] w fun e w' => e = .returned (.slice (some ⟨w.heap.size, 0, none⟩) 1 1) ∧ w' = w.alloc (.cells #[.int .i64 1] 3) := by
 go_enter Tryz.func135, Tryz.ntmps135;go_wp2_with fail;go_ret;exact ⟨rfl, rfl⟩
theorem Zhl (w : World) : Calls Tryz.prog 135 #[.int .i64 6] w fun e w' => e = .returned (.slice (some ⟨w.heap.size, 0, none⟩) 1 1) ∧ w' = w.alloc (.cells #[.int .i64 1] 3) := by
 go_enter Tryz.func135, Tryz.ntmps135;go_wp2_with fail;go_ret;exact ⟨rfl, rfl⟩
theorem Zhm (w : World) : Calls Tryz.prog 135 #[.int .i64 7] w fun e w' => e = .returned (.slice (some ⟨w.heap.size, 0, none⟩) 1 1) ∧ w' = w.alloc (.cells #[.int .i64 3] 3) := by
 go_enter Tryz.func135, Tryz.ntmps135;go_wp2_with fail;go_ret;exact ⟨rfl, rfl⟩
theorem Zhn (w : World) : Calls Tryz.prog 135 #[.int .i64 8] w fun e w' => e = .returned (.slice (some ⟨w.heap.size, 0, none⟩) 1 1) ∧ w' = w.alloc (.cells #[.int .i64 3] 3) := by
 go_enter Tryz.func135, Tryz.ntmps135;go_wp2_with fail;go_ret;exact ⟨rfl, rfl⟩
theorem Zho (w : World) : Calls Tryz.prog 135 #[.int .i64 9] w fun e w' => e = .returned (.slice (some ⟨w.heap.size, 0, none⟩) 1 1) ∧ w' = w.alloc (.cells #[.int .i64 3] 3) := by
 go_enter Tryz.func135, Tryz.ntmps135;go_wp2_with fail;go_ret;exact ⟨rfl, rfl⟩
theorem Zgi (w : World) : Calls Tryz.prog 135 #[.int .i64 10] w fun e w' => e = .returned (.slice (some ⟨w.heap.size, 0, none⟩) 1 1) ∧ w' = w.alloc (.cells #[.int .i64 3] 3) := by
 go_enter Tryz.func135, Tryz.ntmps135;go_wp2_with fail;go_ret;exact ⟨rfl, rfl⟩
theorem Zgj (w : World) : Calls Tryz.prog 135 #[.int .i64 13] w fun e w' => e = .returned (.slice (some ⟨w.heap.size, 0, none⟩) 1 1) ∧ w' = w.alloc (.cells #[.int .i64 12] 3) := by
 go_enter Tryz.func135, Tryz.ntmps135;go_wp2_with fail;go_ret;exact ⟨rfl, rfl⟩
theorem Zgk (w : World) : Calls Tryz.prog 135 #[.int .i64 14] w fun e w' => e = .returned (.slice (some ⟨w.heap.size, 0, none⟩) 2 2) ∧ w' = w.alloc (.cells #[.int .i64 12, .int .i64 12] 3) := by
 go_enter Tryz.func135, Tryz.ntmps135;go_wp2_with fail;go_ret;exact ⟨rfl, rfl⟩
theorem Zgl (w : World) : Calls Tryz.prog 135 #[.int .i64 15] w fun e w' => e = .returned (.slice (some ⟨w.heap.size, 0, none⟩) 2 2) ∧ w' = w.alloc (.cells #[.int .i64 12, .int .i64 12] 3) := by
 go_enter Tryz.func135, Tryz.ntmps135;go_wp2_with fail;go_ret;exact ⟨rfl, rfl⟩
theorem Zgm (w : World) : Calls Tryz.prog 135 #[.int .i64 16] w fun e w' => e = .returned (.slice (some ⟨w.heap.size, 0, none⟩) 2 2) ∧ w' = w.alloc (.cells #[.int .i64 12, .int .i64 13] 3) := by
 go_enter Tryz.func135, Tryz.ntmps135;go_wp2_with fail;go_ret;exact ⟨rfl, rfl⟩
theorem Zgn (w : World) : Calls Tryz.prog 135 #[.int .i64 17] w fun e w' => e = .returned (.slice (some ⟨w.heap.size, 0, none⟩) 2 2) ∧ w' = w.alloc (.cells #[.int .i64 12, .int .i64 13] 3) := by
 go_enter Tryz.func135, Tryz.ntmps135;go_wp2_with fail;go_ret;exact ⟨rfl, rfl⟩
theorem Zgo (w : World) : Calls Tryz.prog 135 #[.int .i64 18] w fun e w' => e = .returned (.slice (some ⟨w.heap.size, 0, none⟩) 1 1) ∧ w' = w.alloc (.cells #[.int .i64 13] 3) := by
 go_enter Tryz.func135, Tryz.ntmps135;go_wp2_with fail;go_ret;exact ⟨rfl, rfl⟩
theorem Zgp (w : World) : Calls Tryz.prog 135 #[.int .i64 20] w fun e w' => e = .returned (.slice (some ⟨w.heap.size, 0, none⟩) 1 1) ∧ w' = w.alloc (.cells #[.int .i64 13] 3) := by
 go_enter Tryz.func135, Tryz.ntmps135;go_wp2_with fail;go_ret;exact ⟨rfl, rfl⟩
theorem Zgq (op : Int) (w : World) (h : op ≠ 1 ∧ op ≠ 2 ∧ op ≠ 3 ∧ op ≠ 4 ∧ op ≠ 5 ∧ op ≠ 6 ∧ op ≠ 7 ∧ op ≠ 8 ∧ op ≠ 9 ∧ op ≠ 10 ∧ op ≠ 13 ∧ op ≠ 14 ∧ op ≠ 15 ∧ op ≠ 16 ∧ op ≠ 17 ∧ op ≠ 18 ∧ op ≠ 20) : Calls Tryz.prog 135 #[.int .i64 op] w fun e w' => e = .returned (.slice none 0 0) ∧ w' = w := by
 obtain ⟨h1, h2, h3, h4, h5, h6, h7, h8, h9, h10, h13, h14, h15, h16, h17, h18, h20⟩ := h;replace h1 : (op == 1) = false := nH.2 h1;replace h2 : (op == 2) = false := nH.2 h2;replace h3 : (op == 3) = false := nH.2 h3;replace h4 : (op == 4) = false := nH.2 h4;replace h5 : (op == 5) = false := nH.2 h5;replace h6 : (op == 6) = false := nH.2 h6;replace h7 : (op == 7) = false := nH.2 h7;replace h8 : (op == 8) = false := nH.2 h8;replace h9 : (op == 9) = false := nH.2 h9;replace h10 : (op == 10) = false := nH.2 h10;replace h13 : (op == 13) = false := nH.2 h13;replace h14 : (op == 14) = false := nH.2 h14;replace h15 : (op == 15) = false := nH.2 h15;replace h16 : (op == 16) = false := nH.2 h16;replace h17 : (op == 17) = false := nH.2 h17;replace h18 : (op == 18) = false := nH.2 h18;replace h20 : (op == 20) = false := nH.2 h20;go_enter Tryz.func135, Tryz.ntmps135;go_wp2_with fail;go_ret;exact ⟨rfl, rfl⟩
theorem Zbu (w : World) (ks : List Int) (hk : ∀ k ∈ ks, Zs k) (hn : ks.length ≤ 2) {cs : Array Value} (hc : cs.toList = ks.map fun k => .int .i64 k) : Zp Zpd 1 (fun _ => True) (w.alloc (.cells cs 3)) ks (.slice (some ⟨w.heap.size, 0, none⟩) ks.length ks.length) := by
 have hb := heap_alloc_new w (.cells cs 3);refine ⟨_, _, rfl, Nat.le_refl _, by unfold maxLen; omega, fun i hi => ⟨_, _, [.int .i64 ks[i]], rfl, trivial, Zb hb, ⟨rfl, hk _ (List.getElem_mem hi)⟩, fun j x hj => ?_⟩⟩;have hj0 : j = 0 := by have := (List.getElem?_eq_some_iff.1 hj).1; simpa using this
 subst hj0;simp only [List.getElem?_cons_zero, Option.some.injEq] at hj;rw [cell_of_row _ _ _ _ _ _ hb, ← hj, ← Array.getElem?_toList, hc, Nat.zero_add, Nat.mul_one, Nat.add_zero, List.getElem?_map, List.getElem?_eq_getElem hi]
 rfl
theorem Zfg (op : Int) (w : World) : Calls Tryz.prog 135 #[.int .i64 op] w fun e w' => ∃ v', e = .returned v' ∧ Zp Zpd 1 (fun _ => True) w' (Zam op) v' ∧ Za w w' := by
 have hk : op = 1 ∨ op = 2 ∨ op = 3 ∨ op = 4 ∨ op = 5 ∨ op = 6 ∨ op = 7 ∨ op = 8 ∨ op = 9 ∨ op = 10 ∨ op = 13 ∨ op = 14 ∨ op = 15 ∨ op = 16 ∨ op = 17 ∨ op = 18 ∨ op = 20 ∨ (op ≠ 1 ∧ op ≠ 2 ∧ op ≠ 3 ∧ op ≠ 4 ∧ op ≠ 5 ∧ op ≠ 6 ∧ op ≠ 7 ∧ op ≠ 8 ∧ op ≠ 9 ∧ op ≠ 10 ∧ op ≠ 13 ∧ op ≠ 14 ∧ op ≠ 15 ∧ op ≠ 16 ∧ op ≠ 17 ∧ op ≠ 18 ∧ op ≠ 20) := by omega
 rcases hk with rfl | rfl | rfl | rfl | rfl | rfl | rfl | rfl | rfl | rfl | rfl | rfl | rfl | rfl | rfl | rfl | rfl | h
 ·refine (Zhg w).mono ?_;rintro e w' ⟨rfl, rfl⟩;exact ⟨_, rfl, Zbu w [2] (by intro k hk; simp at hk; unfold Zs; omega) (by simp) rfl, (Za.refl w).alloc _⟩
 ·refine (Zhh w).mono ?_;rintro e w' ⟨rfl, rfl⟩;exact ⟨_, rfl, Zbu w [1] (by intro k hk; simp at hk; unfold Zs; omega) (by simp) rfl, (Za.refl w).alloc _⟩
 ·refine (Zhi w).mono ?_;rintro e w' ⟨rfl, rfl⟩;exact ⟨_, rfl, Zbu w [1] (by intro k hk; simp at hk; unfold Zs; omega) (by simp) rfl, (Za.refl w).alloc _⟩
 ·refine (Zhj w).mono ?_;rintro e w' ⟨rfl, rfl⟩;exact ⟨_, rfl, Zbu w [1] (by intro k hk; simp at hk; unfold Zs; omega) (by simp) rfl, (Za.refl w).alloc _⟩
 ·refine (Zhk w).mono ?_;rintro e w' ⟨rfl, rfl⟩;exact ⟨_, rfl, Zbu w [1] (by intro k hk; simp at hk; unfold Zs; omega) (by simp) rfl, (Za.refl w).alloc _⟩
 ·refine (Zhl w).mono ?_;rintro e w' ⟨rfl, rfl⟩;exact ⟨_, rfl, Zbu w [1] (by intro k hk; simp at hk; unfold Zs; omega) (by simp) rfl, (Za.refl w).alloc _⟩
 ·refine (Zhm w).mono ?_;rintro e w' ⟨rfl, rfl⟩;exact ⟨_, rfl, Zbu w [3] (by intro k hk; simp at hk; unfold Zs; omega) (by simp) rfl, (Za.refl w).alloc _⟩
 ·refine (Zhn w).mono ?_;rintro e w' ⟨rfl, rfl⟩;exact ⟨_, rfl, Zbu w [3] (by intro k hk; simp at hk; unfold Zs; omega) (by simp) rfl, (Za.refl w).alloc _⟩
 ·refine (Zho w).mono ?_;rintro e w' ⟨rfl, rfl⟩;exact ⟨_, rfl, Zbu w [3] (by intro k hk; simp at hk; unfold Zs; omega) (by simp) rfl, (Za.refl w).alloc _⟩
 ·refine (Zgi w).mono ?_;rintro e w' ⟨rfl, rfl⟩;exact ⟨_, rfl, Zbu w [3] (by intro k hk; simp at hk; unfold Zs; omega) (by simp) rfl, (Za.refl w).alloc _⟩
 ·refine (Zgj w).mono ?_;rintro e w' ⟨rfl, rfl⟩;exact ⟨_, rfl, Zbu w [12] (by intro k hk; simp at hk; unfold Zs; omega) (by simp) rfl, (Za.refl w).alloc _⟩
 ·refine (Zgk w).mono ?_;rintro e w' ⟨rfl, rfl⟩;exact ⟨_, rfl, Zbu w [12, 12] (by intro k hk; simp at hk; unfold Zs; omega) (by simp) rfl, (Za.refl w).alloc _⟩
 ·refine (Zgl w).mono ?_;rintro e w' ⟨rfl, rfl⟩;exact ⟨_, rfl, Zbu w [12, 12] (by intro k hk; simp at hk; unfold Zs; omega) (by simp) rfl, (Za.refl w).alloc _⟩
 ·refine (Zgm w).mono ?_;rintro e w' ⟨rfl, rfl⟩;exact ⟨_, rfl, Zbu w [12, 13] (by intro k hk; simp at hk; unfold Zs; omega) (by simp) rfl, (Za.refl w).alloc _⟩
 ·refine (Zgn w).mono ?_;rintro e w' ⟨rfl, rfl⟩;exact ⟨_, rfl, Zbu w [12, 13] (by intro k hk; simp at hk; unfold Zs; omega) (by simp) rfl, (Za.refl w).alloc _⟩
 ·refine (Zgo w).mono ?_;rintro e w' ⟨rfl, rfl⟩;exact ⟨_, rfl, Zbu w [13] (by intro k hk; simp at hk; unfold Zs; omega) (by simp) rfl, (Za.refl w).alloc _⟩
 ·refine (Zgp w).mono ?_;rintro e w' ⟨rfl, rfl⟩;exact ⟨_, rfl, Zbu w [13] (by intro k hk; simp at hk; unfold Zs; omega) (by simp) rfl, (Za.refl w).alloc _⟩
 ·refine (Zgq op w h).mono ?_;rintro e w' ⟨rfl, rfl⟩;have e : Zam op = [] := by unfold Zam; (repeat' split) <;> first | rfl | omega
  rw [e];exact ⟨_, rfl, Zp.nil _ _ _ _, Za.refl _⟩
theorem Zp.at__ {α : Type} {El : Zcg α} {size : Nat} {F : Nat → Prop} {w : World} {l : List α} {A : Option Addr} {n c : Nat} (h : Zp El size F w l (.slice A n c)) {j : Nat} (hj : j < l.length) :
  ∃ b o cs, A = some ⟨b, o, none⟩ ∧ F b ∧ b < w.heap.size ∧ El F w l[j] cs ∧ ∀ q x, cs[q]? = some x → w.cell? ⟨b, o + j * size + q, none⟩ = some x := by
 obtain ⟨A', c', e, _, _, hel⟩ := h;cases e;exact hel j hj
theorem Zdk {r : Zf} : ∀ {ks : List Int} {l : List Ze}, Zh r ks l = true ↔ (ks.length = l.length ∧ ∀ i (h : i < ks.length) (h' : i < l.length), Zw r ks[i] l[i] = true)
 | [], [] => by simp [Zh]
 | [], v :: vs => by simp [Zh]
 | k :: ks, [] => by simp [Zh]
 | k :: ks, v :: vs => by
  have ih := @Zdk r ks vs;simp only [Zh, Bool.and_eq_true, ih, List.length_cons]
  constructor
  ·rintro ⟨h1, h2, h3⟩;refine ⟨by omega, fun i h h' => ?_⟩
   cases i with
   | zero => exact h1
   | succ i => exact h3 i (by omega) (by omega)
  ·rintro ⟨h1, h2⟩;exact ⟨h2 0 (by omega) (by omega), by omega, fun i h h' => h2 (i + 1) (by omega) (by omega)⟩
theorem Zhp {r : Zf} {ks : List Int} {l : List Ze} {i : Nat} (h : i < ks.length) (h' : i < l.length) (hp : Zw r ks[i] l[i] = false) : Zh r ks l = false := by
 rw [← Bool.not_eq_true, Zdk];rintro ⟨_, h2⟩;have := h2 i h h';rw [hp] at this
 cases this
theorem Zit (r : Zf) (B : Nat) (cs : List Value) (F : Nat → Prop) (w : World) (kd tg sr : Int) (l : List Ze) (v vk : Value) (h : Z1 F w B r cs) (hr : Zp Zd 6 F w l v) :
  Calls Tryz.prog 150 #[.pointer (some ⟨B, 0, none⟩), .agg #[.int .i64 kd, .int .i64 tg, .int .i64 sr, v, vk]] w fun e w' => e = .returned (.bool (Z6 r tg l)) ∧ Below w.heap.size w w' := by
 obtain ⟨R, hR⟩ : ∃ R, Z6 r tg l = R := ⟨_, rfl⟩;rw [hR];have HR := zh hR;clear hR;obtain ⟨A, c, rfl, hc, hcm, _⟩ := id hr;unfold maxLen at hcm;have hl1 := (Za.refl w).alloc (.cells #[.int .i64 kd, .int .i64 tg, .int .i64 sr, .slice A l.length c, vk] 94);have HS := zh (h.later hl1);have HRW := zh (hr.later Zc hl1);have HM := zh (heap_alloc_new w (.cells #[.int .i64 kd, .int .i64 tg, .int .i64 sr, .slice A l.length c, vk] 94));have HB := zh hl1;obtain ⟨w1, hw1⟩ : ∃ x, x = w.alloc (.cells #[.int .i64 kd, .int .i64 tg, .int .i64 sr, .slice A l.length c, vk] 94) := ⟨_, rfl⟩;have hsz : w.heap.size < w1.heap.size := by rw [hw1]; simp
 have HI := zh (Zfg tg w1);rw [← hw1] at HS HRW HM HB;clear h hr hl1;go_enter Tryz.func150, Tryz.ntmps150;go_wp2_with fail;rw [← hw1];clear hw1;refine HI.o.mono ?_;rintro e w2 ⟨vk2, rfl, hks, hl2⟩;obtain ⟨A2, c2, rfl, hc2, hcm2, _⟩ := id hks;unfold maxLen at hcm2;obtain ⟨ks, hkk⟩ : ∃ ks, Zam tg = ks := ⟨_, rfl⟩;rw [hkk] at hks hc2 ⊢;have HKK := zh hkk;have HKS := zh hks;replace HS := zh (HS.o.later hl2);replace HRW := zh (HRW.o.later Zc hl2);replace HM := zh ((hl2.block _ hsz).trans HM.o);replace HB := zh (HB.o.trans hl2);clear hl2 hkk hks HI hsz;have m1 := cq HM.o 1;have m3 := cq HM.o 3;simp only [nD, nE, nF] at m1 m3;have HR2 := zh (show R = (decide (1 ≤ tg) && (decide (tg ≤ 23) && Zh r ks l)) by rw [← HR.o, ← HKK.o]; rfl)
 by_cases hn : ks.length = l.length
 ·have t1 : ((ks.length : Int) != (l.length : Int)) = false := by rw [hn]; simp
  have HN := zh hn;clear hn
  by_cases h1 : tg < 1
  ·have t2 : decide (tg < 1) = true := decide_eq_true h1;have hR0 : R = false := by rw [HR2.o, decide_eq_false (by omega)]; rfl
   subst hR0;go_wp2_with fail;go_ret;exact ⟨rfl, HB.o⟩
  ·have t2 : decide (tg < 1) = false := decide_eq_false h1
   by_cases h23 : 23 < tg
   ·have t3 : decide (23 < tg) = true := decide_eq_true h23;have hR0 : R = false := by rw [HR2.o, decide_eq_false (p := tg ≤ 23) (by omega)]; simp
    subst hR0;go_wp2_with fail;go_ret;exact ⟨rfl, HB.o⟩
   ·have t3 : decide (23 < tg) = false := decide_eq_false h23;have HR3 := zh (show R = Zh r ks l by rw [HR2.o, decide_eq_true (by omega : 1 ≤ tg), decide_eq_true (by omega : tg ≤ 23)]; rfl);clear h1 h23;go_wp2_with fail;clear m1 m3 t1 t2 t3
    go_loopw [6] (fun i wr => ∃ j : Nat, i = .int .i64 j ∧ j ≤ ks.length ∧ Hd (∀ q (h : q < ks.length) (h' : q < l.length), q < j → Zw r ks[q] l[q] = true) ∧ Hd (Za w2 wr)) (fun i _ => ks.length - (intOf i).toNat)
    case atStart => exact ⟨0, rfl, Nat.zero_le _, zh (fun _ _ _ h => by omega), zh (Za.refl _)⟩
    case round =>
     obtain ⟨j, rfl, hj, HD, HL⟩ := hrel
     by_cases hlt : j < ks.length
     ·have hlt' : j < l.length := by rw [← HN.o]; exact hlt
      have t1 : decide ((j : Int) < ks.length) = true := decide_eq_true (by omega);obtain ⟨b, o, rfl, hb, hat, hel⟩ := (HRW.o.later Zc HL.o).vat hlt';obtain ⟨kb, ko, kcs, rfl, _, hkb, hke, hkc⟩ := (HKS.o.later Zpe HL.o).at__ hlt;obtain ⟨rfl, hk64⟩ := hke;have k0 := hkc 0 _ rfl;simp only [Nat.mul_one, Nat.add_zero] at k0;have HMW := zB HL HM;have m3 := cq HMW.o 3;simp only [nD, nE, nF] at m3;obtain ⟨y, hy⟩ : ∃ y, l[j] = y := ⟨_, rfl⟩;obtain ⟨k, hk⟩ : ∃ k, ks[j] = k := ⟨_, rfl⟩;rw [hy] at hat hel;rw [hk] at k0 hk64;have HY := zh hy;have HK := zh hk;have HEL := zh hel;obtain ⟨c0, c1, c2', c3, c4, c5⟩ := hat;clear hy hk hel;have HVN := zh (VAt.new wr y);have hl3 := (Za.refl wr).alloc (.cells #[.int .i64 y.kind, .int .i64 y.aH, .int .i64 y.index, .string y.text, .int .i64 y.set_.low, .int .i64 y.set_.high] 34);obtain ⟨p, hp⟩ : ∃ p, Zi r y = p := ⟨_, rfl⟩;have HH := zh (Za3 r B cs F _ y _ (HS.o.later (HL.o.trans hl3)) (Zc.keep HEL.o (fun _ h => h) (Zg.later hl3)));rw [hp] at HH;have HP := zh hp;have HL3 := zh (HL.o.trans hl3);clear hp;obtain ⟨V, hV⟩ : ∃ x, x = wr.alloc (.cells #[.int .i64 y.kind, .int .i64 y.aH, .int .i64 y.index, .string y.text, .int .i64 y.set_.low, .int .i64 y.set_.high] 34) := ⟨_, rfl⟩;have hVS : wr.heap.size < V.heap.size := by rw [hV]; simp
      have k1 := (hl3.cell ⟨kb, ko + j, none⟩ hkb).trans k0;have hkb1 : kb < V.heap.size := by omega
      rw [← hV] at HVN HH HL3 k1;clear k0 hl3 hkb;go_wp2_with fail;rw [← hV];clear hV m3 c0 c1 c2' c3 c4 c5;refine HH.o.mono ?_;rintro e V2 ⟨rfl, hl4⟩;have HV := zh (HVN.o.later hl4);have HLV := zh (HL3.o.trans hl4);have k0 := (Za.cell hl4 ⟨kb, ko + j, none⟩ hkb1).trans k1;have hKB : kb < V2.heap.size := Nat.lt_of_lt_of_le hkb1 hl4.size;have hVB : wr.heap.size < V2.heap.size := Nat.lt_of_lt_of_le hVS hl4.size;obtain ⟨z0, _, _, _, _, _⟩ := id HV.o;clear hl4 k1 hkb1 hVS
      cases p with
      | false =>
       have hR0 : R = false := by rw [HR3.o]; exact Zhp hlt hlt' (by rw [HY.o, HK.o]; unfold Zw; rw [HP.o]; simp)
       subst hR0;go_wp2_with fail;go_ret;exact ⟨rfl, HB.o.trans HLV.o⟩
      | true =>
       obtain ⟨q, hq⟩ : ∃ q, Zw r k y = q := ⟨_, rfl⟩;have HQ := zh hq;have HQ2 := zh (show (if k = 13 then (y.kind == 13 || y.kind == 14) else y.kind == k) = q by rw [← hq]; unfold Zw; rw [HP.o]; simp);clear hq;have HD2 : q = true → Hd (∀ q (h : q < ks.length) (h' : q < l.length), q < j + 1 → Zw r ks[q] l[q] = true) := fun e => zh (fun q' h1 h2 h3 => by
        rcases Nat.lt_or_ge q' j with h4 | h4
        ·exact HD.o q' h1 h2 h4
        ·obtain rfl : q' = j := by omega
         rw [HY.o, HK.o, HQ.o, e])
       have hno : q = false → R = false := fun e => by rw [HR3.o]; exact Zhp hlt hlt' (by rw [HY.o, HK.o, HQ.o, e])
       by_cases h13 : k = 13
       ·have u1 : (k == 13) = true := beq_iff_eq.2 h13;obtain ⟨p1, hp1⟩ : ∃ p, (y.kind == 13) = p := ⟨_, rfl⟩;obtain ⟨p2, hp2⟩ : ∃ p, (y.kind == 14) = p := ⟨_, rfl⟩;have n1 : (y.kind != 13) = !p1 := by rw [← hp1]; rfl
        have n2 : (y.kind != 14) = !p2 := by rw [← hp2]; rfl
        have HQ3 := zh (show q = (p1 || p2) by rw [← HQ2.o, if_pos h13, hp1, hp2]);clear hp1 hp2 h13
        cases p1 with
        | true =>
         simp only [Bool.not_true] at n1;have e1 : q = true := by rw [HQ3.o]; rfl
         have HD3 := HD2 e1;clear HD2 hno n2 e1 hVB;go_wp2_with fail
         go_roundw
         case rel => exact ⟨j + 1, by go_num, by omega, HD3, HLV⟩
         case measure => simp [intOf]; omega
        | false =>
         simp only [Bool.not_false] at n1
         cases p2 with
         | true =>
          simp only [Bool.not_true] at n2;have e1 : q = true := by rw [HQ3.o]; rfl
          have HD3 := HD2 e1;clear HD2 hno e1 hVB;go_wp2_with fail
          go_roundw
          case rel => exact ⟨j + 1, by go_num, by omega, HD3, HLV⟩
          case measure => simp [intOf]; omega
         | false =>
          simp only [Bool.not_false] at n2;have hR0 : R = false := hno (by rw [HQ3.o]; rfl);clear HD2 hno hVB;subst hR0;go_wp2_with fail;go_ret;exact ⟨rfl, HB.o.trans HLV.o⟩
       ·have u1 : (k == 13) = false := nH.2 h13;have HQ3 := zh (show (y.kind == k) = q by rw [← HQ2.o, if_neg h13]);have n1 : (y.kind != k) = !q := by rw [← HQ3.o]; rfl
        clear h13;go_upto_region 13 with (fail);refine Zu (fun U hU => ?_);have hUL : Za V2 U := by rw [hU]; exact (Za.refl _).drew
        have HLU := zh (HLV.o.trans hUL);have hVU : wr.heap.size < U.heap.size := Nat.lt_of_lt_of_le hVB hUL.size;have hKU : kb < U.heap.size := Nat.lt_of_lt_of_le hKB hUL.size;have zu := (hUL.cell ⟨wr.heap.size, 0, none⟩ hVB).trans z0;have ku := (hUL.cell ⟨kb, ko + j, none⟩ hKB).trans k0;clear hU hUL hVB hKB z0 k0
        repeat go_big_quiet_step (fail)
        refine wpQuiet_nil ?_
        cases q with
        | true =>
         simp only [Bool.not_true] at n1;have HD3 := HD2 rfl;clear HD2 hno;go_wp2_with fail
         go_roundw
         case rel => exact ⟨j + 1, by go_num, by omega, HD3, HLU⟩
         case measure => simp [intOf]; omega
        | false =>
         simp only [Bool.not_false] at n1;have hR0 : R = false := hno rfl;clear HD2 hno;subst hR0;go_wp2_with fail;go_ret;exact ⟨rfl, HB.o.trans HLU.o⟩
     ·have t1 : decide ((j : Int) < ks.length) = false := decide_eq_false (by omega);have hR0 : R = true := by rw [HR3.o, Zdk]; exact ⟨HN.o, fun i h h' => HD.o i h h' (by omega)⟩
      subst hR0;go_wp2_with fail;go_ret;exact ⟨rfl, HB.o.trans HL.o⟩
 ·have t1 : ((ks.length : Int) != (l.length : Int)) = true := bne_iff_ne.2 (by omega);have hR0 : R = false := by
   have : Zh r ks l = false := by rw [← Bool.not_eq_true, Zdk]; rintro ⟨h1, _⟩; exact hn h1
   rw [HR2.o, this]; simp
  subst hR0;go_wp2_with fail;go_ret;exact ⟨rfl, HB.o⟩
end Go.Proofs.YtpmhelkiicigfaaGreatDoor
namespace Go.Proofs.YtpmhelkiicigfaaGreatDoor
open Go.RowKit
section
variable {P : Program} {ops : Array Oper} {Q : Exit → Act → World → Prop} {S : World → Prop}
/-- The state of the walk: S holds here and behind each operation that is not among the last ones. -/
def wpV (P : Program) (ops : Array Oper) (Q : Exit → Act → World → Prop) (L U : List Nat) (S : World → Prop) (fuel : Nat) (listed : Array Bool) (a : Act) (w : World) : Prop :=
 Zco P .any ops Q (Zeq L U) (Zeu U) S fuel listed a w
theorem Zcv (L U : List Nat) (S : World → Prop) {id : Nat} {a : Act} {w : World} (hm : P.follows .mixedOrders = true)
  (h : ∀ w1, w1 = w.drew → wpV P ops Q L U S ops.size (Array.replicate ops.size false) a w1) : (Code.region id ops true).wp P Q a w :=
 wp_region_any hm (Zfq _ _ _ _ (h w.drew rfl))
theorem Ziu (i : Nat) (d : Option Tmp) {L U : List Nat} {oi : Oper} {v : Value} {fuel : Nat} {listed : Array Bool} {a : Act} {w : World} (hi : ops[i]? = some oi) (hd : oi.dst = d)
  (hB : Zjh ops L listed i = true)
  (hQ : ∀ c a w, Q (.panic c) (a.put d v) w → Q (.panic c) a w)
  (hw : Region.wanted oi (yielded ops a.tmps) = true) (hS : S w) (hy : ∀ x, S x → (execOp a.eval oi).run P x = .ok (.value v) x)
  (h : wpV P ops Q L U S fuel (listed.setIfInBounds i true) (a.put d v) w) : wpV P ops Q L U S (fuel + 1) listed a w := by
 subst hd;simp only [Zjh, Bool.and_eq_true] at hB;obtain ⟨⟨⟨⟨hs, hf⟩, hr⟩, hc⟩, ht⟩ := hB;refine Zf1 hi (Region.noSelect_spec hs) hQ (fun j _ htj => ?_) fuel listed a w (Region.free_spec hi hf) (Zjg hc) (by simpa using hr) (.inl ⟨hw, hy⟩) hS h;simp only [Zeq, Bool.or_eq_true] at htj
 rcases htj with h1 | h1
 ·exact .inr (List.all_eq_true.1 ht j (by simpa using h1))
 ·exact .inl h1
/-- Ziu, what is always told alike left to Lean. -/
theorem tV (i d : Nat) {L U : List Nat} {oi : Oper} {v : Value} {fuel : Nat} {listed : Array Bool} {a : Act} {w : World} (hi : ops[i]? = some oi) (hd : oi.dst = some d) (hS : S w) (hy : ∀ x, S x → (execOp a.eval oi).run P x = .ok (.value v) x)
  (h : wpV P ops Q L U S fuel (listed.setIfInBounds i true) (a.put (some d) v) w) (hB : Zjh ops L listed i = true := by kernel_rfl) (hQ : ∀ c a w, Q (.panic c) (a.put (some d) v) w → Q (.panic c) a w := by exact fun _ _ _ h => h) (hw : Region.wanted oi (yielded ops a.tmps) = true := by rfl) : wpV P ops Q L U S (fuel + 1) listed a w := Ziu i (some d) hi hd hB hQ hw hS hy h
theorem Zlq (i : Nat) (d : Option Tmp) {L U : List Nat} {oi : Oper} {v : Value} {fuel : Nat} {listed : Array Bool} {a : Act} {w : World} (hi : ops[i]? = some oi) (hd : oi.dst = d)
  (hB : Zni ops U listed i = true)
  (hQ : ∀ c a w, Q (.panic c) (a.put d v) w → Q (.panic c) a w)
  (hw : Region.wanted oi (yielded ops a.tmps) = true) (hy : ∀ x, (execOp a.eval oi).run P x = .ok (.value v) x)
  (h : wpV P ops Q L U S fuel (listed.setIfInBounds i true) (a.put d v) w) : wpV P ops Q L U S (fuel + 1) listed a w := by
 subst hd;simp only [Zni, Bool.and_eq_true] at hB;obtain ⟨⟨⟨hs, hf⟩, hr⟩, hu⟩ := hB;exact Zha hi (Region.noSelect_spec hs) hQ (by simp only [Zeq, Bool.or_eq_true]; exact .inr hu) fuel listed a w (Region.free_spec hi hf) (by simpa using hr) (.inl ⟨hw, fun x _ => hy x⟩) h
/-- The post of one operation that comes up alone. -/
def Zep (Q : Exit → Act → World → Prop) (S : World → Prop) (K : Act → World → Prop) : Exit → Act → World → Prop
 | .normal, a', w' => S w' ∧ K a' w'
 | e, a', w' => Q e a' w'
theorem Zbv (i : Nat) {L U : List Nat} {o : Oper} {fuel : Nat} {listed : Array Bool} {a : Act} {w : World} (hr : Region.ready .any ops listed = [i]) (hu : U.contains i = false) (ho : ops[i]? = some o)
  (h : wpList P ops (Zep Q S (fun a' w' => wpV P ops Q L U S fuel (listed.setIfInBounds i true) a' w')) [o] a w) : wpV P ops Q L U S (fuel + 1) listed a w := by
 refine ⟨fun h0 => (by rw [hr] at h0; cases h0), fun j hj => ?_⟩;rw [hr] at hj;obtain rfl : j = i := by simpa using hj
 unfold wpList at h;unfold wpOp;rw [ho];have hK : ∀ a' w', wpList P ops (Zep Q S (fun a' w' => wpV P ops Q L U S fuel (listed.setIfInBounds j true) a' w')) [] a' w' →
   (((Zeq L U j = false → S w') ∧ (Zeu U j = true → w' = w)) ∧ Zco P .any ops Q (Zeq L U) (Zeu U) S fuel (listed.setIfInBounds j true) a' w') := fun a' w' h' =>
  ⟨⟨fun _ => h'.1, fun h0 => (by unfold Zeu at h0; rw [hu] at h0; cases h0)⟩, h'.2⟩
 have hup : o.wp P a w (wpList P ops (Zep Q S (fun a' w' => wpV P ops Q L U S fuel (listed.setIfInBounds j true) a' w')) []) (Zep Q S (fun a' w' => wpV P ops Q L U S fuel (listed.setIfInBounds j true) a' w')) →
   o.wp P a w (wpList P ops (Zep Q S (fun a' w' => wpV P ops Q L U S fuel (listed.setIfInBounds j true) a' w')) []) Q := fun h' => by
  unfold Oper.wp at *
  generalize (execOp a.eval o).run P w = r at *
  cases r with
  | ok n w' => cases n <;> exact h'
  | halt x w' => cases x <;> exact h'
 show if Region.wanted o (yielded ops a.tmps) = true then _ else _
 split
 ·rename_i hw;rw [if_pos hw] at h
  rcases h with h | ⟨h1, h2⟩
  ·exact .inl (Oper.wp_mono hK (hup h))
  ·exact .inr ⟨h1, h2⟩
 ·rename_i hw;rw [if_neg hw] at h;exact hK _ _ h
theorem Zc2 {L U : List Nat} (os : List Oper) {n : Nat} {listed : Array Bool} {a : Act} {w : World} (hB : Znk ops L U listed = true) (hn : L.length = n) (hos : L.map (ops[·]?) = os.map some)
  (h : wpList P ops Q os a w) : wpV P ops Q L U S n listed a w := by
 subst hn;simp only [Znk, Bool.and_eq_true] at hB;exact Zgu L L os listed a w hB.1 (fun i hi => ⟨by simpa using hi, by simpa using List.all_eq_true.1 hB.2 i hi⟩) hos h
end
end Go.Proofs.YtpmhelkiicigfaaGreatDoor
namespace Go.Proofs.YtpmhelkiicigfaaGreatDoor
open Go.RowKit
variable {P : Program} {ops : Array Oper} {Q : Exit → Act → World → Prop} {a : Act} {w : World} {rest : List Oper} {o : Oper}
end Go.Proofs.YtpmhelkiicigfaaGreatDoor
namespace Go.Proofs.YtpmhelkiicigfaaGreatDoor
open Go.RowKit
theorem Z1.made_ {F : Nat → Prop} {w : World} {B : Nat} {r : Zf} {cs : List Value} (h : Z1 F w B r cs) : w.cell? ⟨B, 12, none⟩ = some (.int .i64 r.made) := by
 obtain ⟨aL, aM, aN, aO, aP, aQ, aR, rfl, _⟩ := h.el;rw [cell_of_row _ B 12 _ _ _ h.blk]
 rfl
theorem Zeh {r : Zf} {v : Ze} (h : Zi r v = true) (hk : v.kind = 2) : v.text.size ≤ 120 := by
 unfold Zi at h;rw [Bool.and_eq_true] at h;have h1 := h.1;unfold Zl at h1;rw [hk] at h1;simp at h1
 omega
theorem Zoy {r : Zf} {v : Ze} (h : Zaw r v = true) (hk : v.kind = 2) : v.text.size ≤ 120 := by
 unfold Zaw at h;rw [Bool.and_eq_true] at h;exact Zeh h.2 hk
theorem Zcw (n lo hi : Int) (w : World) : Calls Tryz.prog 84 #[.int .i64 n, .int .i64 lo, .int .i64 hi] w fun e w' => e = .returned (.bool (decide (lo ≤ n) && decide (n ≤ hi))) ∧ w' = w := by
 obtain ⟨p, hp⟩ : ∃ p, decide (lo ≤ n) = p := ⟨_, rfl⟩;obtain ⟨q, hq⟩ : ∃ p, decide (n ≤ hi) = p := ⟨_, rfl⟩;rw [hp, hq]
 cases p <;> cases q
 all_goals
  go_enter Tryz.func84, Tryz.ntmps84;go_wp2_with fail;go_ret;exact ⟨rfl, rfl⟩
theorem Z1.rec_ {F : Nat → Prop} {w : World} {r : Zf} {A : Option Addr} {c : Nat} (h : Zp Zb7 3 F w r.aB (.slice A r.aB.length c)) {i : Nat} (hi : i < r.aB.length) :
  ∃ b o Af cf, A = some ⟨b, o, none⟩ ∧ b < w.heap.size ∧ w.cell? ⟨b, o + i * 3 + 1, none⟩ = some (.slice Af r.aB[i].fields.length cf) := by
 obtain ⟨A', c', e, _, _, hel⟩ := h;cases e;obtain ⟨b, o, cs, rfl, _, hb, hE, hc⟩ := hel i hi;obtain ⟨vf, rfl, _, h1, _⟩ := hE;obtain ⟨Af, cf, rfl, _⟩ := id h1;exact ⟨b, o, Af, cf, rfl, hb, hc 1 _ rfl⟩
def vZ : Ze := ⟨0, 0, 0, ⟨#[]⟩, ⟨0, 0⟩⟩
def Zjq (t : ByteArray) (k : Int) : ByteArray := t.extract k.toNat (k.toNat + 1)
/-- An index of a value of the Store: the Store behind it, the value, the code. -/
def Zcb (r : Zf) (x i : Ze) : Zf × Ze × Int :=
 if x.kind = 5 then (Zac r ⟨8, 0, 0, [x, i], []⟩, ⟨17, r.aA.length, 0, ⟨#[]⟩, ⟨0, 0⟩⟩, 0)
 else if x.kind = 4 ∨ x.kind = 7 then
  match Zd8 i with
  | none => (r, vZ, 101)
  | some n => if plc n (Zca r x.aH) < 0 then (r, vZ, -1) else (r, ⟨if x.kind = 4 then 15 else 16, x.aH, plc n (Zca r x.aH), ⟨#[]⟩, ⟨0, 0⟩⟩, 0)
 else
  match Zbt x with
  | none => (r, vZ, 114)
  | some t =>
   match Zd8 i with
   | none => (r, vZ, 101)
   | some n => if plc n t.size < 0 then (r, vZ, -1) else (r, ⟨2, 0, 0, Zjq t (plc n t.size), ⟨0, 0⟩⟩, 0)
theorem Za4 {r : Zf} {x : Ze} (h : Zi r x = true) (hk : Zau x.kind ≠ 0) : ∃ j : Nat, x.aH = j ∧ j < r.aA.length := by
 unfold Zi at h;rw [Bool.and_eq_true] at h;have h2 := h.2;unfold Zaz at h2;rw [if_pos hk, Bool.and_eq_true] at h2;have h0 := Zdt h.1 (.inl hk);refine ⟨x.aH.toNat, by omega, ?_⟩
 rcases Int.lt_or_le x.aH r.aA.length with h3 | h3
 ·omega
 ·have := Zda (r := r) (n := x.aH) (k := Zau x.kind) (by omega);rw [h2.1] at this
  cases this
theorem Zhq {r : Zf} {x : Ze} (h : Zi r x = true) (hn : Zs x.aH) {t : ByteArray} (ht : Zbt x = some t) : t.size ≤ 120 := by
 unfold Zbt at ht
 split at ht
 ·cases ht; have := Zir hn; omega
 ·split at ht
  ·rename_i h2; cases ht; exact Zeh h h2
  ·split at ht
   ·split at ht
    ·cases ht
    ·cases ht; omega
   ·cases ht
/-- Element k of a value of the Store. -/
def elR (r : Zf) (x : Ze) (k : Nat) : Zf × Ze × Int :=
 if x.kind = 5 ∨ x.kind = 6 then
  match (match r.aA[x.aH.toNat]? with | some o => o.aK | none => [])[k]? with
  | none => (r, vZ, -1)
  | some y => if x.kind = 5 then (Zac r ⟨8, 0, 0, [x, y], []⟩, ⟨17, r.aA.length, 0, ⟨#[]⟩, ⟨0, 0⟩⟩, 0) else (r, y, 0)
 else Zcb r x ⟨1, (k : Int) + 1, 0, ⟨#[]⟩, ⟨0, 0⟩⟩
theorem Zax.back {F : Nat → Prop} {w x y : World} {B : Nat} (hl : Za w x) (h : Zax (fun b => F b ∧ b < w.heap.size) x B y) : Zax F w B y :=
 ⟨⟨Nat.le_trans hl.size h.keep.size, fun b hb hlt => (h.keep.same b ⟨fun h => hb.1 h.1, hb.2⟩ (Nat.lt_of_lt_of_le hlt hl.size)).trans (hl.block b hlt)⟩, (Below.mono hl (Nat.zero_le _)).trans h.below⟩
/-- What index and element leave. -/
def Za6 (F : Nat → Prop) (w : World) (B : Nat) (q : Zf × Ze × Int) (e : Ending) (w' : World) : Prop :=
 e = .returned (.tuple #[.agg #[.int .i64 q.2.1.kind, .int .i64 q.2.1.aH, .int .i64 q.2.1.index, .string q.2.1.text, .int .i64 q.2.1.set_.low, .int .i64 q.2.1.set_.high], .int .i64 q.2.2]) ∧ (∃ cs', Za1 (fun y => F y ∨ w.heap.size ≤ y) w' B q.1 cs') ∧ Zax F w B w'
/-- The result's block is written last. -/
theorem Za8 {F G : Nat → Prop} {w y : World} {B R : Nat} {r : Zf} {cs : List Value} (hS : Za1 G y B r cs) (hGR : ¬ G R) (hGF : ∀ b, G b → F b ∨ w.heap.size ≤ b) (hFB : ¬ F B) (hBw : B < w.heap.size) (hg : Zax F w B y) (hR : w.heap.size ≤ R) (vs : List Value) (o : Nat) :
  (∃ cs', Za1 (fun y => F y ∨ w.heap.size ≤ y) (Zm y R o vs) B r cs') ∧ Zax F w B (Zm y R o vs) := by
 have hk := Z4 (F := fun z => z ≠ R) (B := R) (w := y) (fun h => h rfl) vs y o (Zg.refl _ _);refine ⟨⟨cs, hS.keep hGF (by rintro (h | h); exact hFB h; omega) (hk.mono fun z hz e => hGR (e ▸ hz)) (Zbz (by omega) _ _ _)⟩, ⟨⟨Nat.le_trans hg.keep.size hk.size, fun b hb hl => (hk.same b (by omega) (Nat.lt_of_lt_of_le hl hg.keep.size)).trans (hg.keep.same b hb hl)⟩, hg.below.trans (Z7 (Nat.zero_le _) vs y o (Below.refl _ _))⟩⟩
theorem Zcx (s : ByteArray) (w : World) : Calls Tryz.prog 113 #[.string s] w fun e w' => e = .returned (.agg #[.int .i64 2, .int .i64 0, .int .i64 0, .string s, .int .i64 0, .int .i64 0]) ∧ Za w w' := by
 have HL := zh ((Za.refl w).alloc (.cells #[.int .i64 0, .int .i64 0, .int .i64 0, .string ⟨#[]⟩, .int .i64 0, .int .i64 0] 34));go_enter Tryz.func113, Tryz.ntmps113;go_wp2_with fail;refine bodyPost_ret (v := .agg #[.int .i64 2, .int .i64 0, .int .i64 0, .string s, .int .i64 0, .int .i64 0]) (by simp [results, Tryz.results113, go_sem]) rfl ⟨rfl, ?_⟩
 first | exact (Za.refl _).alloc _ | exact ((Za.refl _).alloc _).alloc _ | exact Za.refl _
theorem Zbd (n : Int) (w : World) : Calls Tryz.prog 130 #[.int .i64 n] w fun e w' => e = .returned (.agg #[.int .i64 1, .int .i64 n, .int .i64 0, .string ⟨#[]⟩, .int .i64 0, .int .i64 0]) ∧ Za w w' := by
 have HL := zh ((Za.refl w).alloc (.cells #[.int .i64 0, .int .i64 0, .int .i64 0, .string ⟨#[]⟩, .int .i64 0, .int .i64 0] 34));go_enter Tryz.func130, Tryz.ntmps130;go_wp2_with fail;refine bodyPost_ret (v := .agg #[.int .i64 1, .int .i64 n, .int .i64 0, .string ⟨#[]⟩, .int .i64 0, .int .i64 0]) (by simp [results, Tryz.results130, go_sem]) rfl ⟨rfl, ?_⟩
 first | exact (Za.refl _).alloc _ | exact ((Za.refl _).alloc _).alloc _ | exact Za.refl _
set_option maxRecDepth 100000
set_option maxHeartbeats 4000000
def IsI (v : Value) : Prop := ∃ x : Int, Zs x ∧ v = .int .i64 x
theorem Zhr (C : Nat) (w : World) (hcur : Cur C w) : Calls Tryz.prog 164 #[.pointer (some ⟨C, 0, none⟩)] w (Zi3 C IsI w) := by
 have HCUR := zh hcur;clear hcur;go_enter Tryz.func164, Tryz.ntmps164;go_wp2_with fail;refine (Z0 C _ HCUR.o 3 (by omega)).mono ?_;rintro e w2 ⟨_, ⟨x, hx0, hx1, rfl⟩, rfl, hc2, hd2⟩;have HC2 := zh hc2;have HD2 := zh hd2;have hlt := hc2.lt;clear hc2 hd2
 rcases (show x = 0 ∨ x = 1 ∨ x = 2 by omega) with rfl | rfl | rfl
 ·go_wp2_with fail;refine (Zdc C _ (HC2.o.later ((Za.refl _).alloc _)) Zs [0, 1, -1, 9, 10, 999999, 1000000, 999999999999, 1000000000000, -999999999999, 9223372036854775807, -9223372036854775808] (by simp) (by simp) w2.heap.size (heap_alloc_new _ _) (by omega) (by unfold Zs; decide)).mono ?_;rintro e w3 ⟨_, ⟨y, hy, rfl⟩, rfl, hc3, hd3⟩;have HC3 := zh hc3;have HD3 := zh (HD2.o.tr (Tch.fl ((Za.refl _).alloc _) hd3));clear hc3 hd3;go_wp2_with fail;go_ret;exact ⟨_, ⟨y, hy, rfl⟩, rfl, HC3.o, HD3.o⟩
 ·go_wp2_with fail;refine (Z0 C _ HC2.o 1000000 (by omega)).mono ?_;rintro e w3 ⟨_, ⟨y, hy0, hy1, rfl⟩, rfl, hc3, hd3⟩;have HC3 := zh hc3;have HD3 := zh (HD2.o.tr hd3);clear hc3 hd3;go_wp2_with fail;go_ret;exact ⟨_, ⟨_, by unfold Zs; omega, rfl⟩, rfl, HC3.o, HD3.o⟩
 ·go_wp2_with fail;refine (Z0 C _ HC2.o 20 (by omega)).mono ?_;rintro e w3 ⟨_, ⟨y, hy0, hy1, rfl⟩, rfl, hc3, hd3⟩;have HC3 := zh hc3;have HD3 := zh (HD2.o.tr hd3);clear hc3 hd3;go_wp2_with fail;go_ret;exact ⟨_, ⟨_, by unfold Zs; omega, rfl⟩, rfl, HC3.o, HD3.o⟩
theorem Ziw (x y : Int) (w : World) : Calls Tryz.prog 163 #[.agg #[.int .i64 x, .int .i64 y]] w (Zmq w) := by
 go_enter Tryz.func163, Tryz.ntmps163;go_wp2_with fail;exact bodyPost_ret (v := .agg #[.int .i64 (bits .xor .i64 (-1) x), .int .i64 (bits .xor .i64 (-1) y)]) (by simp [results, Tryz.results163, go_sem]) rfl ⟨_, ⟨_, _, Zk7 _ _, Zk7 _ _, rfl⟩, rfl, ((Za.refl _).alloc _).alloc _⟩
theorem Zj6 (x y a b : Int) (w : World) : Calls Tryz.prog 166 #[.agg #[.int .i64 x, .int .i64 y], .agg #[.int .i64 a, .int .i64 b]] w (Zmq w) := by
 go_enter Tryz.func166, Tryz.ntmps166;go_wp2_with fail;exact bodyPost_ret (v := .agg #[.int .i64 (bits .andNot .i64 x a), .int .i64 (bits .andNot .i64 y b)]) (by simp [results, Tryz.results166, go_sem]) rfl ⟨_, ⟨_, _, Zhe _ _, Zhe _ _, rfl⟩, rfl, (((Za.refl _).alloc _).alloc _).alloc _⟩
theorem Zoz (a b : Int) (w : World) (ha : 0 ≤ a) (hab : a ≤ 63) (hb : 64 ≤ b) (hb2 : b ≤ 127) : Calls Tryz.prog 165 #[.int .u8 a, .int .u8 b] w (Znt w) := by
 have t0 : decide (b < a) = false := by simp; omega
 have t1 : decide (127 < b) = false := by simp; omega
 go_enter Tryz.func165, Tryz.ntmps165;go_wp2_with fail
 go_loopw [7] (fun i wr => ∃ j : Int, i = .int .i64 j ∧ a ≤ j ∧ j ≤ b + 1 ∧ Zsm w (w.heap.size + 1) wr) (fun i _ => (b + 1 - intOf i).toNat)
 case atStart => exact ⟨a, rfl, by omega, by omega, 0, 0, in0, in0, Zz (by simp), ((Za.refl _).alloc _).block _ (by simp) |>.trans (heap_alloc_new w _), ((Za.refl _).alloc _).alloc _⟩
 case round =>
  obtain ⟨j, rfl, hj, hj2, lo, hi, ilo, ihi, hbb, hba, hbel⟩ := hrel;have c0 := cz2 hbb;have z0 := cz2 hba;have f0 := fz hba
  by_cases hlt : j ≤ b
  ·have t1 : decide (j ≤ b) = true := by simp; omega
   have HB := zh hbb;have HA := zh hba;have HL := zh (show Za w wr from hbel);clear hbb hba hbel z0 f0;have hwr : IntKind.u8.wrap j = j := by rw [IntKind.wrap_u8]; omega
   go_wp2_with fail;refine (Zjn _ _ _ _ ilo ihi (by omega) (by omega)).mono ?_;rintro e w2 ⟨_, ⟨lo2, hi2, ilo2, ihi2, rfl⟩, rfl, hb2⟩;have hbx := (hb2.block _ (Zb HB.o)).trans HB.o;have c0 := cz2 hbx;have f0 := fz hbx;have HBX := zh hbx;have HAX := zC hb2 HA;have HLX := zh (HL.o.trans hb2);clear hbx hb2 HB HA HL;go_wp2_with fail
   go_roundw
   case rel =>
    refine ⟨j + 1, by simp, by omega, by omega, lo2, hi2, ilo2, ihi2, ?_, ?_, (HLX.o.setCell (by simp) _).setCell (by simp) _⟩
    ·have := Zaj (o := 1) (Zaj (o := 0) HBX.o (.int .i64 lo2)) (.int .i64 hi2)
     simpa using this
    ·exact (Below.heap_setCell _ _ _ _ (by show w.heap.size ≠ w.heap.size + 1; omega)).trans ((Below.heap_setCell _ _ _ _ (by show w.heap.size ≠ w.heap.size + 1; omega)).trans HAX.o)
   case measure => simp [intOf]; omega
  ·have t1 : decide (j ≤ b) = false := by simp; omega
   have HL := zh (show Za w wr from hbel);clear hbb hba hbel;go_wp2_with fail;exact bodyPost_ret (v := .tuple #[.agg #[.int .i64 lo, .int .i64 hi], .bool true]) (by simp [results, Tryz.results165, go_sem, z0, f0]) rfl ⟨_, ⟨lo, hi, ilo, ihi, rfl⟩, rfl, (HL.o.setCell (by simp) _).setCell (by simp) _⟩
/-- A result's block is written, behind the draws. -/
theorem Zd9 {C R : Nat} {w x : World} {u v : Value} (hR : w.heap.size ≤ R) (h : Zbs C w x) : Zbs C w ((x.setCell ⟨R, 0, none⟩ u).setCell ⟨R, 1, none⟩ v) :=
 ⟨⟨by simpa using h.keep.size, fun b hb hl => (Below.heap_setCell _ _ _ _ (by show b ≠ R; omega)).trans ((Below.heap_setCell _ _ _ _ (by show b ≠ R; omega)).trans (h.keep.same b hb hl))⟩, (h.below.setCell (Nat.zero_le _) _).setCell (Nat.zero_le _) _⟩
theorem Zgr {C R : Nat} {w x : World} {u v : Value} (h : Cur C x) (hR : w.heap.size ≤ R) (hC : Zbs C w x) (hCw : C < w.heap.size) : Cur C ((x.setCell ⟨R, 0, none⟩ u).setCell ⟨R, 1, none⟩ v) :=
 h.keep (P := fun b => b = R) (((Tch.refl (fun b => b = R) x).set rfl 0 u).set rfl 1 v) (fun b hb e => by omega)
theorem Zm7 (C : Nat) (w : World) (hcur : Cur C w) : Calls Tryz.prog 139 #[.pointer (some ⟨C, 0, none⟩)] w (Zi3 C Zsq w) := by
 have HCUR := zh hcur;have hlt := hcur.lt;clear hcur;go_enter Tryz.func139, Tryz.ntmps139;go_wp2_with fail;refine (Zc9 C _ (HCUR.o.later (((Za.refl _).alloc _).alloc _)) (fun t => t.size ≤ 10 ∧ ∀ j (h : j < t.size), (t[j].toNat : Int) < 128) [⟨#[]⟩, ⟨#[97]⟩, ⟨#[97, 98, 99]⟩, ⟨#[120, 121, 122]⟩, ⟨#[48, 49, 50, 51, 52, 53, 54, 55, 56, 57]⟩, ⟨#[97, 101, 105, 111, 117]⟩, ⟨#[0, 63, 64, 127]⟩, ⟨#[32, 9, 10]⟩] (by simp) (by simp) (w.heap.size + 1) (Zz (by simp)) (by omega) (by decide)).mono ?_;rintro e w2 ⟨_, ⟨t, ⟨ht1, ht2⟩, rfl⟩, rfl, hc2, hd2⟩;have HR2 := zh (hd2.has (((Za.refl _).alloc _).block w.heap.size (by simp) |>.trans (heap_alloc_new w _)) (by omega));have HC2 := zh hc2;have HD2 := zh (Tch.fl (((Za.refl _).alloc _).alloc _) hd2);clear hc2 hd2;go_wp2_with fail;refine (Zhf t w2 ht2 (by omega)).mono ?_;rintro e w3 ⟨_, ⟨lo, hi, ilo, ihi, rfl⟩, rfl, hl3⟩;have HR3 := zC hl3 HR2;have HC3 := zh (HC2.o.later hl3);have HD3 := zh (HD2.o.la hl3);clear HR2 HC2 HD2 hl3 ht1 ht2;go_wp2_with fail;refine (Z0 C _ (HC3.o.later ((Za.refl _).alloc _)) 5 (by omega)).mono ?_;rintro e w4 ⟨_, ⟨x, hx0, hx1, rfl⟩, rfl, hc4, hd4⟩;have hX : w.heap.size < w3.heap.size := Zb HR3.o;have HR4 := zh (hd4.has (((Za.refl _).alloc _).block w.heap.size hX |>.trans HR3.o) (by omega));have HX4 := zh (hd4.has (heap_alloc_new w3 _) (by omega));have HC4 := zh hc4;have HD4 := zh (HD3.o.tr (Tch.fl ((Za.refl _).alloc _) hd4));clear HR3 HC3 HD3 hc4 hd4;have hR : w.heap.size ≤ w.heap.size := Nat.le_refl _
 rcases (show x = 0 ∨ x = 1 ∨ x = 2 ∨ x = 3 ∨ x = 4 by omega) with rfl | rfl | rfl | rfl | rfl
 ·have p0 := cell_of_row _ w3.heap.size 0 _ _ _ HX4.o;have p1 := cq HX4.o 1;simp only [nD, nE, nF] at p0 p1;go_wp2_with fail;refine (Ziw _ _ _).mono ?_;rintro e w5 ⟨_, ⟨lo5, hi5, ilo5, ihi5, rfl⟩, rfl, hl5⟩;have HRX := zC hl5 HR4;have HCX := zh (HC4.o.later hl5);have HDX := zh (HD4.o.la hl5);clear HR4 HC4 HD4 hl5 p0 p1;have z0 := cz2 HRX.o;have f0 := fz HRX.o;go_wp2_with fail;exact bodyPost_ret (v := .agg #[.int .i64 lo5, .int .i64 hi5]) (by simp [results, Tryz.results139, go_sem, z0, f0]) rfl ⟨_, ⟨_, _, ilo5, ihi5, rfl⟩, rfl, Zgr HCX.o hR HDX.o hlt, Zd9 hR HDX.o⟩
 ·go_wp2_with fail;refine (Zhr C _ HC4.o).mono ?_;rintro e w5 ⟨_, ⟨y, hy, rfl⟩, rfl, hc5, hd5⟩;have HR5 := zh (hd5.has HR4.o (by omega));have HC5 := zh hc5;have HD5 := zh (HD4.o.tr hd5);clear HR4 HC4 HD4 hc5 hd5;go_wp2_with fail;refine (Zhr C _ HC5.o).mono ?_;rintro e w6 ⟨_, ⟨z, hz, rfl⟩, rfl, hc6, hd6⟩;have HRX := zh (hd6.has HR5.o (by omega));have HCX := zh hc6;have HDX := zh (HD5.o.tr hd6);clear HR5 HC5 HD5 hc6 hd6;have z0 := cz2 HRX.o;have f0 := fz HRX.o;go_wp2_with fail;exact bodyPost_ret (v := .agg #[.int .i64 y, .int .i64 z]) (by simp [results, Tryz.results139, go_sem, z0, f0]) rfl ⟨_, ⟨_, _, hy, hz, rfl⟩, rfl, Zgr HCX.o hR HDX.o hlt, Zd9 hR HDX.o⟩
 ·go_wp2_with fail;refine (Z0 C _ HC4.o 64 (by omega)).mono ?_;rintro e w5 ⟨_, ⟨y, hy0, hy1, rfl⟩, rfl, hc5, hd5⟩;have HR5 := zh (hd5.has HR4.o (by omega));have HX5 := zh (hd5.has HX4.o (by omega));have HC5 := zh hc5;have HD5 := zh (HD4.o.tr hd5);clear HR4 HC4 HD4 HX4 hc5 hd5;have u1 : IntKind.u8.wrap y = y := by rw [IntKind.wrap_u8]; omega
  go_wp2_with fail;refine (Z0 C _ HC5.o 64 (by omega)).mono ?_;rintro e w6 ⟨_, ⟨z, hz0, hz1, rfl⟩, rfl, hc6, hd6⟩;have HR6 := zh (hd6.has HR5.o (by omega));have HX6 := zh (hd6.has HX5.o (by omega));have HC6 := zh hc6;have HD6 := zh (HD5.o.tr hd6);clear HR5 HC5 HD5 HX5 hc6 hd6;have u2 : IntKind.u8.wrap (64 + z) = 64 + z := by rw [IntKind.wrap_u8]; omega
  go_wp2_with fail;refine (Zoz y (64 + z) w6 (by omega) (by omega) (by omega) (by omega)).mono ?_;rintro e w7 ⟨_, ⟨lo7, hi7, ilo7, ihi7, rfl⟩, rfl, hl7⟩;have HR7 := zC hl7 HR6;have HX7 := zC hl7 HX6;have HC7 := zh (HC6.o.later hl7);have HD7 := zh (HD6.o.la hl7);clear HR6 HC6 HD6 HX6 hl7;obtain ⟨p0, p1⟩ := cz2 HX7.o;have hXl := Zb HX7.o;go_wp2_with fail;refine (Zj6 _ _ _ _ _).mono ?_;rintro e w8 ⟨_, ⟨lo8, hi8, ilo8, ihi8, rfl⟩, rfl, hl8⟩;have HRX := zh ((((Za.refl _).alloc _).trans hl8).block _ (Zb HR7.o) |>.trans HR7.o);have HCX := zh (HC7.o.later (((Za.refl _).alloc _).trans hl8));have HDX := zh (HD7.o.la (((Za.refl _).alloc _).trans hl8));clear HR7 HC7 HD7 HX7 hl8 p0 p1;have z0 := cz2 HRX.o;have f0 := fz HRX.o;go_wp2_with fail;exact bodyPost_ret (v := .agg #[.int .i64 lo8, .int .i64 hi8]) (by simp [results, Tryz.results139, go_sem, z0, f0]) rfl ⟨_, ⟨_, _, ilo8, ihi8, rfl⟩, rfl, Zgr HCX.o hR HDX.o hlt, Zd9 hR HDX.o⟩
 ·have HRX := HR4;have HCX := HC4;have HDX := HD4;obtain ⟨p0, p1⟩ := cz2 HX4.o;have z0 := cz2 HRX.o;have f0 := fz HRX.o;go_wp2_with fail;exact bodyPost_ret (v := .agg #[.int .i64 lo, .int .i64 hi]) (by simp [results, Tryz.results139, go_sem, z0, f0]) rfl ⟨_, ⟨_, _, ilo, ihi, rfl⟩, rfl, Zgr HCX.o hR HDX.o hlt, Zd9 hR HDX.o⟩
 ·have HRX := HR4;have HCX := HC4;have HDX := HD4;obtain ⟨p0, p1⟩ := cz2 HX4.o;have z0 := cz2 HRX.o;have f0 := fz HRX.o;go_wp2_with fail;exact bodyPost_ret (v := .agg #[.int .i64 lo, .int .i64 hi]) (by simp [results, Tryz.results139, go_sem, z0, f0]) rfl ⟨_, ⟨_, _, ilo, ihi, rfl⟩, rfl, Zgr HCX.o hR HDX.o hlt, Zd9 hR HDX.o⟩
set_option maxRecDepth 100000
set_option maxHeartbeats 4000000
/-- A drawn value: its numbers fit, its text is short. -/
def vOk (v : Ze) : Prop := Zs v.kind ∧ Zs v.aH ∧ Zs v.index ∧ v.text.size ≤ 121 ∧ Zs v.set_.low ∧ Zs v.set_.high
theorem vOk.el {v : Ze} (h : vOk v) (F : Nat → Prop) (w : World) : Zd F w v [.int .i64 v.kind, .int .i64 v.aH, .int .i64 v.index, .string v.text, .int .i64 v.set_.low, .int .i64 v.set_.high] :=
 ⟨rfl, h.1, h.2.1, h.2.2.1, by have := h.2.2.2.1; unfold maxLen; omega, h.2.2.2.2.1, h.2.2.2.2.2⟩
abbrev Ztg (v : Ze) : Value := .agg #[.int .i64 v.kind, .int .i64 v.aH, .int .i64 v.index, .string v.text, .int .i64 v.set_.low, .int .i64 v.set_.high]
def Zsn (x : Value) : Prop := ∃ v : Ze, vOk v ∧ x = Ztg v
theorem Ze7 : Zs 1 := by unfold Zs; omega
theorem Zm8 : Zs 2 := by unfold Zs; omega
theorem Zth : Zs 3 := by unfold Zs; omega
theorem Zao {C R : Nat} {w x : World} (hR : w.heap.size ≤ R) (h : Zbs C w x) (vs : List Value) (o : Nat) : Zbs C w (Zm x R o vs) :=
 have hk := Z4 (F := fun b => b ≠ R) (B := R) (w := x) (fun h => h rfl) vs x o (Zg.refl _ _)
 ⟨⟨Nat.le_trans h.keep.size hk.size, fun b hb hl => (hk.same b (by omega) (Nat.lt_of_lt_of_le hl h.keep.size)).trans (h.keep.same b hb hl)⟩, h.below.trans (Z7 (Nat.zero_le _) vs x o (Below.refl _ _))⟩
theorem Za7 {C R : Nat} {w x : World} (h : Cur C x) (hR : w.heap.size ≤ R) (hd : Zbs C w x) (hC : C < w.heap.size) (vs : List Value) (o : Nat) : Cur C (Zm x R o vs) :=
 have hk := Z4 (F := fun b => b ≠ R) (B := R) (w := x) (fun h => h rfl) vs x o (Zg.refl _ _)
 h.keep (P := fun b => b = R) ⟨hk, Z7 (Nat.zero_le _) vs x o (Below.refl _ _)⟩ (fun b hb e => by omega)
theorem Zhs (a b : Int) (w : World) : Calls Tryz.prog 138 #[.agg #[.int .i64 a, .int .i64 b]] w fun e w' => e = .returned (.agg #[.int .i64 3, .int .i64 0, .int .i64 0, .string ⟨#[]⟩, .int .i64 a, .int .i64 b]) ∧ Za w w' := by
 go_enter Tryz.func138, Tryz.ntmps138;go_wp2_with fail;refine bodyPost_ret (v := .agg #[.int .i64 3, .int .i64 0, .int .i64 0, .string ⟨#[]⟩, .int .i64 a, .int .i64 b]) (by simp [results, Tryz.results138, go_sem]) rfl ⟨rfl, ?_⟩;exact ((Za.refl _).alloc _).alloc _
theorem Zdg (C : Nat) (w : World) (hcur : Cur C w) : Calls Tryz.prog 88 #[.pointer (some ⟨C, 0, none⟩)] w (Zi3 C Zsn w) := by
 have HCUR := zh hcur;have hlt := hcur.lt;clear hcur;go_enter Tryz.func88, Tryz.ntmps88;go_wp2_with fail;refine (Z0 C _ (HCUR.o.later ((Za.refl _).alloc _)) 7 (by omega)).mono ?_;rintro e w2 ⟨_, ⟨x, hx0, hx1, rfl⟩, rfl, hc2, hd2⟩;have HR2 := zh (hd2.has (heap_alloc_new w _) (by omega));have HC2 := zh hc2;have HD2 := zh (Tch.fl ((Za.refl _).alloc _) hd2);clear hc2 hd2;have hR : w.heap.size ≤ w.heap.size := Nat.le_refl _
 rcases (show x = 0 ∨ x = 1 ∨ x = 2 ∨ x = 3 ∨ x = 4 ∨ x = 5 ∨ x = 6 by omega) with rfl | rfl | rfl | rfl | rfl | rfl | rfl
 ·have HRX := HR2;have HCX := HC2;have HDX := HD2;have z0 := cz6 HRX.o;have f0 := fz HRX.o;go_wp2_with fail;have hd := Zao hR HDX.o [.int .i64 0, .int .i64 0, .int .i64 0, .string ⟨#[]⟩, .int .i64 0, .int .i64 0] 0;have hc := Za7 HCX.o hR HDX.o hlt [.int .i64 0, .int .i64 0, .int .i64 0, .string ⟨#[]⟩, .int .i64 0, .int .i64 0] 0;simp only [Zm, Nat.zero_add, Nat.reduceAdd] at hd hc;exact bodyPost_ret (v := .agg #[.int .i64 0, .int .i64 0, .int .i64 0, .string ⟨#[]⟩, .int .i64 0, .int .i64 0]) (by simp [results, Tryz.results88, go_sem, z0, f0]) rfl ⟨_, ⟨⟨0, 0, 0, ⟨#[]⟩, ⟨0, 0⟩⟩, ⟨in0, in0, in0, Nat.zero_le _, in0, in0⟩, rfl⟩, rfl, hc, hd⟩
 ·go_wp2_with fail;refine (Zdc C _ (HC2.o.later ((Za.refl _).alloc _)) Zs [0, 1, 2, 3, -1, 7, 999999999999, -999999999999] (by simp) (by simp) w2.heap.size (heap_alloc_new _ _) (by have := HC2.o.lt; omega) (by unfold Zs; decide)).mono ?_;rintro e w3 ⟨_, ⟨y, hy, rfl⟩, rfl, hc3, hd3⟩;have HR3 := zh (hd3.has (((Za.refl _).alloc _).block _ (Zb HR2.o) |>.trans HR2.o) (by omega));have HC3 := zh hc3;have HD3 := zh (HD2.o.tr (Tch.fl ((Za.refl _).alloc _) hd3));clear hc3 hd3 HR2 HC2 HD2;go_wp2_with fail;refine (Zbd y w3).mono ?_;rintro e w4 ⟨rfl, hl4⟩;have HRX := zC hl4 HR3;have HCX := zh (HC3.o.later hl4);have HDX := zh (HD3.o.la hl4);clear HR3 HC3 HD3 hl4;have z0 := cz6 HRX.o;have f0 := fz HRX.o;go_wp2_with fail;have hd := Zao hR HDX.o [.int .i64 1, .int .i64 y, .int .i64 0, .string ⟨#[]⟩, .int .i64 0, .int .i64 0] 0;have hc := Za7 HCX.o hR HDX.o hlt [.int .i64 1, .int .i64 y, .int .i64 0, .string ⟨#[]⟩, .int .i64 0, .int .i64 0] 0;simp only [Zm, Nat.zero_add, Nat.reduceAdd] at hd hc;exact bodyPost_ret (v := .agg #[.int .i64 1, .int .i64 y, .int .i64 0, .string ⟨#[]⟩, .int .i64 0, .int .i64 0]) (by simp [results, Tryz.results88, go_sem, z0, f0]) rfl ⟨_, ⟨⟨1, y, 0, ⟨#[]⟩, ⟨0, 0⟩⟩, ⟨Ze7, hy, in0, Nat.zero_le _, in0, in0⟩, rfl⟩, rfl, hc, hd⟩
 ·go_wp2_with fail;refine (Zdc C _ (HC2.o.later ((Za.refl _).alloc _)) Zs [0, 1, 2, 3, -1, 7, 999999999999, -999999999999] (by simp) (by simp) w2.heap.size (heap_alloc_new _ _) (by have := HC2.o.lt; omega) (by unfold Zs; decide)).mono ?_;rintro e w3 ⟨_, ⟨y, hy, rfl⟩, rfl, hc3, hd3⟩;have HR3 := zh (hd3.has (((Za.refl _).alloc _).block _ (Zb HR2.o) |>.trans HR2.o) (by omega));have HC3 := zh hc3;have HD3 := zh (HD2.o.tr (Tch.fl ((Za.refl _).alloc _) hd3));clear hc3 hd3 HR2 HC2 HD2;go_wp2_with fail;refine (Zbd y w3).mono ?_;rintro e w4 ⟨rfl, hl4⟩;have HRX := zC hl4 HR3;have HCX := zh (HC3.o.later hl4);have HDX := zh (HD3.o.la hl4);clear HR3 HC3 HD3 hl4;have z0 := cz6 HRX.o;have f0 := fz HRX.o;go_wp2_with fail;have hd := Zao hR HDX.o [.int .i64 1, .int .i64 y, .int .i64 0, .string ⟨#[]⟩, .int .i64 0, .int .i64 0] 0;have hc := Za7 HCX.o hR HDX.o hlt [.int .i64 1, .int .i64 y, .int .i64 0, .string ⟨#[]⟩, .int .i64 0, .int .i64 0] 0;simp only [Zm, Nat.zero_add, Nat.reduceAdd] at hd hc;exact bodyPost_ret (v := .agg #[.int .i64 1, .int .i64 y, .int .i64 0, .string ⟨#[]⟩, .int .i64 0, .int .i64 0]) (by simp [results, Tryz.results88, go_sem, z0, f0]) rfl ⟨_, ⟨⟨1, y, 0, ⟨#[]⟩, ⟨0, 0⟩⟩, ⟨Ze7, hy, in0, Nat.zero_le _, in0, in0⟩, rfl⟩, rfl, hc, hd⟩
 ·go_wp2_with fail;refine (Zio C _ HC2.o).mono ?_;rintro e w3 ⟨_, ⟨y, hy, rfl⟩, rfl, hc3, hd3⟩;have HR3 := zh (hd3.has HR2.o (by omega));have HC3 := zh hc3;have HD3 := zh (HD2.o.tr hd3);clear hc3 hd3 HR2 HC2 HD2;go_wp2_with fail;refine (Zcx y w3).mono ?_;rintro e w4 ⟨rfl, hl4⟩;have HRX := zC hl4 HR3;have HCX := zh (HC3.o.later hl4);have HDX := zh (HD3.o.la hl4);clear HR3 HC3 HD3 hl4;have z0 := cz6 HRX.o;have f0 := fz HRX.o;go_wp2_with fail;have hd := Zao hR HDX.o [.int .i64 2, .int .i64 0, .int .i64 0, .string y, .int .i64 0, .int .i64 0] 0;have hc := Za7 HCX.o hR HDX.o hlt [.int .i64 2, .int .i64 0, .int .i64 0, .string y, .int .i64 0, .int .i64 0] 0;simp only [Zm, Nat.zero_add, Nat.reduceAdd] at hd hc;exact bodyPost_ret (v := .agg #[.int .i64 2, .int .i64 0, .int .i64 0, .string y, .int .i64 0, .int .i64 0]) (by simp [results, Tryz.results88, go_sem, z0, f0]) rfl ⟨_, ⟨⟨2, 0, 0, y, ⟨0, 0⟩⟩, ⟨Zm8, in0, in0, hy, in0, in0⟩, rfl⟩, rfl, hc, hd⟩
 ·go_wp2_with fail;refine (Zio C _ HC2.o).mono ?_;rintro e w3 ⟨_, ⟨y, hy, rfl⟩, rfl, hc3, hd3⟩;have HR3 := zh (hd3.has HR2.o (by omega));have HC3 := zh hc3;have HD3 := zh (HD2.o.tr hd3);clear hc3 hd3 HR2 HC2 HD2;go_wp2_with fail;refine (Zcx y w3).mono ?_;rintro e w4 ⟨rfl, hl4⟩;have HRX := zC hl4 HR3;have HCX := zh (HC3.o.later hl4);have HDX := zh (HD3.o.la hl4);clear HR3 HC3 HD3 hl4;have z0 := cz6 HRX.o;have f0 := fz HRX.o;go_wp2_with fail;have hd := Zao hR HDX.o [.int .i64 2, .int .i64 0, .int .i64 0, .string y, .int .i64 0, .int .i64 0] 0;have hc := Za7 HCX.o hR HDX.o hlt [.int .i64 2, .int .i64 0, .int .i64 0, .string y, .int .i64 0, .int .i64 0] 0;simp only [Zm, Nat.zero_add, Nat.reduceAdd] at hd hc;exact bodyPost_ret (v := .agg #[.int .i64 2, .int .i64 0, .int .i64 0, .string y, .int .i64 0, .int .i64 0]) (by simp [results, Tryz.results88, go_sem, z0, f0]) rfl ⟨_, ⟨⟨2, 0, 0, y, ⟨0, 0⟩⟩, ⟨Zm8, in0, in0, hy, in0, in0⟩, rfl⟩, rfl, hc, hd⟩
 ·go_wp2_with fail;refine (Zm7 C _ HC2.o).mono ?_;rintro e w3 ⟨_, ⟨lo, hi, ilo, ihi, rfl⟩, rfl, hc3, hd3⟩;have HR3 := zh (hd3.has HR2.o (by omega));have HC3 := zh hc3;have HD3 := zh (HD2.o.tr hd3);clear hc3 hd3 HR2 HC2 HD2;go_wp2_with fail;refine (Zhs lo hi w3).mono ?_;rintro e w4 ⟨rfl, hl4⟩;have HRX := zC hl4 HR3;have HCX := zh (HC3.o.later hl4);have HDX := zh (HD3.o.la hl4);clear HR3 HC3 HD3 hl4;have z0 := cz6 HRX.o;have f0 := fz HRX.o;go_wp2_with fail;have hd := Zao hR HDX.o [.int .i64 3, .int .i64 0, .int .i64 0, .string ⟨#[]⟩, .int .i64 lo, .int .i64 hi] 0;have hc := Za7 HCX.o hR HDX.o hlt [.int .i64 3, .int .i64 0, .int .i64 0, .string ⟨#[]⟩, .int .i64 lo, .int .i64 hi] 0;simp only [Zm, Nat.zero_add, Nat.reduceAdd] at hd hc;exact bodyPost_ret (v := .agg #[.int .i64 3, .int .i64 0, .int .i64 0, .string ⟨#[]⟩, .int .i64 lo, .int .i64 hi]) (by simp [results, Tryz.results88, go_sem, z0, f0]) rfl ⟨_, ⟨⟨3, 0, 0, ⟨#[]⟩, ⟨lo, hi⟩⟩, ⟨Zth, in0, in0, Nat.zero_le _, ilo, ihi⟩, rfl⟩, rfl, hc, hd⟩
 ·go_wp2_with fail;refine (Z0 C _ HC2.o 23 (by omega)).mono ?_;rintro e w3 ⟨_, ⟨a, ha0, ha1, rfl⟩, rfl, hc, hd⟩;have HR3 := zh (hd.has HR2.o (by omega));have HC3 := zh hc;have HD3 := zh (HD2.o.tr hd);clear hc hd HR2 HC2 HD2;go_wp2_with fail;refine (Z0 C _ HC3.o 5 (by omega)).mono ?_;rintro e w4 ⟨_, ⟨b, hb0, hb1, rfl⟩, rfl, hc, hd⟩;have HR4 := zh (hd.has HR3.o (by omega));have HC4 := zh hc;have HD4 := zh (HD3.o.tr hd);clear hc hd HR3 HC3 HD3;go_wp2_with fail;refine (Z0 C _ HC4.o 4 (by omega)).mono ?_;rintro e w5 ⟨_, ⟨c, hc0, hc1, rfl⟩, rfl, hc, hd⟩;have HR5 := zh (hd.has HR4.o (by omega));have HC5 := zh hc;have HD5 := zh (HD4.o.tr hd);clear hc hd HR4 HC4 HD4;go_wp2_with fail;refine (Zc9 C _ (HC5.o.later ((Za.refl _).alloc _)) (fun t => t.size ≤ 12) [⟨#[]⟩, ⟨#[]⟩, ⟨#[]⟩, ⟨#[113]⟩] (by simp) (by simp) w5.heap.size (heap_alloc_new _ _) (by have := HC5.o.lt; omega) (by decide)).mono ?_;rintro e w6 ⟨_, ⟨t, ht, rfl⟩, rfl, hc, hd⟩;have HRX := zh (hd.has (((Za.refl _).alloc _).block _ (Zb HR5.o) |>.trans HR5.o) (by omega));have HCX := zh hc;have HDX := zh (HD5.o.tr (Tch.fl ((Za.refl _).alloc _) hd));clear hc hd HR5 HC5 HD5;have z0 := cz6 HRX.o;have f0 := fz HRX.o;go_wp2_with fail;have hd := Zao hR HDX.o [.int .i64 (a - 1), .int .i64 (b - 1), .int .i64 (c - 1), .string t, .int .i64 0, .int .i64 0] 0;have hc := Za7 HCX.o hR HDX.o hlt [.int .i64 (a - 1), .int .i64 (b - 1), .int .i64 (c - 1), .string t, .int .i64 0, .int .i64 0] 0
  simp only [Zm, Nat.zero_add, Nat.reduceAdd] at hd hc;exact bodyPost_ret (v := .agg #[.int .i64 (a - 1), .int .i64 (b - 1), .int .i64 (c - 1), .string t, .int .i64 0, .int .i64 0]) (by simp [results, Tryz.results88, go_sem, z0, f0]) rfl ⟨_, ⟨⟨(a - 1), (b - 1), (c - 1), t, ⟨0, 0⟩⟩, ⟨(show Zs (a - 1) by unfold Zs; omega), (show Zs (b - 1) by unfold Zs; omega), (show Zs (c - 1) by unfold Zs; omega), (show t.size ≤ 121 by omega), in0, in0⟩, rfl⟩, rfl, hc, hd⟩
set_option maxRecDepth 100000
set_option maxHeartbeats 8000000
theorem Z1.tch {F P : Nat → Prop} {w x : World} {B : Nat} {r : Zf} {cs : List Value} (h : Z1 F w B r cs) (ht : Tch P w x) (hF : ∀ b, F b → ¬ P b) (hB : ¬ P B) : Z1 F x B r cs :=
 ⟨ht.has h.blk hB, Zy.keep h.el (fun _ h => h) (ht.keeps hF)⟩
theorem inK (n : Int) (h : -9223372036854775808 ≤ n) (h2 : n ≤ 9223372036854775807) : Zs n := ⟨h, h2⟩
theorem Zcy (C B : Nat) (r : Zf) (cs : List Value) (F : Nat → Prop) (w : World) (hcur : Cur C w) (h : Z1 F w B r cs) (hFC : ¬ F C) (hBC : B ≠ C) (hm : r.aA.length ≤ 1000000) :
  Calls Tryz.prog 89 #[.pointer (some ⟨C, 0, none⟩), .pointer (some ⟨B, 0, none⟩)] w (Zi3 C Zsn w) := by
 have HCUR := zh hcur;have HS := zh h;have hlt := hcur.lt;have hFC2 : ∀ b, F b → ¬ b = C := fun b hb e => hFC (e ▸ hb);clear hcur h;have hR : w.heap.size ≤ w.heap.size := Nat.le_refl _;go_enter Tryz.func89, Tryz.ntmps89;go_upto_region 1 with (fail);go_wp2_with fail;refine (Zci C _ (HCUR.o.later ((Za.refl _).alloc _)) 2 (by omega)).mono ?_;rintro e w2 ⟨_, ⟨q, rfl⟩, rfl, hc2, hd2⟩;have HR2 := zh (hd2.has (heap_alloc_new w _) (by omega));have HC2 := zh hc2;have HD2 := zh (Tch.fl ((Za.refl _).alloc _) hd2);have HS2 := zh (HS.o.tch HD2.o hFC2 hBC);clear hc2 hd2 HS HCUR;obtain ⟨A, c, m2, hcA, hcB, hrow⟩ := HS2.o.aA;have HROW := zh hrow;clear hrow
 cases q with
 | false =>
  have HRa := HR2;have HCa := HC2;have HSa := HS2;have HDa := HD2;clear HR2 HC2 HS2 HD2;go_wp2_with fail;refine (Zdg C _ HCa.o).mono ?_;rintro e w5 ⟨_, ⟨v, hv, rfl⟩, rfl, hc5, hd5⟩;have HR5 := zh (hd5.has HRa.o (by omega));have HC5 := zh hc5;have HS5 := zh (HSa.o.tch hd5 hFC2 hBC);have HD5 := zh (HDa.o.tr hd5);have HV := zh hv;clear hc5 hd5 HRa HCa HSa HDa hv;obtain ⟨w6, hw6⟩ : ∃ x, x = w5.alloc (.cells #[.int .i64 v.kind, .int .i64 v.aH, .int .i64 v.index, .string v.text, .int .i64 v.set_.low, .int .i64 v.set_.high] 34) := ⟨_, rfl⟩;have hl6 : Za w5 w6 := by rw [hw6]; exact (Za.refl _).alloc _
  have HX6 := zh (show w6.heap[w5.heap.size]? = some (.cells #[.int .i64 v.kind, .int .i64 v.aH, .int .i64 v.index, .string v.text, .int .i64 v.set_.low, .int .i64 v.set_.high] 34 (0, 0)) by rw [hw6]; exact heap_alloc_new _ _);have HR6 := zC hl6 HR5;have HC6 := zh (HC5.o.later hl6);have HS6 := zh (HS5.o.later hl6);have HD6 := zh (HD5.o.la hl6);clear HR5 HC5 HS5 HD5;go_upto_region 7 with (fail);rw [← hw6];clear hw6 hl6;have p0 := cz6 HX6.o;go_wp2_with fail;refine (Zcu r B cs F w6 v _ HS6.o (HV.o.el F w6)).mono ?_;rintro e w7 ⟨rfl, hl7⟩;replace hl7 : Za w6 w7 := hl7;have HX7 := zC hl7 HX6;have HR7 := zC hl7 HR6;have HC7 := zh (HC6.o.later hl7);have HD7 := zh (HD6.o.la hl7);clear HX6 HR6 HC6 HS6 HD6 hl7 p0;obtain ⟨dq, hdq⟩ : ∃ q, Zaw r v = q := ⟨_, rfl⟩;rw [hdq];clear hdq
  cases dq with
  | true =>
   have HRX := HR7;have HCX := HC7;have HDX := HD7;have p0 := cz6 HX7.o;have z0 := cz6 HRX.o;have f0 := fz HRX.o;go_wp2_with fail;have hd := Zao hR HDX.o [.int .i64 v.kind, .int .i64 v.aH, .int .i64 v.index, .string v.text, .int .i64 v.set_.low, .int .i64 v.set_.high] 0;have hc := Za7 HCX.o hR HDX.o hlt [.int .i64 v.kind, .int .i64 v.aH, .int .i64 v.index, .string v.text, .int .i64 v.set_.low, .int .i64 v.set_.high] 0;simp only [Zm, Nat.zero_add, Nat.reduceAdd] at hd hc;exact bodyPost_ret (v := .agg #[.int .i64 v.kind, .int .i64 v.aH, .int .i64 v.index, .string v.text, .int .i64 v.set_.low, .int .i64 v.set_.high]) (by simp [results, Tryz.results89, go_sem, z0, f0]) rfl ⟨_, ⟨⟨v.kind, v.aH, v.index, v.text, ⟨v.set_.low, v.set_.high⟩⟩, HV.o, rfl⟩, rfl, hc, hd⟩
  | false =>
   go_wp2_with fail;refine (Z0 C _ HC7.o 5 (by omega)).mono ?_;rintro e w8 ⟨_, ⟨y, hy0, hy1, rfl⟩, rfl, hc8, hd8⟩;have HR8 := zh (hd8.has HR7.o (by omega));have HC8 := zh hc8;have HD8 := zh (HD7.o.tr hd8);clear hc8 hd8 HR7 HC7 HD7;go_wp2_with fail;refine (Zbd y w8).mono ?_;rintro e w9 ⟨rfl, hl9⟩;have HRX := zC hl9 HR8;have HCX := zh (HC8.o.later hl9);have HDX := zh (HD8.o.la hl9);clear HR8 HC8 HD8 hl9;have z0 := cz6 HRX.o;have f0 := fz HRX.o;go_wp2_with fail;have hd := Zao hR HDX.o [.int .i64 1, .int .i64 y, .int .i64 0, .string ⟨#[]⟩, .int .i64 0, .int .i64 0] 0;have hc := Za7 HCX.o hR HDX.o hlt [.int .i64 1, .int .i64 y, .int .i64 0, .string ⟨#[]⟩, .int .i64 0, .int .i64 0] 0;simp only [Zm, Nat.zero_add, Nat.reduceAdd] at hd hc;exact bodyPost_ret (v := .agg #[.int .i64 1, .int .i64 y, .int .i64 0, .string ⟨#[]⟩, .int .i64 0, .int .i64 0]) (by simp [results, Tryz.results89, go_sem, z0, f0]) rfl ⟨_, ⟨⟨1, y, 0, ⟨#[]⟩, ⟨0, 0⟩⟩, ⟨Ze7, inK y (by omega) (by omega), in0, Nat.zero_le _, in0, in0⟩, rfl⟩, rfl, hc, hd⟩
 | true =>
  by_cases hn : r.aA.length = 0
  ·have t1 : decide ((0 : Int) < r.aA.length) = false := decide_eq_false (by omega);have HRa := HR2;have HCa := HC2;have HSa := HS2;have HDa := HD2;clear HR2 HC2 HS2 HD2;go_wp2_with fail;refine (Zdg C _ HCa.o).mono ?_;rintro e w5 ⟨_, ⟨v, hv, rfl⟩, rfl, hc5, hd5⟩;have HR5 := zh (hd5.has HRa.o (by omega));have HC5 := zh hc5;have HS5 := zh (HSa.o.tch hd5 hFC2 hBC);have HD5 := zh (HDa.o.tr hd5);have HV := zh hv;clear hc5 hd5 HRa HCa HSa HDa hv;obtain ⟨w6, hw6⟩ : ∃ x, x = w5.alloc (.cells #[.int .i64 v.kind, .int .i64 v.aH, .int .i64 v.index, .string v.text, .int .i64 v.set_.low, .int .i64 v.set_.high] 34) := ⟨_, rfl⟩;have hl6 : Za w5 w6 := by rw [hw6]; exact (Za.refl _).alloc _
   have HX6 := zh (show w6.heap[w5.heap.size]? = some (.cells #[.int .i64 v.kind, .int .i64 v.aH, .int .i64 v.index, .string v.text, .int .i64 v.set_.low, .int .i64 v.set_.high] 34 (0, 0)) by rw [hw6]; exact heap_alloc_new _ _);have HR6 := zC hl6 HR5;have HC6 := zh (HC5.o.later hl6);have HS6 := zh (HS5.o.later hl6);have HD6 := zh (HD5.o.la hl6);clear HR5 HC5 HS5 HD5;go_upto_region 7 with (fail);rw [← hw6];clear hw6 hl6;have p0 := cz6 HX6.o;go_wp2_with fail;refine (Zcu r B cs F w6 v _ HS6.o (HV.o.el F w6)).mono ?_;rintro e w7 ⟨rfl, hl7⟩;replace hl7 : Za w6 w7 := hl7;have HX7 := zC hl7 HX6;have HR7 := zC hl7 HR6;have HC7 := zh (HC6.o.later hl7);have HD7 := zh (HD6.o.la hl7);clear HX6 HR6 HC6 HS6 HD6 hl7 p0;obtain ⟨dq, hdq⟩ : ∃ q, Zaw r v = q := ⟨_, rfl⟩;rw [hdq];clear hdq
   cases dq with
   | true =>
    have HRX := HR7;have HCX := HC7;have HDX := HD7;have p0 := cz6 HX7.o;have z0 := cz6 HRX.o;have f0 := fz HRX.o;go_wp2_with fail;have hd := Zao hR HDX.o [.int .i64 v.kind, .int .i64 v.aH, .int .i64 v.index, .string v.text, .int .i64 v.set_.low, .int .i64 v.set_.high] 0;have hc := Za7 HCX.o hR HDX.o hlt [.int .i64 v.kind, .int .i64 v.aH, .int .i64 v.index, .string v.text, .int .i64 v.set_.low, .int .i64 v.set_.high] 0;simp only [Zm, Nat.zero_add, Nat.reduceAdd] at hd hc;exact bodyPost_ret (v := .agg #[.int .i64 v.kind, .int .i64 v.aH, .int .i64 v.index, .string v.text, .int .i64 v.set_.low, .int .i64 v.set_.high]) (by simp [results, Tryz.results89, go_sem, z0, f0]) rfl ⟨_, ⟨⟨v.kind, v.aH, v.index, v.text, ⟨v.set_.low, v.set_.high⟩⟩, HV.o, rfl⟩, rfl, hc, hd⟩
   | false =>
    go_wp2_with fail;refine (Z0 C _ HC7.o 5 (by omega)).mono ?_;rintro e w8 ⟨_, ⟨y, hy0, hy1, rfl⟩, rfl, hc8, hd8⟩;have HR8 := zh (hd8.has HR7.o (by omega));have HC8 := zh hc8;have HD8 := zh (HD7.o.tr hd8);clear hc8 hd8 HR7 HC7 HD7;go_wp2_with fail;refine (Zbd y w8).mono ?_;rintro e w9 ⟨rfl, hl9⟩;have HRX := zC hl9 HR8;have HCX := zh (HC8.o.later hl9);have HDX := zh (HD8.o.la hl9);clear HR8 HC8 HD8 hl9;have z0 := cz6 HRX.o;have f0 := fz HRX.o;go_wp2_with fail;have hd := Zao hR HDX.o [.int .i64 1, .int .i64 y, .int .i64 0, .string ⟨#[]⟩, .int .i64 0, .int .i64 0] 0;have hc := Za7 HCX.o hR HDX.o hlt [.int .i64 1, .int .i64 y, .int .i64 0, .string ⟨#[]⟩, .int .i64 0, .int .i64 0] 0;simp only [Zm, Nat.zero_add, Nat.reduceAdd] at hd hc;exact bodyPost_ret (v := .agg #[.int .i64 1, .int .i64 y, .int .i64 0, .string ⟨#[]⟩, .int .i64 0, .int .i64 0]) (by simp [results, Tryz.results89, go_sem, z0, f0]) rfl ⟨_, ⟨⟨1, y, 0, ⟨#[]⟩, ⟨0, 0⟩⟩, ⟨Ze7, inK y (by omega) (by omega), in0, Nat.zero_le _, in0, in0⟩, rfl⟩, rfl, hc, hd⟩
  ·have t1 : decide ((0 : Int) < r.aA.length) = true := decide_eq_true (by omega);go_wp2_with fail;refine (Z0 C _ HC2.o r.aA.length hm).mono ?_;rintro e w3 ⟨_, ⟨x, hx0, hx1, rfl⟩, rfl, hc3, hd3⟩;obtain ⟨j, rfl⟩ : ∃ j : Nat, x = j := ⟨x.toNat, by omega⟩;have hj : j < r.aA.length := by omega
   have HR3 := zh (hd3.has HR2.o (by omega));have HC3 := zh hc3;have HS3 := zh (HS2.o.tch hd3 hFC2 hBC);have HD3 := zh (HD2.o.tr hd3);clear hc3 hd3 HR2 HC2 HS2 HD2 m2 HROW hcA hcB;obtain ⟨A, c, m2, hcA, hcB, hrow⟩ := HS3.o.aA;obtain ⟨ob, oo, Ai, ci, Ak, ck, rfl, hob, o0, -, -, -, -, -, -, ik, -, -⟩ := Z1.obj hrow hj;have t2 : decide (j < r.aA.length) = true := by simp; omega
   clear hrow;obtain ⟨kd, hkd⟩ : ∃ k, r.aA[j].kind = k := ⟨_, rfl⟩;rw [hkd] at o0 ik;clear hkd
   by_cases hk : 2 ≤ kd ∧ kd ≤ 7
   ·rcases (show kd = 2 ∨ kd = 3 ∨ kd = 4 ∨ kd = 5 ∨ kd = 6 ∨ kd = 7 by omega) with rfl | rfl | rfl | rfl | rfl | rfl
    ·have HRX := zh ((((Za.refl _).alloc (.cells #[.int .i64 4, .int .i64 5, .int .i64 6, .int .i64 7, .int .i64 11, .int .i64 12] 3)).block _ (Zb HR3.o)).trans HR3.o);have HCX := zh (HC3.o.later ((Za.refl _).alloc (.cells #[.int .i64 4, .int .i64 5, .int .i64 6, .int .i64 7, .int .i64 11, .int .i64 12] 3)));have HDX := zh (HD3.o.la ((Za.refl _).alloc (.cells #[.int .i64 4, .int .i64 5, .int .i64 6, .int .i64 7, .int .i64 11, .int .i64 12] 3)));clear HR3 HC3 HD3 HS3;have z0 := cz6 HRX.o;have f0 := fz HRX.o;go_wp2_with fail;have hd := Zao hR HDX.o [.int .i64 4, .int .i64 (j : Int), .int .i64 0, .string ⟨#[]⟩, .int .i64 0, .int .i64 0] 0;have hc := Za7 HCX.o hR HDX.o hlt [.int .i64 4, .int .i64 (j : Int), .int .i64 0, .string ⟨#[]⟩, .int .i64 0, .int .i64 0] 0;simp only [Zm, Nat.zero_add, Nat.reduceAdd] at hd hc;exact bodyPost_ret (v := .agg #[.int .i64 4, .int .i64 (j : Int), .int .i64 0, .string ⟨#[]⟩, .int .i64 0, .int .i64 0]) (by simp [results, Tryz.results89, go_sem, z0, f0]) rfl ⟨_, ⟨⟨4, (j : Int), 0, ⟨#[]⟩, ⟨0, 0⟩⟩, ⟨inK 4 (by omega) (by omega), inK j (by omega) (by omega), in0, Nat.zero_le _, in0, in0⟩, rfl⟩, rfl, hc, hd⟩
    ·have HRX := zh ((((Za.refl _).alloc (.cells #[.int .i64 4, .int .i64 5, .int .i64 6, .int .i64 7, .int .i64 11, .int .i64 12] 3)).block _ (Zb HR3.o)).trans HR3.o);have HCX := zh (HC3.o.later ((Za.refl _).alloc (.cells #[.int .i64 4, .int .i64 5, .int .i64 6, .int .i64 7, .int .i64 11, .int .i64 12] 3)));have HDX := zh (HD3.o.la ((Za.refl _).alloc (.cells #[.int .i64 4, .int .i64 5, .int .i64 6, .int .i64 7, .int .i64 11, .int .i64 12] 3)));clear HR3 HC3 HD3 HS3;have z0 := cz6 HRX.o;have f0 := fz HRX.o;go_wp2_with fail;have hd := Zao hR HDX.o [.int .i64 5, .int .i64 (j : Int), .int .i64 0, .string ⟨#[]⟩, .int .i64 0, .int .i64 0] 0;have hc := Za7 HCX.o hR HDX.o hlt [.int .i64 5, .int .i64 (j : Int), .int .i64 0, .string ⟨#[]⟩, .int .i64 0, .int .i64 0] 0;simp only [Zm, Nat.zero_add, Nat.reduceAdd] at hd hc;exact bodyPost_ret (v := .agg #[.int .i64 5, .int .i64 (j : Int), .int .i64 0, .string ⟨#[]⟩, .int .i64 0, .int .i64 0]) (by simp [results, Tryz.results89, go_sem, z0, f0]) rfl ⟨_, ⟨⟨5, (j : Int), 0, ⟨#[]⟩, ⟨0, 0⟩⟩, ⟨inK 5 (by omega) (by omega), inK j (by omega) (by omega), in0, Nat.zero_le _, in0, in0⟩, rfl⟩, rfl, hc, hd⟩
    ·have HRX := zh ((((Za.refl _).alloc (.cells #[.int .i64 4, .int .i64 5, .int .i64 6, .int .i64 7, .int .i64 11, .int .i64 12] 3)).block _ (Zb HR3.o)).trans HR3.o);have HCX := zh (HC3.o.later ((Za.refl _).alloc (.cells #[.int .i64 4, .int .i64 5, .int .i64 6, .int .i64 7, .int .i64 11, .int .i64 12] 3)));have HDX := zh (HD3.o.la ((Za.refl _).alloc (.cells #[.int .i64 4, .int .i64 5, .int .i64 6, .int .i64 7, .int .i64 11, .int .i64 12] 3)));clear HR3 HC3 HD3 HS3;have z0 := cz6 HRX.o;have f0 := fz HRX.o;go_wp2_with fail;have hd := Zao hR HDX.o [.int .i64 6, .int .i64 (j : Int), .int .i64 0, .string ⟨#[]⟩, .int .i64 0, .int .i64 0] 0;have hc := Za7 HCX.o hR HDX.o hlt [.int .i64 6, .int .i64 (j : Int), .int .i64 0, .string ⟨#[]⟩, .int .i64 0, .int .i64 0] 0;simp only [Zm, Nat.zero_add, Nat.reduceAdd] at hd hc;exact bodyPost_ret (v := .agg #[.int .i64 6, .int .i64 (j : Int), .int .i64 0, .string ⟨#[]⟩, .int .i64 0, .int .i64 0]) (by simp [results, Tryz.results89, go_sem, z0, f0]) rfl ⟨_, ⟨⟨6, (j : Int), 0, ⟨#[]⟩, ⟨0, 0⟩⟩, ⟨inK 6 (by omega) (by omega), inK j (by omega) (by omega), in0, Nat.zero_le _, in0, in0⟩, rfl⟩, rfl, hc, hd⟩
    ·have HRX := zh ((((Za.refl _).alloc (.cells #[.int .i64 4, .int .i64 5, .int .i64 6, .int .i64 7, .int .i64 11, .int .i64 12] 3)).block _ (Zb HR3.o)).trans HR3.o);have HCX := zh (HC3.o.later ((Za.refl _).alloc (.cells #[.int .i64 4, .int .i64 5, .int .i64 6, .int .i64 7, .int .i64 11, .int .i64 12] 3)));have HDX := zh (HD3.o.la ((Za.refl _).alloc (.cells #[.int .i64 4, .int .i64 5, .int .i64 6, .int .i64 7, .int .i64 11, .int .i64 12] 3)));clear HR3 HC3 HD3 HS3;have z0 := cz6 HRX.o;have f0 := fz HRX.o;go_wp2_with fail;have hd := Zao hR HDX.o [.int .i64 7, .int .i64 (j : Int), .int .i64 0, .string ⟨#[]⟩, .int .i64 0, .int .i64 0] 0;have hc := Za7 HCX.o hR HDX.o hlt [.int .i64 7, .int .i64 (j : Int), .int .i64 0, .string ⟨#[]⟩, .int .i64 0, .int .i64 0] 0;simp only [Zm, Nat.zero_add, Nat.reduceAdd] at hd hc;exact bodyPost_ret (v := .agg #[.int .i64 7, .int .i64 (j : Int), .int .i64 0, .string ⟨#[]⟩, .int .i64 0, .int .i64 0]) (by simp [results, Tryz.results89, go_sem, z0, f0]) rfl ⟨_, ⟨⟨7, (j : Int), 0, ⟨#[]⟩, ⟨0, 0⟩⟩, ⟨inK 7 (by omega) (by omega), inK j (by omega) (by omega), in0, Nat.zero_le _, in0, in0⟩, rfl⟩, rfl, hc, hd⟩
    ·have HRX := zh ((((Za.refl _).alloc (.cells #[.int .i64 4, .int .i64 5, .int .i64 6, .int .i64 7, .int .i64 11, .int .i64 12] 3)).block _ (Zb HR3.o)).trans HR3.o);have HCX := zh (HC3.o.later ((Za.refl _).alloc (.cells #[.int .i64 4, .int .i64 5, .int .i64 6, .int .i64 7, .int .i64 11, .int .i64 12] 3)));have HDX := zh (HD3.o.la ((Za.refl _).alloc (.cells #[.int .i64 4, .int .i64 5, .int .i64 6, .int .i64 7, .int .i64 11, .int .i64 12] 3)));clear HR3 HC3 HD3 HS3;have z0 := cz6 HRX.o;have f0 := fz HRX.o;go_wp2_with fail;have hd := Zao hR HDX.o [.int .i64 11, .int .i64 (j : Int), .int .i64 0, .string ⟨#[]⟩, .int .i64 0, .int .i64 0] 0;have hc := Za7 HCX.o hR HDX.o hlt [.int .i64 11, .int .i64 (j : Int), .int .i64 0, .string ⟨#[]⟩, .int .i64 0, .int .i64 0] 0;simp only [Zm, Nat.zero_add, Nat.reduceAdd] at hd hc;exact bodyPost_ret (v := .agg #[.int .i64 11, .int .i64 (j : Int), .int .i64 0, .string ⟨#[]⟩, .int .i64 0, .int .i64 0]) (by simp [results, Tryz.results89, go_sem, z0, f0]) rfl ⟨_, ⟨⟨11, (j : Int), 0, ⟨#[]⟩, ⟨0, 0⟩⟩, ⟨inK 11 (by omega) (by omega), inK j (by omega) (by omega), in0, Nat.zero_le _, in0, in0⟩, rfl⟩, rfl, hc, hd⟩
    ·have HRX := zh ((((Za.refl _).alloc (.cells #[.int .i64 4, .int .i64 5, .int .i64 6, .int .i64 7, .int .i64 11, .int .i64 12] 3)).block _ (Zb HR3.o)).trans HR3.o);have HCX := zh (HC3.o.later ((Za.refl _).alloc (.cells #[.int .i64 4, .int .i64 5, .int .i64 6, .int .i64 7, .int .i64 11, .int .i64 12] 3)));have HDX := zh (HD3.o.la ((Za.refl _).alloc (.cells #[.int .i64 4, .int .i64 5, .int .i64 6, .int .i64 7, .int .i64 11, .int .i64 12] 3)));clear HR3 HC3 HD3 HS3;have z0 := cz6 HRX.o;have f0 := fz HRX.o;go_wp2_with fail;have hd := Zao hR HDX.o [.int .i64 12, .int .i64 (j : Int), .int .i64 0, .string ⟨#[]⟩, .int .i64 0, .int .i64 0] 0;have hc := Za7 HCX.o hR HDX.o hlt [.int .i64 12, .int .i64 (j : Int), .int .i64 0, .string ⟨#[]⟩, .int .i64 0, .int .i64 0] 0;simp only [Zm, Nat.zero_add, Nat.reduceAdd] at hd hc;exact bodyPost_ret (v := .agg #[.int .i64 12, .int .i64 (j : Int), .int .i64 0, .string ⟨#[]⟩, .int .i64 0, .int .i64 0]) (by simp [results, Tryz.results89, go_sem, z0, f0]) rfl ⟨_, ⟨⟨12, (j : Int), 0, ⟨#[]⟩, ⟨0, 0⟩⟩, ⟨inK 12 (by omega) (by omega), inK j (by omega) (by omega), in0, Nat.zero_le _, in0, in0⟩, rfl⟩, rfl, hc, hd⟩
   ·by_cases hk2 : 2 ≤ kd
    ·have t3 : decide (2 ≤ kd) = true := by simp; omega
     have t4 : decide (kd ≤ 7) = false := by simp; omega
     have HRa := HR3;have HCa := HC3;have HSa := HS3;have HDa := HD3;clear HR3 HC3 HS3 HD3;go_wp2_with fail;refine (Zdg C _ HCa.o).mono ?_;rintro e w5 ⟨_, ⟨v, hv, rfl⟩, rfl, hc5, hd5⟩;have HR5 := zh (hd5.has HRa.o (by omega));have HC5 := zh hc5;have HS5 := zh (HSa.o.tch hd5 hFC2 hBC);have HD5 := zh (HDa.o.tr hd5);have HV := zh hv;clear hc5 hd5 HRa HCa HSa HDa hv;obtain ⟨w6, hw6⟩ : ∃ x, x = w5.alloc (.cells #[.int .i64 v.kind, .int .i64 v.aH, .int .i64 v.index, .string v.text, .int .i64 v.set_.low, .int .i64 v.set_.high] 34) := ⟨_, rfl⟩;have hl6 : Za w5 w6 := by rw [hw6]; exact (Za.refl _).alloc _
     have HX6 := zh (show w6.heap[w5.heap.size]? = some (.cells #[.int .i64 v.kind, .int .i64 v.aH, .int .i64 v.index, .string v.text, .int .i64 v.set_.low, .int .i64 v.set_.high] 34 (0, 0)) by rw [hw6]; exact heap_alloc_new _ _);have HR6 := zC hl6 HR5;have HC6 := zh (HC5.o.later hl6);have HS6 := zh (HS5.o.later hl6);have HD6 := zh (HD5.o.la hl6);clear HR5 HC5 HS5 HD5;go_upto_region 7 with (fail);rw [← hw6];clear hw6 hl6;have p0 := cz6 HX6.o;go_wp2_with fail;refine (Zcu r B cs F w6 v _ HS6.o (HV.o.el F w6)).mono ?_;rintro e w7 ⟨rfl, hl7⟩;replace hl7 : Za w6 w7 := hl7;have HX7 := zC hl7 HX6;have HR7 := zC hl7 HR6;have HC7 := zh (HC6.o.later hl7);have HD7 := zh (HD6.o.la hl7);clear HX6 HR6 HC6 HS6 HD6 hl7 p0;obtain ⟨dq, hdq⟩ : ∃ q, Zaw r v = q := ⟨_, rfl⟩;rw [hdq];clear hdq
     cases dq with
     | true =>
      have HRX := HR7;have HCX := HC7;have HDX := HD7;have p0 := cz6 HX7.o;have z0 := cz6 HRX.o;have f0 := fz HRX.o;go_wp2_with fail;have hd := Zao hR HDX.o [.int .i64 v.kind, .int .i64 v.aH, .int .i64 v.index, .string v.text, .int .i64 v.set_.low, .int .i64 v.set_.high] 0;have hc := Za7 HCX.o hR HDX.o hlt [.int .i64 v.kind, .int .i64 v.aH, .int .i64 v.index, .string v.text, .int .i64 v.set_.low, .int .i64 v.set_.high] 0;simp only [Zm, Nat.zero_add, Nat.reduceAdd] at hd hc;exact bodyPost_ret (v := .agg #[.int .i64 v.kind, .int .i64 v.aH, .int .i64 v.index, .string v.text, .int .i64 v.set_.low, .int .i64 v.set_.high]) (by simp [results, Tryz.results89, go_sem, z0, f0]) rfl ⟨_, ⟨⟨v.kind, v.aH, v.index, v.text, ⟨v.set_.low, v.set_.high⟩⟩, HV.o, rfl⟩, rfl, hc, hd⟩
     | false =>
      go_wp2_with fail;refine (Z0 C _ HC7.o 5 (by omega)).mono ?_;rintro e w8 ⟨_, ⟨y, hy0, hy1, rfl⟩, rfl, hc8, hd8⟩;have HR8 := zh (hd8.has HR7.o (by omega));have HC8 := zh hc8;have HD8 := zh (HD7.o.tr hd8);clear hc8 hd8 HR7 HC7 HD7;go_wp2_with fail;refine (Zbd y w8).mono ?_;rintro e w9 ⟨rfl, hl9⟩;have HRX := zC hl9 HR8;have HCX := zh (HC8.o.later hl9);have HDX := zh (HD8.o.la hl9);clear HR8 HC8 HD8 hl9;have z0 := cz6 HRX.o;have f0 := fz HRX.o;go_wp2_with fail;have hd := Zao hR HDX.o [.int .i64 1, .int .i64 y, .int .i64 0, .string ⟨#[]⟩, .int .i64 0, .int .i64 0] 0;have hc := Za7 HCX.o hR HDX.o hlt [.int .i64 1, .int .i64 y, .int .i64 0, .string ⟨#[]⟩, .int .i64 0, .int .i64 0] 0;simp only [Zm, Nat.zero_add, Nat.reduceAdd] at hd hc;exact bodyPost_ret (v := .agg #[.int .i64 1, .int .i64 y, .int .i64 0, .string ⟨#[]⟩, .int .i64 0, .int .i64 0]) (by simp [results, Tryz.results89, go_sem, z0, f0]) rfl ⟨_, ⟨⟨1, y, 0, ⟨#[]⟩, ⟨0, 0⟩⟩, ⟨Ze7, inK y (by omega) (by omega), in0, Nat.zero_le _, in0, in0⟩, rfl⟩, rfl, hc, hd⟩
    ·have t3 : decide (2 ≤ kd) = false := by simp; omega
     have HRa := HR3;have HCa := HC3;have HSa := HS3;have HDa := HD3;clear HR3 HC3 HS3 HD3;go_wp2_with fail;refine (Zdg C _ HCa.o).mono ?_;rintro e w5 ⟨_, ⟨v, hv, rfl⟩, rfl, hc5, hd5⟩;have HR5 := zh (hd5.has HRa.o (by omega));have HC5 := zh hc5;have HS5 := zh (HSa.o.tch hd5 hFC2 hBC);have HD5 := zh (HDa.o.tr hd5);have HV := zh hv;clear hc5 hd5 HRa HCa HSa HDa hv;obtain ⟨w6, hw6⟩ : ∃ x, x = w5.alloc (.cells #[.int .i64 v.kind, .int .i64 v.aH, .int .i64 v.index, .string v.text, .int .i64 v.set_.low, .int .i64 v.set_.high] 34) := ⟨_, rfl⟩;have hl6 : Za w5 w6 := by rw [hw6]; exact (Za.refl _).alloc _
     have HX6 := zh (show w6.heap[w5.heap.size]? = some (.cells #[.int .i64 v.kind, .int .i64 v.aH, .int .i64 v.index, .string v.text, .int .i64 v.set_.low, .int .i64 v.set_.high] 34 (0, 0)) by rw [hw6]; exact heap_alloc_new _ _);have HR6 := zC hl6 HR5;have HC6 := zh (HC5.o.later hl6);have HS6 := zh (HS5.o.later hl6);have HD6 := zh (HD5.o.la hl6);clear HR5 HC5 HS5 HD5;go_upto_region 7 with (fail);rw [← hw6];clear hw6 hl6;have p0 := cz6 HX6.o;go_wp2_with fail;refine (Zcu r B cs F w6 v _ HS6.o (HV.o.el F w6)).mono ?_;rintro e w7 ⟨rfl, hl7⟩;replace hl7 : Za w6 w7 := hl7;have HX7 := zC hl7 HX6;have HR7 := zC hl7 HR6;have HC7 := zh (HC6.o.later hl7);have HD7 := zh (HD6.o.la hl7);clear HX6 HR6 HC6 HS6 HD6 hl7 p0;obtain ⟨dq, hdq⟩ : ∃ q, Zaw r v = q := ⟨_, rfl⟩;rw [hdq];clear hdq
     cases dq with
     | true =>
      have HRX := HR7;have HCX := HC7;have HDX := HD7;have p0 := cz6 HX7.o;have z0 := cz6 HRX.o;have f0 := fz HRX.o;go_wp2_with fail;have hd := Zao hR HDX.o [.int .i64 v.kind, .int .i64 v.aH, .int .i64 v.index, .string v.text, .int .i64 v.set_.low, .int .i64 v.set_.high] 0;have hc := Za7 HCX.o hR HDX.o hlt [.int .i64 v.kind, .int .i64 v.aH, .int .i64 v.index, .string v.text, .int .i64 v.set_.low, .int .i64 v.set_.high] 0;simp only [Zm, Nat.zero_add, Nat.reduceAdd] at hd hc;exact bodyPost_ret (v := .agg #[.int .i64 v.kind, .int .i64 v.aH, .int .i64 v.index, .string v.text, .int .i64 v.set_.low, .int .i64 v.set_.high]) (by simp [results, Tryz.results89, go_sem, z0, f0]) rfl ⟨_, ⟨⟨v.kind, v.aH, v.index, v.text, ⟨v.set_.low, v.set_.high⟩⟩, HV.o, rfl⟩, rfl, hc, hd⟩
     | false =>
      go_wp2_with fail;refine (Z0 C _ HC7.o 5 (by omega)).mono ?_;rintro e w8 ⟨_, ⟨y, hy0, hy1, rfl⟩, rfl, hc8, hd8⟩;have HR8 := zh (hd8.has HR7.o (by omega));have HC8 := zh hc8;have HD8 := zh (HD7.o.tr hd8);clear hc8 hd8 HR7 HC7 HD7;go_wp2_with fail;refine (Zbd y w8).mono ?_;rintro e w9 ⟨rfl, hl9⟩;have HRX := zC hl9 HR8;have HCX := zh (HC8.o.later hl9);have HDX := zh (HD8.o.la hl9);clear HR8 HC8 HD8 hl9;have z0 := cz6 HRX.o;have f0 := fz HRX.o;go_wp2_with fail;have hd := Zao hR HDX.o [.int .i64 1, .int .i64 y, .int .i64 0, .string ⟨#[]⟩, .int .i64 0, .int .i64 0] 0;have hc := Za7 HCX.o hR HDX.o hlt [.int .i64 1, .int .i64 y, .int .i64 0, .string ⟨#[]⟩, .int .i64 0, .int .i64 0] 0;simp only [Zm, Nat.zero_add, Nat.reduceAdd] at hd hc;exact bodyPost_ret (v := .agg #[.int .i64 1, .int .i64 y, .int .i64 0, .string ⟨#[]⟩, .int .i64 0, .int .i64 0]) (by simp [results, Tryz.results89, go_sem, z0, f0]) rfl ⟨_, ⟨⟨1, y, 0, ⟨#[]⟩, ⟨0, 0⟩⟩, ⟨Ze7, inK y (by omega) (by omega), in0, Nat.zero_le _, in0, in0⟩, rfl⟩, rfl, hc, hd⟩
/-- An object is added, with a aI aH where its kind has one. -/
def Zdi (r : Zf) (o : Z8) : Zf := if 2 ≤ o.kind ∧ o.kind ≤ 7 then Zac { r with made := r.made + 1 } { o with aI := r.made + 1 } else Zac r o
theorem Zqy (r : Zf) (B : Nat) (cs : List Value) (F G : Nat → Prop) (w : World) (o : Z8) (os : List Value) (h : Za1 F w B r cs) (ho : Za2 G w o os) (hFG : ∀ y, G y → ¬ F y) (hGB : ¬ G B) (hm : r.aA.length ≤ 1048576) (hk8 : o.kind = 1 ∧ o.tag = 0 ∧ o.aI = 0) :
  Calls Tryz.prog 132 #[.pointer (some ⟨B, 0, none⟩), .agg os.toArray] w fun e w' => e = .returned (.int .i64 r.aA.length) ∧ (∃ cs', Za1 (fun y => F y ∨ G y ∨ w.heap.size ≤ y) w' B (Zac r o) cs') ∧ Zax F w B w' := by
 obtain ⟨iO, hiO, hz0, hz1, hz2⟩ := info_parts Zcs;have hoo := ho;obtain ⟨okd, otg, osr, oit, oky⟩ := o;obtain ⟨rfl, rfl, rfl⟩ := hk8;obtain ⟨hblk, ⟨tag, aL, aM, aN, aO, aP, aQ, aR, rfl, aV, aW, aX, aY, aZ, bA, bB, bD, bE, bF, bG, bH⟩, hnB⟩ := h.trim;obtain ⟨otag, vi, vk, rfl, hk64, ht64, hs64, hi, hk⟩ := ho;obtain ⟨Ai, ci, rfl, _⟩ := id hi;obtain ⟨Ak, ck, rfl, _⟩ := id hk;obtain ⟨Ao, co, rfl, hco, hcmo, _⟩ := id aX;unfold maxLen at hcmo;have HOO := zh hoo;have HBLK := zh hblk;have HOB := zh aX;have HRS := zh (And.intro aV (And.intro aW (And.intro aY (And.intro bB (And.intro bD bE)))));have HPL := zh (And.intro aZ (And.intro bA (And.intro bF (And.intro bG bH))));have HNB := zh hnB;have HFG := zh hFG;have HGB := zh hGB;clear h hoo hblk aX aV aW aY aZ bA bB bD bE bF bG bH hnB hFG hGB hi hk;simp only at *;go_enter Tryz.func132, Tryz.ntmps132;go_upto_region 4 with (fail);refine Zbb [7, 8, 9, 10] [0] (by kernel_rfl) (fun W hW => ?_);have hWL : Za w W := by rw [hW]; exact ((Za.refl w).alloc _).drew
 have hBN := (hWL.block B (Zb HBLK.o)).trans HBLK.o;have hNN := zh (show W.heap[w.heap.size]? = some (.cells #[.int .i64 1, .int .i64 0, .int .i64 0, .slice Ai oit.length ci, .slice Ak oky.length ck] 94 (0, 0)) by rw [hW]; exact heap_alloc_new w (.cells #[.int .i64 1, .int .i64 0, .int .i64 0, .slice Ai oit.length ci, .slice Ak oky.length ck] 94));have b2 := cq hBN 2;obtain ⟨n0, n1, n2, n3, n4⟩ := cz5 hNN.o;simp only [nD, nE, nF] at b2;have HBN := zh hBN;have hBW := Zb HBN.o;have hNW := Zb hNN.o;have HWL := zh hWL;clear hW hWL hBN;refine Zev 0 (some 25) (v := ?_) rfl rfl (by kernel_rfl) (fun _ _ _ h => h) rfl (fun x => ?_) ?_;rotate_left
 ·go_simp;first|done|with_reducible rfl
 simp only [Act.put, nA, nB, nC];refine tU 1 26 (v := ?_) rfl rfl (fun x hx => ?_) ?_;rotate_left
 ·go_simp;first|done|with_reducible rfl
 simp only [Act.put, nA, nB, nC];refine tU 2 27 (v := ?_) rfl rfl (fun x hx => ?_) ?_;rotate_left
 ·go_simp;first|done|with_reducible rfl
 simp only [Act.put, nA, nB, nC];refine tU 3 28 (v := ?_) rfl rfl (fun x hx => ?_) ?_;rotate_left
 ·go_simp;first|done|with_reducible rfl
 simp only [Act.put, nA, nB, nC];refine tU 4 29 (v := ?_) rfl rfl (fun x hx => ?_) ?_;rotate_left
 ·have x2 := (hx.cell ⟨B, 2, none⟩ hBW).trans b2; have y0 := (hx.cell ⟨w.heap.size, 0, none⟩ hNW).trans n0; have y1 := (hx.cell ⟨w.heap.size, 1, none⟩ hNW).trans n1; have y2 := (hx.cell ⟨w.heap.size, 2, none⟩ hNW).trans n2; have y3 := (hx.cell ⟨w.heap.size, 3, none⟩ hNW).trans n3; have y4 := (hx.cell ⟨w.heap.size, 4, none⟩ hNW).trans n4; go_simp;first|done|with_reducible rfl
 simp only [Act.put, nA, nB, nC];refine tU 5 30 (v := ?_) rfl rfl (fun x hx => ?_) ?_;rotate_left
 ·have x2 := (hx.cell ⟨B, 2, none⟩ hBW).trans b2; have y0 := (hx.cell ⟨w.heap.size, 0, none⟩ hNW).trans n0; have y1 := (hx.cell ⟨w.heap.size, 1, none⟩ hNW).trans n1; have y2 := (hx.cell ⟨w.heap.size, 2, none⟩ hNW).trans n2; have y3 := (hx.cell ⟨w.heap.size, 3, none⟩ hNW).trans n3; have y4 := (hx.cell ⟨w.heap.size, 4, none⟩ hNW).trans n4; go_simp;first|done|with_reducible rfl
 simp only [Act.put, nA, nB, nC];refine Zdf 6 (by kernel_rfl) rfl rfl ?_;go_wp2_with fail;refine ⟨(Za.refl _).alloc _, ?_⟩;refine Zbl [_, _, _, _] (by kernel_rfl) rfl rfl ?_;simp only [List.getElem_toArray, List.getElem_cons_succ, List.getElem_cons_zero];have HXL := zh (HWL.o.trans ((Za.refl W).alloc (.cells #[.int .i64 1, .int .i64 0, .int .i64 0, .slice Ai oit.length ci, .slice Ak oky.length ck] 94)));have HROW := zh (HOB.o.keep Zr.is (fun _ h => h) (Zg.later HXL.o));have HOX := zh (Zr.is.keep HOO.o (fun _ h => h) (Zg.later HXL.o));have HBX := zh (HXL.o.block B (by have := Zb HBLK.o; omega) |>.trans HBLK.o);clear b2 n0 n1 n2 n3 n4 hBW hNW
 go_upto_region 5 with (at_builtin; refine Zan Zr rfl _ _ 26 rfl 94 iO (.agg #[.int .i64 0, .int .i64 0, .int .i64 0, .slice none 0 0, .slice none 0 0]) 72 Tryz.underlying26 hiO hz0 hz1 hz2 rfl rfl HROW.o ⟨W.heap.size, 0, none⟩ 1 rfl ⟨1, 0, 0, oit, oky⟩ [.int .i64 1, .int .i64 0, .int .i64 0, .slice Ai oit.length ci, .slice Ak oky.length ck] (Zcl W [.int .i64 1, .int .i64 0, .int .i64 0, .slice Ai oit.length ci, .slice Ak oky.length ck] 94) (by intro u hu; simp at hu; rcases hu with rfl | rfl | rfl | rfl | rfl <;> rfl) HOX.o (fun y hg hf => HFG.o y hg hf.1.1) (by omega) (by decide) ?_; intro v2 Y hrow hkp hb0; have hYB := (hkp.same B (fun h => HNB.o h.1) (Zb HBX.o)).trans HBX.o; have yc := cell_of_row _ B 2 _ _ _ hYB; simp only [nD, nE, nF] at yc; have yf := frozen_of_row _ B 2 _ _ hYB; obtain ⟨A2, c2, rfl, hc2, hcm2, _⟩ := id hrow; unfold maxLen at hcm2)
 clear yc yf hYB;obtain ⟨hS, hG1, hG2⟩ := Ze3 (fun b hb => hb.2) HBLK.o HRS.o.1 HRS.o.2.1 HRS.o.2.2.1 HRS.o.2.2.2.1 HRS.o.2.2.2.2.1 HRS.o.2.2.2.2.2 HPL.o.1 HPL.o.2.1 HPL.o.2.2.1 HPL.o.2.2.2.1 HPL.o.2.2.2.2 (fun y hg hf => HFG.o y hg hf.1) HNB.o HGB.o HXL.o hrow hkp hb0;clear hrow hkp hb0;simp only [List.length_append, List.length_cons, List.length_nil, Nat.zero_add] at hS hG1 hG2;obtain ⟨Z, hZ⟩ : ∃ Z, Z = Y.setCell ⟨B, 2, none⟩ (.slice A2 (r.aA.length + 1) c2) := ⟨_, rfl⟩;rw [← hZ] at hS hG1 hG2 ⊢;have HS := zh hS;have HG := zh hG1;have z2 := cq hS.blk 2;simp only [nD, nE, nF, List.length_append, List.length_cons, List.length_nil, Nat.zero_add] at z2;clear hZ hS hG1 hG2;go_wp2_with fail;go_ret;exact ⟨by first | rfl | (congr 2; omega), ⟨_, HS.o.keep (fun y hy => hy.imp (fun h => h.1) id) (by rintro (h | h | h) <;> first | exact HNB.o ⟨h, Zb HBLK.o⟩ | exact HGB.o h | (have := Zb HBLK.o; omega)) (Zg.refl _ _) rfl⟩, ⟨HG.o.keep.mono fun y hy => ⟨fun h => hy.1 h.1, hy.2⟩, HG.o.below⟩⟩
theorem Zqz (r : Zf) (B : Nat) (cs : List Value) (F G : Nat → Prop) (w : World) (o : Z8) (os : List Value) (h : Za1 F w B r cs) (ho : Za2 G w o os) (hFG : ∀ y, G y → ¬ F y) (hGB : ¬ G B) (hm : r.aA.length ≤ 1048576) (hk8 : o.kind = 9 ∧ o.tag = 0 ∧ o.aI = 0) :
  Calls Tryz.prog 132 #[.pointer (some ⟨B, 0, none⟩), .agg os.toArray] w fun e w' => e = .returned (.int .i64 r.aA.length) ∧ (∃ cs', Za1 (fun y => F y ∨ G y ∨ w.heap.size ≤ y) w' B (Zac r o) cs') ∧ Zax F w B w' := by
 obtain ⟨iO, hiO, hz0, hz1, hz2⟩ := info_parts Zcs;have hoo := ho;obtain ⟨okd, otg, osr, oit, oky⟩ := o;obtain ⟨rfl, rfl, rfl⟩ := hk8;obtain ⟨hblk, ⟨tag, aL, aM, aN, aO, aP, aQ, aR, rfl, aV, aW, aX, aY, aZ, bA, bB, bD, bE, bF, bG, bH⟩, hnB⟩ := h.trim;obtain ⟨otag, vi, vk, rfl, hk64, ht64, hs64, hi, hk⟩ := ho;obtain ⟨Ai, ci, rfl, _⟩ := id hi;obtain ⟨Ak, ck, rfl, _⟩ := id hk;obtain ⟨Ao, co, rfl, hco, hcmo, _⟩ := id aX;unfold maxLen at hcmo;have HOO := zh hoo;have HBLK := zh hblk;have HOB := zh aX;have HRS := zh (And.intro aV (And.intro aW (And.intro aY (And.intro bB (And.intro bD bE)))));have HPL := zh (And.intro aZ (And.intro bA (And.intro bF (And.intro bG bH))));have HNB := zh hnB;have HFG := zh hFG;have HGB := zh hGB;clear h hoo hblk aX aV aW aY aZ bA bB bD bE bF bG bH hnB hFG hGB hi hk;simp only at *;go_enter Tryz.func132, Tryz.ntmps132;go_upto_region 4 with (fail);refine Zbb [7, 8, 9, 10] [0] (by kernel_rfl) (fun W hW => ?_);have hWL : Za w W := by rw [hW]; exact ((Za.refl w).alloc _).drew
 have hBN := (hWL.block B (Zb HBLK.o)).trans HBLK.o;have hNN := zh (show W.heap[w.heap.size]? = some (.cells #[.int .i64 9, .int .i64 0, .int .i64 0, .slice Ai oit.length ci, .slice Ak oky.length ck] 94 (0, 0)) by rw [hW]; exact heap_alloc_new w (.cells #[.int .i64 9, .int .i64 0, .int .i64 0, .slice Ai oit.length ci, .slice Ak oky.length ck] 94));have b2 := cq hBN 2;obtain ⟨n0, n1, n2, n3, n4⟩ := cz5 hNN.o;simp only [nD, nE, nF] at b2;have HBN := zh hBN;have hBW := Zb HBN.o;have hNW := Zb hNN.o;have HWL := zh hWL;clear hW hWL hBN;refine Zev 0 (some 25) (v := ?_) rfl rfl (by kernel_rfl) (fun _ _ _ h => h) rfl (fun x => ?_) ?_;rotate_left
 ·go_simp;first|done|with_reducible rfl
 simp only [Act.put, nA, nB, nC];refine tU 1 26 (v := ?_) rfl rfl (fun x hx => ?_) ?_;rotate_left
 ·go_simp;first|done|with_reducible rfl
 simp only [Act.put, nA, nB, nC];refine tU 2 27 (v := ?_) rfl rfl (fun x hx => ?_) ?_;rotate_left
 ·go_simp;first|done|with_reducible rfl
 simp only [Act.put, nA, nB, nC];refine tU 3 28 (v := ?_) rfl rfl (fun x hx => ?_) ?_;rotate_left
 ·go_simp;first|done|with_reducible rfl
 simp only [Act.put, nA, nB, nC];refine tU 4 29 (v := ?_) rfl rfl (fun x hx => ?_) ?_;rotate_left
 ·have x2 := (hx.cell ⟨B, 2, none⟩ hBW).trans b2; have y0 := (hx.cell ⟨w.heap.size, 0, none⟩ hNW).trans n0; have y1 := (hx.cell ⟨w.heap.size, 1, none⟩ hNW).trans n1; have y2 := (hx.cell ⟨w.heap.size, 2, none⟩ hNW).trans n2; have y3 := (hx.cell ⟨w.heap.size, 3, none⟩ hNW).trans n3; have y4 := (hx.cell ⟨w.heap.size, 4, none⟩ hNW).trans n4; go_simp;first|done|with_reducible rfl
 simp only [Act.put, nA, nB, nC];refine tU 5 30 (v := ?_) rfl rfl (fun x hx => ?_) ?_;rotate_left
 ·have x2 := (hx.cell ⟨B, 2, none⟩ hBW).trans b2; have y0 := (hx.cell ⟨w.heap.size, 0, none⟩ hNW).trans n0; have y1 := (hx.cell ⟨w.heap.size, 1, none⟩ hNW).trans n1; have y2 := (hx.cell ⟨w.heap.size, 2, none⟩ hNW).trans n2; have y3 := (hx.cell ⟨w.heap.size, 3, none⟩ hNW).trans n3; have y4 := (hx.cell ⟨w.heap.size, 4, none⟩ hNW).trans n4; go_simp;first|done|with_reducible rfl
 simp only [Act.put, nA, nB, nC];refine Zdf 6 (by kernel_rfl) rfl rfl ?_;go_wp2_with fail;refine ⟨(Za.refl _).alloc _, ?_⟩;refine Zbl [_, _, _, _] (by kernel_rfl) rfl rfl ?_;simp only [List.getElem_toArray, List.getElem_cons_succ, List.getElem_cons_zero];have HXL := zh (HWL.o.trans ((Za.refl W).alloc (.cells #[.int .i64 9, .int .i64 0, .int .i64 0, .slice Ai oit.length ci, .slice Ak oky.length ck] 94)));have HROW := zh (HOB.o.keep Zr.is (fun _ h => h) (Zg.later HXL.o));have HOX := zh (Zr.is.keep HOO.o (fun _ h => h) (Zg.later HXL.o));have HBX := zh (HXL.o.block B (by have := Zb HBLK.o; omega) |>.trans HBLK.o);clear b2 n0 n1 n2 n3 n4 hBW hNW
 go_upto_region 5 with (at_builtin; refine Zan Zr rfl _ _ 26 rfl 94 iO (.agg #[.int .i64 0, .int .i64 0, .int .i64 0, .slice none 0 0, .slice none 0 0]) 72 Tryz.underlying26 hiO hz0 hz1 hz2 rfl rfl HROW.o ⟨W.heap.size, 0, none⟩ 1 rfl ⟨9, 0, 0, oit, oky⟩ [.int .i64 9, .int .i64 0, .int .i64 0, .slice Ai oit.length ci, .slice Ak oky.length ck] (Zcl W [.int .i64 9, .int .i64 0, .int .i64 0, .slice Ai oit.length ci, .slice Ak oky.length ck] 94) (by intro u hu; simp at hu; rcases hu with rfl | rfl | rfl | rfl | rfl <;> rfl) HOX.o (fun y hg hf => HFG.o y hg hf.1.1) (by omega) (by decide) ?_; intro v2 Y hrow hkp hb0; have hYB := (hkp.same B (fun h => HNB.o h.1) (Zb HBX.o)).trans HBX.o; have yc := cell_of_row _ B 2 _ _ _ hYB; simp only [nD, nE, nF] at yc; have yf := frozen_of_row _ B 2 _ _ hYB; obtain ⟨A2, c2, rfl, hc2, hcm2, _⟩ := id hrow; unfold maxLen at hcm2)
 clear yc yf hYB;obtain ⟨hS, hG1, hG2⟩ := Ze3 (fun b hb => hb.2) HBLK.o HRS.o.1 HRS.o.2.1 HRS.o.2.2.1 HRS.o.2.2.2.1 HRS.o.2.2.2.2.1 HRS.o.2.2.2.2.2 HPL.o.1 HPL.o.2.1 HPL.o.2.2.1 HPL.o.2.2.2.1 HPL.o.2.2.2.2 (fun y hg hf => HFG.o y hg hf.1) HNB.o HGB.o HXL.o hrow hkp hb0;clear hrow hkp hb0;simp only [List.length_append, List.length_cons, List.length_nil, Nat.zero_add] at hS hG1 hG2;obtain ⟨Z, hZ⟩ : ∃ Z, Z = Y.setCell ⟨B, 2, none⟩ (.slice A2 (r.aA.length + 1) c2) := ⟨_, rfl⟩;rw [← hZ] at hS hG1 hG2 ⊢;have HS := zh hS;have HG := zh hG1;have z2 := cq hS.blk 2;simp only [nD, nE, nF, List.length_append, List.length_cons, List.length_nil, Nat.zero_add] at z2;clear hZ hS hG1 hG2;go_wp2_with fail;go_ret;exact ⟨by first | rfl | (congr 2; omega), ⟨_, HS.o.keep (fun y hy => hy.imp (fun h => h.1) id) (by rintro (h | h | h) <;> first | exact HNB.o ⟨h, Zb HBLK.o⟩ | exact HGB.o h | (have := Zb HBLK.o; omega)) (Zg.refl _ _) rfl⟩, ⟨HG.o.keep.mono fun y hy => ⟨fun h => hy.1 h.1, hy.2⟩, HG.o.below⟩⟩
theorem Zo0 (r : Zf) (B : Nat) (cs : List Value) (F G : Nat → Prop) (w : World) (o : Z8) (os : List Value) (h : Za1 F w B r cs) (ho : Za2 G w o os) (hFG : ∀ y, G y → ¬ F y) (hGB : ¬ G B) (hm : r.aA.length ≤ 1048576) (hk2 : 2 ≤ o.kind) (hk7 : o.kind ≤ 7) (hmd : r.made ≤ 1000000) (hmd0 : 0 ≤ r.made) :
  Calls Tryz.prog 132 #[.pointer (some ⟨B, 0, none⟩), .agg os.toArray] w fun e w' => e = .returned (.int .i64 r.aA.length) ∧ (∃ cs', Za1 (fun y => F y ∨ G y ∨ w.heap.size ≤ y) w' B (Zdi r o) cs') ∧ Zax F w B w' := by
 obtain ⟨iO, hiO, hz0, hz1, hz2⟩ := info_parts Zcs;have hoo := ho;obtain ⟨okd, otg, osr, oit, oky⟩ := o;obtain ⟨hblk, ⟨tag, aL, aM, aN, aO, aP, aQ, aR, rfl, aV, aW, aX, aY, aZ, bA, bB, bD, bE, bF, bG, bH⟩, hnB⟩ := h.trim;obtain ⟨otag, vi, vk, rfl, hk64, ht64, hs64, hi, hk⟩ := ho;obtain ⟨Ai, ci, rfl, _⟩ := id hi;obtain ⟨Ak, ck, rfl, _⟩ := id hk;obtain ⟨Ao, co, rfl, hco, hcmo, _⟩ := id aX;unfold maxLen at hcmo;simp only at hk2 hk7;have c12 := cq hblk 12;have f12 := fz hblk;simp only [nD, nE, nF] at c12;have hBw := Zb hblk;have t1 : decide (2 ≤ okd) = true := decide_eq_true hk2;have t2 : decide (okd ≤ 7) = true := decide_eq_true hk7;have t3 : wrap64 (r.made + 1) = r.made + 1 := by unfold wrap64; omega
 have t4 : (B == w.heap.size) = false := by simp; omega
 have t5 : (w.heap.size == B) = false := by simp; omega
 obtain ⟨w1, hw1⟩ : ∃ x, x = w.setCell ⟨B, 12, none⟩ (.int .i64 (r.made + 1)) := ⟨_, rfl⟩;have HSZ : w1.heap.size = w.heap.size := by rw [hw1]; simp
 have hK : Zg (fun y => F y ∧ y < w.heap.size) w w1 := by rw [hw1]; exact (Zg.refl _ _).set hnB 12 _
 have hK2 : Zg (fun y => y ≠ B) w w1 := by rw [hw1]; exact (Zg.refl _ _).set (fun h => h rfl) 12 _
 have hbw : Below 0 w w1 := by rw [hw1]; exact (Below.refl _ _).setCell (Nat.zero_le _) _
 have hmade1 : Zs (r.made + 1) := by unfold Zs; omega
 have hoo2 : Za2 G w ⟨okd, otg, r.made + 1, oit, oky⟩ [.int .i64 okd, .int .i64 otg, .int .i64 (r.made + 1), .slice Ai oit.length ci, .slice Ak oky.length ck] := ⟨otag, _, _, rfl, hk64, ht64, hmade1, hi, hk⟩;have hoo1 := Zr.is.keep hoo2 (F := G) (G := G) (fun _ h => h) (hK2.mono fun y hy e => hGB (e ▸ hy));have hblk1 : w1.heap[B]? = some (.cells #[aL, aM, .slice Ao r.aA.length co, aO, .string r.aC, .int .i64 r.aD, aP, aQ, aR, .bool r.aF, .int .i64 r.ticks, .int .i64 r.aG, .int .i64 (r.made + 1)] 30 (0, 0)) := by
  have := Zaj (o := 12) hblk (.int .i64 (r.made + 1));rw [hw1]
  simpa using this
 have HOO := zh hoo1;have HBLK := zh hblk1;have HOB := zh (aX.keep Zr.is (fun _ h => h) (hK.mono fun _ h => h.1));have HRS := zh (And.intro (aV.keep Zt.is (fun _ h => h) (hK.mono fun _ h => h.1)) (And.intro (aW.keep Zv.is (fun _ h => h) (hK.mono fun _ h => h.1)) (And.intro (aY.keep Zj.is (fun _ h => h) (hK.mono fun _ h => h.1)) (And.intro (bB.keep Zt.is (fun _ h => h) (hK.mono fun _ h => h.1)) (And.intro (bD.keep Zt.is (fun _ h => h) (hK.mono fun _ h => h.1)) (bE.keep Zav.is (fun _ h => h) (hK.mono fun _ h => h.1)))))));have HPL := zh (And.intro aZ (And.intro bA (And.intro bF (And.intro bG hmade1))));have HNB := zh hnB;have HFG := zh hFG;have HGB := zh hGB;have HK2 := zh hK2;have HBL := zh hbw;have HW1 := zh hw1;clear h hoo hblk aX aV aW aY aZ bA bB bD bE bF bG bH hnB hFG hGB hi hk hK hK2 hbw hw1 hblk1 hoo1 hoo2 hmade1;go_enter Tryz.func132, Tryz.ntmps132;go_upto_region 4 with (fail);refine Zbb [7, 8, 9, 10] [0] (by kernel_rfl) (fun W hW => ?_);rw [← HW1.o] at hW;have hWL : Za w1 W := by rw [hW]; exact ((Za.refl w1).alloc _).drew
 have hBN := (hWL.block B (Zb HBLK.o)).trans HBLK.o;have hNN := zh (show W.heap[w.heap.size]? = some (.cells #[.int .i64 okd, .int .i64 otg, .int .i64 (r.made + 1), .slice Ai oit.length ci, .slice Ak oky.length ck] 94 (0, 0)) by rw [hW]; exact Zz (w := w1) HSZ.symm);have b2 := cq hBN 2;obtain ⟨n0, n1, n2, n3, n4⟩ := cz5 hNN.o;simp only [nD, nE, nF] at b2;have HBN := zh hBN;have hBW := Zb HBN.o;have hNW := Zb hNN.o;have HWL := zh hWL;clear hW hWL hBN;refine Zev 0 (some 25) (v := ?_) rfl rfl (by kernel_rfl) (fun _ _ _ h => h) rfl (fun x => ?_) ?_;rotate_left
 ·go_simp;first|done|with_reducible rfl
 simp only [Act.put, nA, nB, nC];refine tU 1 26 (v := ?_) rfl rfl (fun x hx => ?_) ?_;rotate_left
 ·go_simp;first|done|with_reducible rfl
 simp only [Act.put, nA, nB, nC];refine tU 2 27 (v := ?_) rfl rfl (fun x hx => ?_) ?_;rotate_left
 ·go_simp;first|done|with_reducible rfl
 simp only [Act.put, nA, nB, nC];refine tU 3 28 (v := ?_) rfl rfl (fun x hx => ?_) ?_;rotate_left
 ·go_simp;first|done|with_reducible rfl
 simp only [Act.put, nA, nB, nC];refine tU 4 29 (v := ?_) rfl rfl (fun x hx => ?_) ?_;rotate_left
 ·have x2 := (hx.cell ⟨B, 2, none⟩ hBW).trans b2; have y0 := (hx.cell ⟨w.heap.size, 0, none⟩ hNW).trans n0; have y1 := (hx.cell ⟨w.heap.size, 1, none⟩ hNW).trans n1; have y2 := (hx.cell ⟨w.heap.size, 2, none⟩ hNW).trans n2; have y3 := (hx.cell ⟨w.heap.size, 3, none⟩ hNW).trans n3; have y4 := (hx.cell ⟨w.heap.size, 4, none⟩ hNW).trans n4; go_simp;first|done|with_reducible rfl
 simp only [Act.put, nA, nB, nC];refine tU 5 30 (v := ?_) rfl rfl (fun x hx => ?_) ?_;rotate_left
 ·have x2 := (hx.cell ⟨B, 2, none⟩ hBW).trans b2; have y0 := (hx.cell ⟨w.heap.size, 0, none⟩ hNW).trans n0; have y1 := (hx.cell ⟨w.heap.size, 1, none⟩ hNW).trans n1; have y2 := (hx.cell ⟨w.heap.size, 2, none⟩ hNW).trans n2; have y3 := (hx.cell ⟨w.heap.size, 3, none⟩ hNW).trans n3; have y4 := (hx.cell ⟨w.heap.size, 4, none⟩ hNW).trans n4; go_simp;first|done|with_reducible rfl
 simp only [Act.put, nA, nB, nC];refine Zdf 6 (by kernel_rfl) rfl rfl ?_;go_wp2_with fail;refine ⟨(Za.refl _).alloc _, ?_⟩;refine Zbl [_, _, _, _] (by kernel_rfl) rfl rfl ?_;simp only [List.getElem_toArray, List.getElem_cons_succ, List.getElem_cons_zero];have HXL := zh (HWL.o.trans ((Za.refl W).alloc (.cells #[.int .i64 okd, .int .i64 otg, .int .i64 (r.made + 1), .slice Ai oit.length ci, .slice Ak oky.length ck] 94)));have HROW := zh (HOB.o.keep Zr.is (fun _ h => h) (Zg.later HXL.o));have HOX := zh (Zr.is.keep HOO.o (fun _ h => h) (Zg.later HXL.o));have HBX := zh (HXL.o.block B (by have := Zb HBLK.o; omega) |>.trans HBLK.o);clear b2 n0 n1 n2 n3 n4 hBW hNW
 go_upto_region 5 with (at_builtin; refine Zan Zr rfl _ _ 26 rfl 94 iO (.agg #[.int .i64 0, .int .i64 0, .int .i64 0, .slice none 0 0, .slice none 0 0]) 72 Tryz.underlying26 hiO hz0 hz1 hz2 rfl rfl HROW.o ⟨W.heap.size, 0, none⟩ 1 rfl ⟨okd, otg, r.made + 1, oit, oky⟩ [.int .i64 okd, .int .i64 otg, .int .i64 (r.made + 1), .slice Ai oit.length ci, .slice Ak oky.length ck] (Zcl W [.int .i64 okd, .int .i64 otg, .int .i64 (r.made + 1), .slice Ai oit.length ci, .slice Ak oky.length ck] 94) (by intro u hu; simp at hu; rcases hu with rfl | rfl | rfl | rfl | rfl <;> rfl) HOX.o (fun y hg hf => HFG.o y hg hf.1.1) (by omega) (by decide) ?_; intro v2 Y hrow hkp hb0; have hYB := (hkp.same B (fun h => HNB.o h.1) (Zb HBX.o)).trans HBX.o; have yc := cell_of_row _ B 2 _ _ _ hYB; simp only [nD, nE, nF] at yc; have yf := frozen_of_row _ B 2 _ _ hYB; obtain ⟨A2, c2, rfl, hc2, hcm2, _⟩ := id hrow; unfold maxLen at hcm2)
 clear yc yf hYB;obtain ⟨hS, hG1, hG2⟩ := Ze3 (w := w1) (r := { r with made := r.made + 1 }) (fun b hb => by rw [HSZ]; exact hb.2) HBLK.o HRS.o.1 HRS.o.2.1 HRS.o.2.2.1 HRS.o.2.2.2.1 HRS.o.2.2.2.2.1 HRS.o.2.2.2.2.2 HPL.o.1 HPL.o.2.1 HPL.o.2.2.1 HPL.o.2.2.2.1 HPL.o.2.2.2.2 (fun y hg hf => HFG.o y hg hf.1) HNB.o HGB.o HXL.o hrow hkp hb0;clear hrow hkp hb0;simp only [List.length_append, List.length_cons, List.length_nil, Nat.zero_add] at hS hG1 hG2;obtain ⟨Z, hZ⟩ : ∃ Z, Z = Y.setCell ⟨B, 2, none⟩ (.slice A2 (r.aA.length + 1) c2) := ⟨_, rfl⟩;rw [← hZ] at hS hG1 hG2 ⊢;have HS := zh hS;have HG := zh hG1;have z2 := cq hS.blk 2;simp only [nD, nE, nF, List.length_append, List.length_cons, List.length_nil, Nat.zero_add] at z2;clear hZ hS hG1 hG2;go_wp2_with fail;go_ret;refine ⟨by first | rfl | (congr 2; omega), ?_, ⟨⟨?_, fun b hb hlt => ?_⟩, HBL.o.trans (Below.mono HG.o.below (Nat.zero_le _))⟩⟩
 ·rw [show Zdi r ⟨okd, otg, osr, oit, oky⟩ = Zac { r with made := r.made + 1 } ⟨okd, otg, r.made + 1, oit, oky⟩ from if_pos ⟨hk2, hk7⟩];exact ⟨_, HS.o.keep (fun y hy => hy.imp (fun h => h.1) (Or.imp_right (fun h => by omega))) (by rintro (h | h | h) <;> first | exact HNB.o ⟨h, by have := Zb HBLK.o; omega⟩ | exact HGB.o h | (have := Zb HBLK.o; omega)) (Zg.refl _ Z) rfl⟩
 ·have := HG.o.keep.size; omega
 ·exact (HG.o.keep.same b ⟨fun h => hb.1 h.1, hb.2⟩ (by omega)).trans (HK2.o.same b hb.2 hlt)
end Go.Proofs.YtpmhelkiicigfaaGreatDoor
namespace Go.Proofs.YtpmhelkiicigfaaGreatDoor
open Go.RowKit Go.Maps
section
variable {P : Program}
theorem Zfu {H : Type} {e : TypeId} (he : P.underlying e = some .bool) {v : Value} {z : DataW H × List MemPlace} (h : plainElem P e v = some z) : ∃ x, v = .bool x ∧ z = (.lit (.bool x), []) := by
 unfold plainElem at h;rw [he] at h
 split at h
 ·cases h; exact ⟨_, rfl, rfl⟩
 ·rename_i h2; cases h2
 ·rename_i h2; cases h2
 ·cases h
theorem Zej {H : Type} (w : World) {ops : Array Oper} {rest : List Oper} {o : Oper} {a : Act} {Q : Exit → Act → World → Prop}
  (hg : o.guard = none) (m x : Operand) (t : TypeId) (hop : o.op = Op.lookup t m x false)
  (k e : TypeId) (K : Keyed P k) (ht : P.underlying t = some (.map k e)) (he : P.underlying e = some .bool) (hz : (zeroValue e).run P w = .ok (.bool false) w) (b n : Nat) (D : DataW H)
  (hm : a.eval m = .map (some b)) (hown : w.ownsMap P k (plainElem P e) b n D) (key : Value) (kl : Lit) (hx : a.eval x = key) (hkey : keyOf P k key = some kl)
  (hK : ∀ c : Bool, D.atKey kl (.lit (.bool false)) = .lit (.bool c) → wpList P ops Q rest (a.put o.dst (.bool c)) w) :
  wpList P ops Q (o :: rest) a w := by
 refine wpList_plain hg fun K' hK' => ?_;obtain ⟨v, ps, hrun, hv⟩ := hown.lookup K ht hz (plainElem_bool he false) hkey;obtain ⟨c, rfl, hc⟩ := Zfu he hv;simp only [Prod.mk.injEq] at hc;unfold Oper.wp;simp [execOp, hop, hm, hx, hrun, Result.andThen];exact hK' _ _ (hK c hc.1)
end
theorem Zsv : Keyed Tryz.prog 3 := int_keyed Tryz.underlying3
theorem Zti (w : World) : (zeroValue 4).run Tryz.prog w = .ok (.bool false) w := by kernel_rfl
/-- The numbers of the first j aA that are not 0. -/
def Zdr (l : List Z8) (j : Nat) (k : Int) : Bool := decide (k ≠ 0 ∧ ∃ q, ∃ h : q < l.length, q < j ∧ l[q].aI = k)
/-- Block b is the map that knows them. -/
def Zb2 (w : World) (b : Nat) (l : List Z8) (j : Nat) : Prop :=
 ∃ (D : DataW Unit) (n : Nat), w.ownsMap Tryz.prog 3 (plainElem Tryz.prog 4) b n D ∧ n ≤ j ∧ Maps.IsMap D ∧ ∀ k : Int, Zs k → D.atKey (.int .i64 k) (.lit (.bool false)) = .lit (.bool (Zdr l j k))
theorem Zb2.start (w : World) (l : List Z8) : Zb2 (w.alloc (.map #[] 0)) w.heap.size l 0 :=
 ⟨.map [], 0, World.ownsMap_made _ _ _ _, Nat.le_refl _, ⟨[], rfl⟩, fun k _ => by
  have : Zdr l 0 k = false := by unfold Zdr; rw [decide_eq_false]; rintro ⟨_, q, _, h, _⟩; omega
  rw [this]; rfl⟩
theorem Zb2.same {w x : World} {b : Nat} {l : List Z8} {j : Nat} (h : Zb2 w b l j) (hb : x.heap[b]? = w.heap[b]?) : Zb2 x b l j := by
 obtain ⟨D, n, ⟨es, clock, h1, h2⟩, h3⟩ := h;exact ⟨D, n, ⟨es, clock, hb.trans h1, h2⟩, h3⟩
theorem Zb2.lt {w : World} {b : Nat} {l : List Z8} {j : Nat} (h : Zb2 w b l j) : b < w.heap.size := by
 obtain ⟨D, n, ⟨es, clock, h1, h2⟩, h3⟩ := h;exact Zb h1
theorem Zm9 {l : List Z8} {j : Nat} (hj : j < l.length) (h : l[j].aI = 0) (k : Int) : Zdr l (j + 1) k = Zdr l j k := by
 unfold Zdr;rw [decide_eq_decide]
 constructor
 ·rintro ⟨h0, q, hq, h1, h2⟩;refine ⟨h0, q, hq, ?_, h2⟩
  rcases Nat.lt_or_ge q j with h3 | h3
  ·exact h3
  ·obtain rfl : q = j := by omega
   omega
 ·rintro ⟨h0, q, hq, h1, h2⟩;exact ⟨h0, q, hq, by omega, h2⟩
theorem Zb2.zero {w : World} {b : Nat} {l : List Z8} {j : Nat} (h : Zb2 w b l j) (hj : j < l.length) (h0 : l[j].aI = 0) : Zb2 w b l (j + 1) := by
 obtain ⟨D, n, h1, h2, h3, h4⟩ := h;exact ⟨D, n, h1, by omega, h3, fun k hk => by rw [Zm9 hj h0]; exact h4 k hk⟩
theorem Zq0 {l : List Z8} {j : Nat} (hj : j < l.length) (h : l[j].aI ≠ 0) : Zdr l (j + 1) l[j].aI = true := by
 unfold Zdr;rw [nJ];exact ⟨h, j, hj, by omega, rfl⟩
theorem Zlr {l : List Z8} {j : Nat} (hj : j < l.length) {k : Int} (h : k ≠ l[j].aI) : Zdr l (j + 1) k = Zdr l j k := by
 unfold Zdr;rw [decide_eq_decide]
 constructor
 ·rintro ⟨h0, q, hq, h1, h2⟩;refine ⟨h0, q, hq, ?_, h2⟩
  rcases Nat.lt_or_ge q j with h3 | h3
  ·exact h3
  ·obtain rfl : q = j := by omega
   exact absurd h2.symm h
 ·rintro ⟨h0, q, hq, h1, h2⟩;exact ⟨h0, q, hq, by omega, h2⟩
theorem Ztj {k : Int} (h : Zs k) : (Lit.int .i64 k).wf = true := by
 unfold Zs at h;have h1 : IntKind.i64.min = -9223372036854775808 := by decide
 have h2 : IntKind.i64.max = 9223372036854775807 := by decide
 simp [Lit.wf]
 omega
theorem Zb2.look {w : World} {b : Nat} {l : List Z8} {j : Nat} (h : Zb2 w b l j) {k : Int} (hk : Zs k) {ops : Array Oper} {rest : List Oper} {o : Oper} {a : Act} {Q : Exit → Act → World → Prop}
  (hg : o.guard = none) (m x : Operand) (hop : o.op = Op.lookup 92 m x false) (hm : a.eval m = .map (some b)) (hx : a.eval x = .int .i64 k)
  (hK : wpList Tryz.prog ops Q rest (a.put o.dst (.bool (Zdr l j k))) w) : wpList Tryz.prog ops Q (o :: rest) a w := by
 obtain ⟨D, n, h1, h2, h3, h4⟩ := h;refine Zej w hg m x 92 hop 3 4 Zsv Tryz.underlying92 Tryz.underlying4 (Zti _) b n D hm h1 _ (.int .i64 k) hx (keyOf_int_mk Tryz.underlying3 (Ztj hk)) ?_;intro c hc;rw [h4 k hk] at hc
 cases hc
 exact hK
theorem Zb2.store {w : World} {b : Nat} {l : List Z8} {j : Nat} (h : Zb2 w b l j) (hj : j < l.length) (hk : Zs l[j].aI) (h0 : l[j].aI ≠ 0) (hn : j ≤ 1048576) {ops : Array Oper} {rest : List Oper} {o : Oper} {a : Act} {Q : Exit → Act → World → Prop}
  (hg : o.guard = none) (m x v : Operand) (hop : o.op = Op.mapUpdate 92 m x v) (hm : a.eval m = .map (some b)) (hx : a.eval x = .int .i64 l[j].aI) (hv : a.eval v = .bool true)
  (hK : ∀ w', Zb2 w' b l (j + 1) → w.grownBy w' (some b) → wpList Tryz.prog ops Q rest (a.put o.dst undef) w') : wpList Tryz.prog ops Q (o :: rest) a w := by
 obtain ⟨D, n, h1, h2, h3, h4⟩ := h;have hkey : keyOf Tryz.prog 3 (.int .i64 l[j].aI) = some (.int .i64 l[j].aI) := keyOf_int_mk Tryz.underlying3 (Ztj hk);refine wpList_mapUpdate_own w hg m x v 92 hop 3 4 Zsv Tryz.underlying92 _ b n D hm h1 (by unfold maxLen; omega) _ _ (.int .i64 l[j].aI) hx hv hkey (.lit (.bool true)) [] (plainElem_bool Tryz.underlying4 true) ?_;intro w' hw hgr;refine hK w' ⟨_, _, hw, by omega, ?_, fun k hk2 => ?_⟩ hgr
 ·obtain ⟨es, rfl⟩ := h3;exact ⟨_, rfl⟩
 ·by_cases e : k = l[j].aI
  ·subst e;rw [atKey_put_same h3 (Zsv.key hkey), Zq0 hj h0]
  ·rw [atKey_put_other (by intro h; cases h; exact e rfl), Zlr hj e];exact h4 k hk2
end Go.Proofs.YtpmhelkiicigfaaGreatDoor
namespace Go.Proofs.YtpmhelkiicigfaaGreatDoor
open Go.RowKit
theorem Zsw (r : Zf) (B : Nat) (cs : List Value) (F : Nat → Prop) (w : World) (tag aI : Int) (aJ aK : List Ze) (vi vk : Value) (h : Z1 F w B r cs) (hi : Zp Zd 6 F w aJ vi) (hk : Zp Zd 6 F w aK vk) (hkz : aK.length ≤ 1048576) :
  Calls Tryz.prog 51 #[.pointer (some ⟨B, 0, none⟩), .agg #[.int .i64 1, .int .i64 tag, .int .i64 aI, vi, vk]] w fun e w' => e = .returned (.bool (Zaa r ⟨1, tag, aI, aJ, aK⟩)) ∧ Below w.heap.size w w' := by
 obtain ⟨R, hR⟩ : ∃ R, Zaa r ⟨1, tag, aI, aJ, aK⟩ = R := ⟨_, rfl⟩;rw [hR];have HR0 := zh hR;clear hR;obtain ⟨Ai, ci, rfl, hci, hcmi, _⟩ := id hi;obtain ⟨Ak, ck, rfl, hck, hcmk, _⟩ := id hk;unfold maxLen at hcmi hcmk;have hl1 := (Za.refl w).alloc (.cells #[.int .i64 1, .int .i64 tag, .int .i64 aI, .slice Ai aJ.length ci, .slice Ak aK.length ck] 94);have HS := zh (h.later hl1);have HI := zh (hi.later Zc hl1);have HK := zh (hk.later Zc hl1);have HM := zh (heap_alloc_new w (.cells #[.int .i64 1, .int .i64 tag, .int .i64 aI, .slice Ai aJ.length ci, .slice Ak aK.length ck] 94));have HB := zh hl1;obtain ⟨w1, hw1⟩ : ∃ x, x = w.alloc (.cells #[.int .i64 1, .int .i64 tag, .int .i64 aI, .slice Ai aJ.length ci, .slice Ak aK.length ck] 94) := ⟨_, rfl⟩;rw [← hw1] at HS HI HK HM HB;have HLC := zh (Za.refl w1);clear h hi hk hl1;obtain ⟨s0, hs0⟩ : ∃ q, (aI == 0) = q := ⟨_, rfl⟩;have W0s0 : (aI != 0) = !s0 := by rw [← hs0]; exact (by rw [Bool.eq_iff_iff]; simp only [nJ, nK, nL, ne_eq, nM, nI, nH] <;> omega)
 obtain ⟨tg, htg⟩ : ∃ q, (tag == 0) = q := ⟨_, rfl⟩;have W0tg : (tag != 0) = !tg := by rw [← htg]; exact (by rw [Bool.eq_iff_iff]; simp only [nJ, nK, nL, ne_eq, nM, nI, nH] <;> omega)
 have W1tg : (tag == 0) = tg := htg;obtain ⟨ky, hky⟩ : ∃ q, (decide (aK.length = 0)) = q := ⟨_, rfl⟩;have W0ky : ((aK.length : Int) != 0) = !ky := by rw [← hky]; exact (by rw [Bool.eq_iff_iff]; simp only [nJ, nK, nL, ne_eq, nM, nI, nH] <;> omega)
 have W1ky : ((aK.length : Int) == 0) = ky := by rw [← hky]; exact (by rw [Bool.eq_iff_iff]; simp only [nJ, nK, nL, ne_eq, nM, nI, nH] <;> omega)
 obtain ⟨b1, hb1⟩ : ∃ q, (decide (aJ.length ≤ 24)) = q := ⟨_, rfl⟩;have W0b1 : (decide ((aJ.length : Int) ≤ 24)) = b1 := by rw [← hb1]; exact (by rw [Bool.eq_iff_iff]; simp only [nJ, nK, nL, ne_eq, nM, nI, nH] <;> omega)
 obtain ⟨ai, hai⟩ : ∃ q, (Zaf r aJ) = q := ⟨_, rfl⟩;have HR := zh (show R = (s0 && (tg && (ky && (b1 && (ai))))) by rw [← HR0.o, ← hs0, ← htg, ← hky, ← hb1, ← hai]; try rfl);have Hs0 := zh hs0;clear hs0;have Htg := zh htg;clear htg;have Hky := zh hky;clear hky;have Hb1 := zh hb1;clear hb1;have Hai := zh hai;clear hai;go_enter Tryz.func51, Tryz.ntmps51;go_upto_region 2 with (fail);rw [← hw1];clear hw1
 cases s0 with
 | false =>
  simp only [Bool.not_false] at W0s0;refine Zu (fun W hW => ?_);have hWL : Za w1 W := by rw [hW]; exact (Za.refl _).drew
  clear hW;replace HLC := zh (HLC.o.trans hWL);clear hWL;have HMC := zB HLC HM;have m0 := cz5 HMC.o;have y12 := (HS.o.later HLC.o).made_;have hMB := Zb HMC.o;have hSB := (HS.o.later HLC.o).lt
  repeat go_big_quiet_step (fail)
  refine wpQuiet_nil ?_;have hR0 : R = false := by rw [HR.o]; simp
  subst hR0;go_wp2_with fail;go_ret;exact ⟨rfl, HB.o.trans HLC.o⟩
 | true =>
  simp only [Bool.not_true] at W0s0;refine Zu (fun V hV => ?_);have hVL : Za w1 V := by rw [hV]; exact (Za.refl _).drew
  clear hV;replace HLC := zh (HLC.o.trans hVL);clear hVL;have HMC := zB HLC HM;have m0 := cz5 HMC.o;have y12 := (HS.o.later HLC.o).made_;have hMB := Zb HMC.o;have hSB := (HS.o.later HLC.o).lt
  repeat go_big_quiet_step (fail)
  refine wpQuiet_nil ?_;clear y12 hMB hSB;go_upto_region 10 with (fail)
  cases b1 with
  | false =>
   go_upto_region 32 with (fail)
   cases tg with
   | false =>
    have hR0 : R = false := by rw [HR.o]; simp
    subst hR0;go_wp2_with fail;go_ret;exact ⟨rfl, HB.o.trans HLC.o⟩
   | true =>
    cases ky with
    | false =>
     have hR0 : R = false := by rw [HR.o]; simp
     subst hR0;go_wp2_with fail;go_ret;exact ⟨rfl, HB.o.trans HLC.o⟩
    | true =>
     have hR0 : R = false := by rw [HR.o]; simp
     subst hR0;go_wp2_with fail;go_ret;exact ⟨rfl, HB.o.trans HLC.o⟩
  | true =>
   go_wp2_with fail;refine (Zay r B cs F _ aJ _ (HS.o.later HLC.o) (HI.o.later Zc HLC.o)).mono ?_;rw [Hai.o];rintro e w5 ⟨rfl, hcl⟩;clear HMC m0;replace HLC := zh (HLC.o.trans hcl);clear hcl;go_upto_region 32 with (fail)
   cases tg with
   | false =>
    have hR0 : R = false := by rw [HR.o]; simp
    subst hR0;go_wp2_with fail;go_ret;exact ⟨rfl, HB.o.trans HLC.o⟩
   | true =>
    cases ky with
    | false =>
     have hR0 : R = false := by rw [HR.o]; simp
     subst hR0;go_wp2_with fail;go_ret;exact ⟨rfl, HB.o.trans HLC.o⟩
    | true =>
     cases ai with
     | false =>
      have hR0 : R = false := by rw [HR.o]; simp
      subst hR0;go_wp2_with fail;go_ret;exact ⟨rfl, HB.o.trans HLC.o⟩
     | true =>
      have hR0 : R = true := by rw [HR.o]; simp
      subst hR0;go_wp2_with fail;go_ret;exact ⟨rfl, HB.o.trans HLC.o⟩
theorem Zsx (r : Zf) (B : Nat) (cs : List Value) (F : Nat → Prop) (w : World) (tag aI : Int) (aJ aK : List Ze) (vi vk : Value) (h : Z1 F w B r cs) (hi : Zp Zd 6 F w aJ vi) (hk : Zp Zd 6 F w aK vk) (hkz : aK.length ≤ 1048576) :
  Calls Tryz.prog 51 #[.pointer (some ⟨B, 0, none⟩), .agg #[.int .i64 2, .int .i64 tag, .int .i64 aI, vi, vk]] w fun e w' => e = .returned (.bool (Zaa r ⟨2, tag, aI, aJ, aK⟩)) ∧ Below w.heap.size w w' := by
 obtain ⟨R, hR⟩ : ∃ R, Zaa r ⟨2, tag, aI, aJ, aK⟩ = R := ⟨_, rfl⟩;rw [hR];have HR0 := zh hR;clear hR;obtain ⟨Ai, ci, rfl, hci, hcmi, _⟩ := id hi;obtain ⟨Ak, ck, rfl, hck, hcmk, _⟩ := id hk;unfold maxLen at hcmi hcmk;have hl1 := (Za.refl w).alloc (.cells #[.int .i64 2, .int .i64 tag, .int .i64 aI, .slice Ai aJ.length ci, .slice Ak aK.length ck] 94);have HS := zh (h.later hl1);have HI := zh (hi.later Zc hl1);have HK := zh (hk.later Zc hl1);have HM := zh (heap_alloc_new w (.cells #[.int .i64 2, .int .i64 tag, .int .i64 aI, .slice Ai aJ.length ci, .slice Ak aK.length ck] 94));have HB := zh hl1;obtain ⟨w1, hw1⟩ : ∃ x, x = w.alloc (.cells #[.int .i64 2, .int .i64 tag, .int .i64 aI, .slice Ai aJ.length ci, .slice Ak aK.length ck] 94) := ⟨_, rfl⟩;rw [← hw1] at HS HI HK HM HB;have HLC := zh (Za.refl w1);clear h hi hk hl1;obtain ⟨s1, hs1⟩ : ∃ q, (decide (1 ≤ aI)) = q := ⟨_, rfl⟩;have W0s1 : (decide (aI < 1)) = !s1 := by rw [← hs1]; exact (by rw [Bool.eq_iff_iff]; simp only [nJ, nK, nL, ne_eq, nM, nI, nH] <;> omega)
 obtain ⟨s2, hs2⟩ : ∃ q, (decide (aI ≤ r.made)) = q := ⟨_, rfl⟩;have W0s2 : (decide (r.made < aI)) = !s2 := by rw [← hs2]; exact (by rw [Bool.eq_iff_iff]; simp only [nJ, nK, nL, ne_eq, nM, nI, nH] <;> omega)
 obtain ⟨tg, htg⟩ : ∃ q, (tag == 0) = q := ⟨_, rfl⟩;have W0tg : (tag != 0) = !tg := by rw [← htg]; exact (by rw [Bool.eq_iff_iff]; simp only [nJ, nK, nL, ne_eq, nM, nI, nH] <;> omega)
 have W1tg : (tag == 0) = tg := htg;obtain ⟨ky, hky⟩ : ∃ q, (decide (aK.length = 0)) = q := ⟨_, rfl⟩;have W0ky : ((aK.length : Int) != 0) = !ky := by rw [← hky]; exact (by rw [Bool.eq_iff_iff]; simp only [nJ, nK, nL, ne_eq, nM, nI, nH] <;> omega)
 have W1ky : ((aK.length : Int) == 0) = ky := by rw [← hky]; exact (by rw [Bool.eq_iff_iff]; simp only [nJ, nK, nL, ne_eq, nM, nI, nH] <;> omega)
 obtain ⟨b1, hb1⟩ : ∃ q, (decide (aJ.length ≤ 40)) = q := ⟨_, rfl⟩;have W0b1 : (decide ((aJ.length : Int) ≤ 40)) = b1 := by rw [← hb1]; exact (by rw [Bool.eq_iff_iff]; simp only [nJ, nK, nL, ne_eq, nM, nI, nH] <;> omega)
 obtain ⟨ai, hai⟩ : ∃ q, (Zaf r aJ) = q := ⟨_, rfl⟩;have HR := zh (show R = ((s1 && s2) && (tg && (ky && (b1 && (ai))))) by rw [← HR0.o, ← hs1, ← hs2, ← htg, ← hky, ← hb1, ← hai]; try rfl);have Hs1 := zh hs1;clear hs1;have Hs2 := zh hs2;clear hs2;have Htg := zh htg;clear htg;have Hky := zh hky;clear hky;have Hb1 := zh hb1;clear hb1;have Hai := zh hai;clear hai;go_enter Tryz.func51, Tryz.ntmps51;go_upto_region 2 with (fail);rw [← hw1];clear hw1
 cases s1 with
 | false =>
  simp only [Bool.not_false] at W0s1;refine Zu (fun W hW => ?_);have hWL : Za w1 W := by rw [hW]; exact (Za.refl _).drew
  clear hW;replace HLC := zh (HLC.o.trans hWL);clear hWL;have HMC := zB HLC HM;have m0 := cz5 HMC.o;have y12 := (HS.o.later HLC.o).made_;have hMB := Zb HMC.o;have hSB := (HS.o.later HLC.o).lt
  repeat go_big_quiet_step (fail)
  refine wpQuiet_nil ?_;have hR0 : R = false := by rw [HR.o]; simp
  subst hR0;go_wp2_with fail;go_ret;exact ⟨rfl, HB.o.trans HLC.o⟩
 | true =>
  simp only [Bool.not_true] at W0s1
  cases s2 with
  | false =>
   simp only [Bool.not_false] at W0s2;refine Zu (fun W hW => ?_);have hWL : Za w1 W := by rw [hW]; exact (Za.refl _).drew
   clear hW;replace HLC := zh (HLC.o.trans hWL);clear hWL;have HMC := zB HLC HM;have m0 := cz5 HMC.o;have y12 := (HS.o.later HLC.o).made_;have hMB := Zb HMC.o;have hSB := (HS.o.later HLC.o).lt
   repeat go_big_quiet_step (fail)
   refine wpQuiet_nil ?_;have hR0 : R = false := by rw [HR.o]; simp
   subst hR0;go_wp2_with fail;go_ret;exact ⟨rfl, HB.o.trans HLC.o⟩
  | true =>
   simp only [Bool.not_true] at W0s2;refine Zu (fun V hV => ?_);have hVL : Za w1 V := by rw [hV]; exact (Za.refl _).drew
   clear hV;replace HLC := zh (HLC.o.trans hVL);clear hVL;have HMC := zB HLC HM;have m0 := cz5 HMC.o;have y12 := (HS.o.later HLC.o).made_;have hMB := Zb HMC.o;have hSB := (HS.o.later HLC.o).lt
   repeat go_big_quiet_step (fail)
   refine wpQuiet_nil ?_;clear y12 hMB hSB;go_upto_region 12 with (fail)
   cases b1 with
   | false =>
    go_upto_region 32 with (fail)
    cases tg with
    | false =>
     have hR0 : R = false := by rw [HR.o]; simp
     subst hR0;go_wp2_with fail;go_ret;exact ⟨rfl, HB.o.trans HLC.o⟩
    | true =>
     cases ky with
     | false =>
      have hR0 : R = false := by rw [HR.o]; simp
      subst hR0;go_wp2_with fail;go_ret;exact ⟨rfl, HB.o.trans HLC.o⟩
     | true =>
      have hR0 : R = false := by rw [HR.o]; simp
      subst hR0;go_wp2_with fail;go_ret;exact ⟨rfl, HB.o.trans HLC.o⟩
   | true =>
    go_wp2_with fail;refine (Zay r B cs F _ aJ _ (HS.o.later HLC.o) (HI.o.later Zc HLC.o)).mono ?_;rw [Hai.o];rintro e w5 ⟨rfl, hcl⟩;clear HMC m0;replace HLC := zh (HLC.o.trans hcl);clear hcl;go_upto_region 32 with (fail)
    cases tg with
    | false =>
     have hR0 : R = false := by rw [HR.o]; simp
     subst hR0;go_wp2_with fail;go_ret;exact ⟨rfl, HB.o.trans HLC.o⟩
    | true =>
     cases ky with
     | false =>
      have hR0 : R = false := by rw [HR.o]; simp
      subst hR0;go_wp2_with fail;go_ret;exact ⟨rfl, HB.o.trans HLC.o⟩
     | true =>
      cases ai with
      | false =>
       have hR0 : R = false := by rw [HR.o]; simp
       subst hR0;go_wp2_with fail;go_ret;exact ⟨rfl, HB.o.trans HLC.o⟩
      | true =>
       have hR0 : R = true := by rw [HR.o]; simp
       subst hR0;go_wp2_with fail;go_ret;exact ⟨rfl, HB.o.trans HLC.o⟩
theorem Zsy (r : Zf) (B : Nat) (cs : List Value) (F : Nat → Prop) (w : World) (tag aI : Int) (aJ aK : List Ze) (vi vk : Value) (h : Z1 F w B r cs) (hi : Zp Zd 6 F w aJ vi) (hk : Zp Zd 6 F w aK vk) (hkz : aK.length ≤ 1048576) :
  Calls Tryz.prog 51 #[.pointer (some ⟨B, 0, none⟩), .agg #[.int .i64 3, .int .i64 tag, .int .i64 aI, vi, vk]] w fun e w' => e = .returned (.bool (Zaa r ⟨3, tag, aI, aJ, aK⟩)) ∧ Below w.heap.size w w' := by
 obtain ⟨R, hR⟩ : ∃ R, Zaa r ⟨3, tag, aI, aJ, aK⟩ = R := ⟨_, rfl⟩;rw [hR];have HR0 := zh hR;clear hR;obtain ⟨Ai, ci, rfl, hci, hcmi, _⟩ := id hi;obtain ⟨Ak, ck, rfl, hck, hcmk, _⟩ := id hk;unfold maxLen at hcmi hcmk;have hl1 := (Za.refl w).alloc (.cells #[.int .i64 3, .int .i64 tag, .int .i64 aI, .slice Ai aJ.length ci, .slice Ak aK.length ck] 94);have HS := zh (h.later hl1);have HI := zh (hi.later Zc hl1);have HK := zh (hk.later Zc hl1);have HM := zh (heap_alloc_new w (.cells #[.int .i64 3, .int .i64 tag, .int .i64 aI, .slice Ai aJ.length ci, .slice Ak aK.length ck] 94));have HB := zh hl1;obtain ⟨w1, hw1⟩ : ∃ x, x = w.alloc (.cells #[.int .i64 3, .int .i64 tag, .int .i64 aI, .slice Ai aJ.length ci, .slice Ak aK.length ck] 94) := ⟨_, rfl⟩;rw [← hw1] at HS HI HK HM HB;have HLC := zh (Za.refl w1);clear h hi hk hl1;obtain ⟨s1, hs1⟩ : ∃ q, (decide (1 ≤ aI)) = q := ⟨_, rfl⟩;have W0s1 : (decide (aI < 1)) = !s1 := by rw [← hs1]; exact (by rw [Bool.eq_iff_iff]; simp only [nJ, nK, nL, ne_eq, nM, nI, nH] <;> omega)
 obtain ⟨s2, hs2⟩ : ∃ q, (decide (aI ≤ r.made)) = q := ⟨_, rfl⟩;have W0s2 : (decide (r.made < aI)) = !s2 := by rw [← hs2]; exact (by rw [Bool.eq_iff_iff]; simp only [nJ, nK, nL, ne_eq, nM, nI, nH] <;> omega)
 obtain ⟨tg, htg⟩ : ∃ q, (tag == 0) = q := ⟨_, rfl⟩;have W0tg : (tag != 0) = !tg := by rw [← htg]; exact (by rw [Bool.eq_iff_iff]; simp only [nJ, nK, nL, ne_eq, nM, nI, nH] <;> omega)
 have W1tg : (tag == 0) = tg := htg;obtain ⟨b1, hb1⟩ : ∃ q, (decide (aK.length ≤ 40)) = q := ⟨_, rfl⟩;have W0b1 : (decide ((aK.length : Int) ≤ 40)) = b1 := by rw [← hb1]; exact (by rw [Bool.eq_iff_iff]; simp only [nJ, nK, nL, ne_eq, nM, nI, nH] <;> omega)
 obtain ⟨b2, hb2⟩ : ∃ q, (decide (aJ.length = aK.length + 1)) = q := ⟨_, rfl⟩;have W0b2 : ((aJ.length : Int) == (aK.length : Int) + 1) = b2 := by rw [← hb2]; exact (by rw [Bool.eq_iff_iff]; simp only [nJ, nK, nL, ne_eq, nM, nI, nH] <;> omega)
 have W1b2 : ((aJ.length : Int) == 1 + (aK.length : Int)) = b2 := by rw [← hb2]; exact (by rw [Bool.eq_iff_iff]; simp only [nJ, nK, nL, ne_eq, nM, nI, nH] <;> omega)
 obtain ⟨ai, hai⟩ : ∃ q, (Zaf r aJ) = q := ⟨_, rfl⟩;obtain ⟨ak, hak⟩ : ∃ q, (Zaf r aK) = q := ⟨_, rfl⟩;obtain ⟨di, hdi⟩ : ∃ q, (Zbg aK) = q := ⟨_, rfl⟩;have HR := zh (show R = ((s1 && s2) && (tg && (b1 && (b2 && (ai && (ak && (di))))))) by rw [← HR0.o, ← hs1, ← hs2, ← htg, ← hb1, ← hb2, ← hai, ← hak, ← hdi]; try rfl);have Hs1 := zh hs1;clear hs1;have Hs2 := zh hs2;clear hs2;have Htg := zh htg;clear htg;have Hb1 := zh hb1;clear hb1;have Hb2 := zh hb2;clear hb2;have Hai := zh hai;clear hai;have Hak := zh hak;clear hak;have Hdi := zh hdi;clear hdi;obtain ⟨kz, hkz⟩ : ∃ q, ((aK.length : Int) == 0) = q := ⟨_, rfl⟩;go_enter Tryz.func51, Tryz.ntmps51;go_upto_region 2 with (fail);rw [← hw1];clear hw1
 cases s1 with
 | false =>
  simp only [Bool.not_false] at W0s1;refine Zu (fun W hW => ?_);have hWL : Za w1 W := by rw [hW]; exact (Za.refl _).drew
  clear hW;replace HLC := zh (HLC.o.trans hWL);clear hWL;have HMC := zB HLC HM;have m0 := cz5 HMC.o;have y12 := (HS.o.later HLC.o).made_;have hMB := Zb HMC.o;have hSB := (HS.o.later HLC.o).lt
  repeat go_big_quiet_step (fail)
  refine wpQuiet_nil ?_;have hR0 : R = false := by rw [HR.o]; simp
  subst hR0;go_wp2_with fail;go_ret;exact ⟨rfl, HB.o.trans HLC.o⟩
 | true =>
  simp only [Bool.not_true] at W0s1
  cases s2 with
  | false =>
   simp only [Bool.not_false] at W0s2;refine Zu (fun W hW => ?_);have hWL : Za w1 W := by rw [hW]; exact (Za.refl _).drew
   clear hW;replace HLC := zh (HLC.o.trans hWL);clear hWL;have HMC := zB HLC HM;have m0 := cz5 HMC.o;have y12 := (HS.o.later HLC.o).made_;have hMB := Zb HMC.o;have hSB := (HS.o.later HLC.o).lt
   repeat go_big_quiet_step (fail)
   refine wpQuiet_nil ?_;have hR0 : R = false := by rw [HR.o]; simp
   subst hR0;go_wp2_with fail;go_ret;exact ⟨rfl, HB.o.trans HLC.o⟩
  | true =>
   simp only [Bool.not_true] at W0s2;refine Zu (fun V hV => ?_);have hVL : Za w1 V := by rw [hV]; exact (Za.refl _).drew
   clear hV;replace HLC := zh (HLC.o.trans hVL);clear hVL;have HMC := zB HLC HM;have m0 := cz5 HMC.o;have y12 := (HS.o.later HLC.o).made_;have hMB := Zb HMC.o;have hSB := (HS.o.later HLC.o).lt
   repeat go_big_quiet_step (fail)
   refine wpQuiet_nil ?_;clear y12 hMB hSB;go_upto_region 14 with (fail)
   cases b1 with
   | false =>
    go_upto_region 15 with (fail)
    cases b2 with
    | false =>
     go_upto_region 32 with (fail)
     cases tg with
     | false =>
      have hR0 : R = false := by rw [HR.o]; simp
      subst hR0;go_wp2_with fail;go_ret;exact ⟨rfl, HB.o.trans HLC.o⟩
     | true =>
      have hR0 : R = false := by rw [HR.o]; simp
      subst hR0;go_wp2_with fail;go_ret;exact ⟨rfl, HB.o.trans HLC.o⟩
    | true =>
     go_wp2_with fail;refine (Zay r B cs F _ aJ _ (HS.o.later HLC.o) (HI.o.later Zc HLC.o)).mono ?_;rw [Hai.o];rintro e w9 ⟨rfl, hcl⟩;clear HMC m0;replace HLC := zh (HLC.o.trans hcl);clear hcl;go_upto_region 32 with (fail)
     cases tg with
     | false =>
      have hR0 : R = false := by rw [HR.o]; simp
      subst hR0;go_wp2_with fail;go_ret;exact ⟨rfl, HB.o.trans HLC.o⟩
     | true =>
      cases ai with
      | false =>
       have hR0 : R = false := by rw [HR.o]; simp
       subst hR0;go_wp2_with fail;go_ret;exact ⟨rfl, HB.o.trans HLC.o⟩
      | true =>
       have hR0 : R = false := by rw [HR.o]; simp
       subst hR0;go_wp2_with fail;go_ret;exact ⟨rfl, HB.o.trans HLC.o⟩
   | true =>
    go_wp2_with fail;refine (Zdq aK _ F _ (HK.o.later Zc HLC.o)).mono ?_;rw [Hdi.o];rintro e w5 ⟨rfl, hcl⟩;clear HMC m0;replace HLC := zh (HLC.o.trans hcl);clear hcl;have HMC := zB HLC HM;have m0 := cz5 HMC.o
    cases di with
    | false =>
     go_upto_region 15 with (fail)
     cases b2 with
     | false =>
      go_upto_region 32 with (fail)
      cases tg with
      | false =>
       have hR0 : R = false := by rw [HR.o]; simp
       subst hR0;go_wp2_with fail;go_ret;exact ⟨rfl, HB.o.trans HLC.o⟩
      | true =>
       have hR0 : R = false := by rw [HR.o]; simp
       subst hR0;go_wp2_with fail;go_ret;exact ⟨rfl, HB.o.trans HLC.o⟩
     | true =>
      go_wp2_with fail;refine (Zay r B cs F _ aJ _ (HS.o.later HLC.o) (HI.o.later Zc HLC.o)).mono ?_;rw [Hai.o];rintro e w9 ⟨rfl, hcl⟩;clear HMC m0;replace HLC := zh (HLC.o.trans hcl);clear hcl;go_upto_region 32 with (fail)
      cases tg with
      | false =>
       have hR0 : R = false := by rw [HR.o]; simp
       subst hR0;go_wp2_with fail;go_ret;exact ⟨rfl, HB.o.trans HLC.o⟩
      | true =>
       cases ai with
       | false =>
        have hR0 : R = false := by rw [HR.o]; simp
        subst hR0;go_wp2_with fail;go_ret;exact ⟨rfl, HB.o.trans HLC.o⟩
       | true =>
        have hR0 : R = false := by rw [HR.o]; simp
        subst hR0;go_wp2_with fail;go_ret;exact ⟨rfl, HB.o.trans HLC.o⟩
    | true =>
     go_wp2_with fail;refine (Zay r B cs F _ aK _ (HS.o.later HLC.o) (HK.o.later Zc HLC.o)).mono ?_;rw [Hak.o];rintro e w6 ⟨rfl, hcl⟩;clear HMC m0;replace HLC := zh (HLC.o.trans hcl);clear hcl;have HMC := zB HLC HM;have m0 := cz5 HMC.o;go_upto_region 15 with (fail)
     cases b2 with
     | false =>
      go_upto_region 32 with (fail)
      cases tg with
      | false =>
       have hR0 : R = false := by rw [HR.o]; simp
       subst hR0;go_wp2_with fail;go_ret;exact ⟨rfl, HB.o.trans HLC.o⟩
      | true =>
       cases ak with
       | false =>
        have hR0 : R = false := by rw [HR.o]; simp
        subst hR0;go_wp2_with fail;go_ret;exact ⟨rfl, HB.o.trans HLC.o⟩
       | true =>
        have hR0 : R = false := by rw [HR.o]; simp
        subst hR0;go_wp2_with fail;go_ret;exact ⟨rfl, HB.o.trans HLC.o⟩
     | true =>
      go_wp2_with fail;refine (Zay r B cs F _ aJ _ (HS.o.later HLC.o) (HI.o.later Zc HLC.o)).mono ?_;rw [Hai.o];rintro e w9 ⟨rfl, hcl⟩;clear HMC m0;replace HLC := zh (HLC.o.trans hcl);clear hcl;go_upto_region 32 with (fail)
      cases tg with
      | false =>
       have hR0 : R = false := by rw [HR.o]; simp
       subst hR0;go_wp2_with fail;go_ret;exact ⟨rfl, HB.o.trans HLC.o⟩
      | true =>
       cases ak with
       | false =>
        have hR0 : R = false := by rw [HR.o]; simp
        subst hR0;go_wp2_with fail;go_ret;exact ⟨rfl, HB.o.trans HLC.o⟩
       | true =>
        cases ai with
        | false =>
         have hR0 : R = false := by rw [HR.o]; simp
         subst hR0;go_wp2_with fail;go_ret;exact ⟨rfl, HB.o.trans HLC.o⟩
        | true =>
         have hR0 : R = true := by rw [HR.o]; simp
         subst hR0;go_wp2_with fail;go_ret;exact ⟨rfl, HB.o.trans HLC.o⟩
theorem Zsz (r : Zf) (B : Nat) (cs : List Value) (F : Nat → Prop) (w : World) (tag aI : Int) (aJ aK : List Ze) (vi vk : Value) (h : Z1 F w B r cs) (hi : Zp Zd 6 F w aJ vi) (hk : Zp Zd 6 F w aK vk) (hkz : aK.length ≤ 1048576) :
  Calls Tryz.prog 51 #[.pointer (some ⟨B, 0, none⟩), .agg #[.int .i64 4, .int .i64 tag, .int .i64 aI, vi, vk]] w fun e w' => e = .returned (.bool (Zaa r ⟨4, tag, aI, aJ, aK⟩)) ∧ Below w.heap.size w w' := by
 obtain ⟨R, hR⟩ : ∃ R, Zaa r ⟨4, tag, aI, aJ, aK⟩ = R := ⟨_, rfl⟩;rw [hR];have HR0 := zh hR;clear hR;obtain ⟨Ai, ci, rfl, hci, hcmi, _⟩ := id hi;obtain ⟨Ak, ck, rfl, hck, hcmk, _⟩ := id hk;unfold maxLen at hcmi hcmk;have hl1 := (Za.refl w).alloc (.cells #[.int .i64 4, .int .i64 tag, .int .i64 aI, .slice Ai aJ.length ci, .slice Ak aK.length ck] 94);have HS := zh (h.later hl1);have HI := zh (hi.later Zc hl1);have HK := zh (hk.later Zc hl1);have HM := zh (heap_alloc_new w (.cells #[.int .i64 4, .int .i64 tag, .int .i64 aI, .slice Ai aJ.length ci, .slice Ak aK.length ck] 94));have HB := zh hl1;obtain ⟨w1, hw1⟩ : ∃ x, x = w.alloc (.cells #[.int .i64 4, .int .i64 tag, .int .i64 aI, .slice Ai aJ.length ci, .slice Ak aK.length ck] 94) := ⟨_, rfl⟩;rw [← hw1] at HS HI HK HM HB;have HLC := zh (Za.refl w1);clear h hi hk hl1;obtain ⟨s1, hs1⟩ : ∃ q, (decide (1 ≤ aI)) = q := ⟨_, rfl⟩;have W0s1 : (decide (aI < 1)) = !s1 := by rw [← hs1]; exact (by rw [Bool.eq_iff_iff]; simp only [nJ, nK, nL, ne_eq, nM, nI, nH] <;> omega)
 obtain ⟨s2, hs2⟩ : ∃ q, (decide (aI ≤ r.made)) = q := ⟨_, rfl⟩;have W0s2 : (decide (r.made < aI)) = !s2 := by rw [← hs2]; exact (by rw [Bool.eq_iff_iff]; simp only [nJ, nK, nL, ne_eq, nM, nI, nH] <;> omega)
 obtain ⟨tg, htg⟩ : ∃ q, (tag == 0) = q := ⟨_, rfl⟩;have W0tg : (tag != 0) = !tg := by rw [← htg]; exact (by rw [Bool.eq_iff_iff]; simp only [nJ, nK, nL, ne_eq, nM, nI, nH] <;> omega)
 have W1tg : (tag == 0) = tg := htg;obtain ⟨b1, hb1⟩ : ∃ q, (decide (aK.length ≤ 40)) = q := ⟨_, rfl⟩;have W0b1 : (decide ((aK.length : Int) ≤ 40)) = b1 := by rw [← hb1]; exact (by rw [Bool.eq_iff_iff]; simp only [nJ, nK, nL, ne_eq, nM, nI, nH] <;> omega)
 obtain ⟨b2, hb2⟩ : ∃ q, (decide (aJ.length = 0)) = q := ⟨_, rfl⟩;have W0b2 : ((aJ.length : Int) == 0) = b2 := by rw [← hb2]; exact (by rw [Bool.eq_iff_iff]; simp only [nJ, nK, nL, ne_eq, nM, nI, nH] <;> omega)
 obtain ⟨ak, hak⟩ : ∃ q, (Zaf r aK) = q := ⟨_, rfl⟩;obtain ⟨di, hdi⟩ : ∃ q, (Zbg aK) = q := ⟨_, rfl⟩;have HR := zh (show R = ((s1 && s2) && (tg && (b1 && (b2 && (ak && (di)))))) by rw [← HR0.o, ← hs1, ← hs2, ← htg, ← hb1, ← hb2, ← hak, ← hdi]; try rfl);have Hs1 := zh hs1;clear hs1;have Hs2 := zh hs2;clear hs2;have Htg := zh htg;clear htg;have Hb1 := zh hb1;clear hb1;have Hb2 := zh hb2;clear hb2;have Hak := zh hak;clear hak;have Hdi := zh hdi;clear hdi;obtain ⟨kz, hkz⟩ : ∃ q, ((aK.length : Int) == 0) = q := ⟨_, rfl⟩;go_enter Tryz.func51, Tryz.ntmps51;go_upto_region 2 with (fail);rw [← hw1];clear hw1
 cases s1 with
 | false =>
  simp only [Bool.not_false] at W0s1;refine Zu (fun W hW => ?_);have hWL : Za w1 W := by rw [hW]; exact (Za.refl _).drew
  clear hW;replace HLC := zh (HLC.o.trans hWL);clear hWL;have HMC := zB HLC HM;have m0 := cz5 HMC.o;have y12 := (HS.o.later HLC.o).made_;have hMB := Zb HMC.o;have hSB := (HS.o.later HLC.o).lt
  repeat go_big_quiet_step (fail)
  refine wpQuiet_nil ?_;have hR0 : R = false := by rw [HR.o]; simp
  subst hR0;go_wp2_with fail;go_ret;exact ⟨rfl, HB.o.trans HLC.o⟩
 | true =>
  simp only [Bool.not_true] at W0s1
  cases s2 with
  | false =>
   simp only [Bool.not_false] at W0s2;refine Zu (fun W hW => ?_);have hWL : Za w1 W := by rw [hW]; exact (Za.refl _).drew
   clear hW;replace HLC := zh (HLC.o.trans hWL);clear hWL;have HMC := zB HLC HM;have m0 := cz5 HMC.o;have y12 := (HS.o.later HLC.o).made_;have hMB := Zb HMC.o;have hSB := (HS.o.later HLC.o).lt
   repeat go_big_quiet_step (fail)
   refine wpQuiet_nil ?_;have hR0 : R = false := by rw [HR.o]; simp
   subst hR0;go_wp2_with fail;go_ret;exact ⟨rfl, HB.o.trans HLC.o⟩
  | true =>
   simp only [Bool.not_true] at W0s2;refine Zu (fun V hV => ?_);have hVL : Za w1 V := by rw [hV]; exact (Za.refl _).drew
   clear hV;replace HLC := zh (HLC.o.trans hVL);clear hVL;have HMC := zB HLC HM;have m0 := cz5 HMC.o;have y12 := (HS.o.later HLC.o).made_;have hMB := Zb HMC.o;have hSB := (HS.o.later HLC.o).lt
   repeat go_big_quiet_step (fail)
   refine wpQuiet_nil ?_;clear y12 hMB hSB;go_upto_region 17 with (fail)
   cases b1 with
   | false =>
    go_upto_region 32 with (fail)
    cases tg with
    | false =>
     have hR0 : R = false := by rw [HR.o]; simp
     subst hR0;go_wp2_with fail;go_ret;exact ⟨rfl, HB.o.trans HLC.o⟩
    | true =>
     cases b2 with
     | false =>
      have hR0 : R = false := by rw [HR.o]; simp
      subst hR0;go_wp2_with fail;go_ret;exact ⟨rfl, HB.o.trans HLC.o⟩
     | true =>
      have hR0 : R = false := by rw [HR.o]; simp
      subst hR0;go_wp2_with fail;go_ret;exact ⟨rfl, HB.o.trans HLC.o⟩
   | true =>
    go_wp2_with fail;refine (Zdq aK _ F _ (HK.o.later Zc HLC.o)).mono ?_;rw [Hdi.o];rintro e w5 ⟨rfl, hcl⟩;clear HMC m0;replace HLC := zh (HLC.o.trans hcl);clear hcl;have HMC := zB HLC HM;have m0 := cz5 HMC.o
    cases di with
    | false =>
     go_upto_region 32 with (fail)
     cases tg with
     | false =>
      have hR0 : R = false := by rw [HR.o]; simp
      subst hR0;go_wp2_with fail;go_ret;exact ⟨rfl, HB.o.trans HLC.o⟩
     | true =>
      cases b2 with
      | false =>
       have hR0 : R = false := by rw [HR.o]; simp
       subst hR0;go_wp2_with fail;go_ret;exact ⟨rfl, HB.o.trans HLC.o⟩
      | true =>
       have hR0 : R = false := by rw [HR.o]; simp
       subst hR0;go_wp2_with fail;go_ret;exact ⟨rfl, HB.o.trans HLC.o⟩
    | true =>
     go_wp2_with fail;refine (Zay r B cs F _ aK _ (HS.o.later HLC.o) (HK.o.later Zc HLC.o)).mono ?_;rw [Hak.o];rintro e w6 ⟨rfl, hcl⟩;clear HMC m0;replace HLC := zh (HLC.o.trans hcl);clear hcl;have HMC := zB HLC HM;have m0 := cz5 HMC.o;go_upto_region 32 with (fail)
     cases tg with
     | false =>
      have hR0 : R = false := by rw [HR.o]; simp
      subst hR0;go_wp2_with fail;go_ret;exact ⟨rfl, HB.o.trans HLC.o⟩
     | true =>
      cases ak with
      | false =>
       have hR0 : R = false := by rw [HR.o]; simp
       subst hR0;go_wp2_with fail;go_ret;exact ⟨rfl, HB.o.trans HLC.o⟩
      | true =>
       cases b2 with
       | false =>
                have hR0 : R = false := by rw [HR.o]; simp
                subst hR0;go_wp2_with fail;go_ret;exact ⟨rfl, HB.o.trans HLC.o⟩
       | true =>
                have hR0 : R = true := by rw [HR.o]; simp
                subst hR0;go_wp2_with fail;go_ret;exact ⟨rfl, HB.o.trans HLC.o⟩
theorem Zs0 (r : Zf) (B : Nat) (cs : List Value) (F : Nat → Prop) (w : World) (tag aI : Int) (aJ aK : List Ze) (vi vk : Value) (h : Z1 F w B r cs) (hi : Zp Zd 6 F w aJ vi) (hk : Zp Zd 6 F w aK vk) (hkz : aK.length ≤ 1048576) :
  Calls Tryz.prog 51 #[.pointer (some ⟨B, 0, none⟩), .agg #[.int .i64 7, .int .i64 tag, .int .i64 aI, vi, vk]] w fun e w' => e = .returned (.bool (Zaa r ⟨7, tag, aI, aJ, aK⟩)) ∧ Below w.heap.size w w' := by
 obtain ⟨R, hR⟩ : ∃ R, Zaa r ⟨7, tag, aI, aJ, aK⟩ = R := ⟨_, rfl⟩;rw [hR];have HR0 := zh hR;clear hR;obtain ⟨Ai, ci, rfl, hci, hcmi, _⟩ := id hi;obtain ⟨Ak, ck, rfl, hck, hcmk, _⟩ := id hk;unfold maxLen at hcmi hcmk;have hl1 := (Za.refl w).alloc (.cells #[.int .i64 7, .int .i64 tag, .int .i64 aI, .slice Ai aJ.length ci, .slice Ak aK.length ck] 94);have HS := zh (h.later hl1);have HI := zh (hi.later Zc hl1);have HK := zh (hk.later Zc hl1);have HM := zh (heap_alloc_new w (.cells #[.int .i64 7, .int .i64 tag, .int .i64 aI, .slice Ai aJ.length ci, .slice Ak aK.length ck] 94));have HB := zh hl1;obtain ⟨w1, hw1⟩ : ∃ x, x = w.alloc (.cells #[.int .i64 7, .int .i64 tag, .int .i64 aI, .slice Ai aJ.length ci, .slice Ak aK.length ck] 94) := ⟨_, rfl⟩;rw [← hw1] at HS HI HK HM HB;have HLC := zh (Za.refl w1);clear h hi hk hl1;obtain ⟨s1, hs1⟩ : ∃ q, (decide (1 ≤ aI)) = q := ⟨_, rfl⟩;have W0s1 : (decide (aI < 1)) = !s1 := by rw [← hs1]; exact (by rw [Bool.eq_iff_iff]; simp only [nJ, nK, nL, ne_eq, nM, nI, nH] <;> omega)
 obtain ⟨s2, hs2⟩ : ∃ q, (decide (aI ≤ r.made)) = q := ⟨_, rfl⟩;have W0s2 : (decide (r.made < aI)) = !s2 := by rw [← hs2]; exact (by rw [Bool.eq_iff_iff]; simp only [nJ, nK, nL, ne_eq, nM, nI, nH] <;> omega)
 obtain ⟨ky, hky⟩ : ∃ q, (decide (aK.length = 0)) = q := ⟨_, rfl⟩;have W0ky : ((aK.length : Int) != 0) = !ky := by rw [← hky]; exact (by rw [Bool.eq_iff_iff]; simp only [nJ, nK, nL, ne_eq, nM, nI, nH] <;> omega)
 have W1ky : ((aK.length : Int) == 0) = ky := by rw [← hky]; exact (by rw [Bool.eq_iff_iff]; simp only [nJ, nK, nL, ne_eq, nM, nI, nH] <;> omega)
 obtain ⟨pa, hpa⟩ : ∃ q, (Z6 r tag aJ) = q := ⟨_, rfl⟩;have HR := zh (show R = ((s1 && s2) && (ky && (pa))) by rw [← HR0.o, ← hs1, ← hs2, ← hky, ← hpa]; try rfl);have Hs1 := zh hs1;clear hs1;have Hs2 := zh hs2;clear hs2;have Hky := zh hky;clear hky;have Hpa := zh hpa;clear hpa;obtain ⟨tz, htz⟩ : ∃ q, (tag == 0) = q := ⟨_, rfl⟩;go_enter Tryz.func51, Tryz.ntmps51;go_upto_region 2 with (fail);rw [← hw1];clear hw1
 cases s1 with
 | false =>
  simp only [Bool.not_false] at W0s1;refine Zu (fun W hW => ?_);have hWL : Za w1 W := by rw [hW]; exact (Za.refl _).drew
  clear hW;replace HLC := zh (HLC.o.trans hWL);clear hWL;have HMC := zB HLC HM;have m0 := cz5 HMC.o;have y12 := (HS.o.later HLC.o).made_;have hMB := Zb HMC.o;have hSB := (HS.o.later HLC.o).lt
  repeat go_big_quiet_step (fail)
  refine wpQuiet_nil ?_;have hR0 : R = false := by rw [HR.o]; simp
  subst hR0;go_wp2_with fail;go_ret;exact ⟨rfl, HB.o.trans HLC.o⟩
 | true =>
  simp only [Bool.not_true] at W0s1
  cases s2 with
  | false =>
   simp only [Bool.not_false] at W0s2;refine Zu (fun W hW => ?_);have hWL : Za w1 W := by rw [hW]; exact (Za.refl _).drew
   clear hW;replace HLC := zh (HLC.o.trans hWL);clear hWL;have HMC := zB HLC HM;have m0 := cz5 HMC.o;have y12 := (HS.o.later HLC.o).made_;have hMB := Zb HMC.o;have hSB := (HS.o.later HLC.o).lt
   repeat go_big_quiet_step (fail)
   refine wpQuiet_nil ?_;have hR0 : R = false := by rw [HR.o]; simp
   subst hR0;go_wp2_with fail;go_ret;exact ⟨rfl, HB.o.trans HLC.o⟩
  | true =>
   simp only [Bool.not_true] at W0s2;refine Zu (fun V hV => ?_);have hVL : Za w1 V := by rw [hV]; exact (Za.refl _).drew
   clear hV;replace HLC := zh (HLC.o.trans hVL);clear hVL;have HMC := zB HLC HM;have m0 := cz5 HMC.o;have y12 := (HS.o.later HLC.o).made_;have hMB := Zb HMC.o;have hSB := (HS.o.later HLC.o).lt
   repeat go_big_quiet_step (fail)
   refine wpQuiet_nil ?_;clear y12 hMB hSB;go_upto_region 26 with (fail);go_wp2_with fail;refine (Zg3 r B cs F _ tag aJ _ (HS.o.later HLC.o) (HI.o.later Zc HLC.o)).mono ?_;rw [Hpa.o];rintro e w5 ⟨rfl, hcl⟩;clear HMC m0;replace HLC := zh (HLC.o.trans hcl);clear hcl;go_upto_region 32 with (fail)
   cases ky with
   | false =>
    have hR0 : R = false := by rw [HR.o]; simp
    subst hR0;go_wp2_with fail;go_ret;exact ⟨rfl, HB.o.trans HLC.o⟩
   | true =>
    cases pa with
    | false =>
     have hR0 : R = false := by rw [HR.o]; simp
     subst hR0;go_wp2_with fail;go_ret;exact ⟨rfl, HB.o.trans HLC.o⟩
    | true =>
     have hR0 : R = true := by rw [HR.o]; simp
     subst hR0;go_wp2_with fail;go_ret;exact ⟨rfl, HB.o.trans HLC.o⟩
theorem Zs1 (r : Zf) (B : Nat) (cs : List Value) (F : Nat → Prop) (w : World) (tag aI : Int) (aJ aK : List Ze) (vi vk : Value) (h : Z1 F w B r cs) (hi : Zp Zd 6 F w aJ vi) (hk : Zp Zd 6 F w aK vk) (hkz : aK.length ≤ 1048576) :
  Calls Tryz.prog 51 #[.pointer (some ⟨B, 0, none⟩), .agg #[.int .i64 6, .int .i64 tag, .int .i64 aI, vi, vk]] w fun e w' => e = .returned (.bool (Zaa r ⟨6, tag, aI, aJ, aK⟩)) ∧ Below w.heap.size w w' := by
 obtain ⟨R, hR⟩ : ∃ R, Zaa r ⟨6, tag, aI, aJ, aK⟩ = R := ⟨_, rfl⟩;rw [hR];have HR0 := zh hR;clear hR;obtain ⟨Ai, ci, rfl, hci, hcmi, _⟩ := id hi;obtain ⟨Ak, ck, rfl, hck, hcmk, _⟩ := id hk;unfold maxLen at hcmi hcmk;have hl1 := (Za.refl w).alloc (.cells #[.int .i64 6, .int .i64 tag, .int .i64 aI, .slice Ai aJ.length ci, .slice Ak aK.length ck] 94);have HS := zh (h.later hl1);have HI := zh (hi.later Zc hl1);have HK := zh (hk.later Zc hl1);have HM := zh (heap_alloc_new w (.cells #[.int .i64 6, .int .i64 tag, .int .i64 aI, .slice Ai aJ.length ci, .slice Ak aK.length ck] 94));have HB := zh hl1;obtain ⟨w1, hw1⟩ : ∃ x, x = w.alloc (.cells #[.int .i64 6, .int .i64 tag, .int .i64 aI, .slice Ai aJ.length ci, .slice Ak aK.length ck] 94) := ⟨_, rfl⟩;rw [← hw1] at HS HI HK HM HB;have HLC := zh (Za.refl w1);clear h hi hk hl1;obtain ⟨s1, hs1⟩ : ∃ q, (decide (1 ≤ aI)) = q := ⟨_, rfl⟩;have W0s1 : (decide (aI < 1)) = !s1 := by rw [← hs1]; exact (by rw [Bool.eq_iff_iff]; simp only [nJ, nK, nL, ne_eq, nM, nI, nH] <;> omega)
 obtain ⟨s2, hs2⟩ : ∃ q, (decide (aI ≤ r.made)) = q := ⟨_, rfl⟩;have W0s2 : (decide (r.made < aI)) = !s2 := by rw [← hs2]; exact (by rw [Bool.eq_iff_iff]; simp only [nJ, nK, nL, ne_eq, nM, nI, nH] <;> omega)
 obtain ⟨ky, hky⟩ : ∃ q, (decide (aK.length = 0)) = q := ⟨_, rfl⟩;have W0ky : ((aK.length : Int) != 0) = !ky := by rw [← hky]; exact (by rw [Bool.eq_iff_iff]; simp only [nJ, nK, nL, ne_eq, nM, nI, nH] <;> omega)
 have W1ky : ((aK.length : Int) == 0) = ky := by rw [← hky]; exact (by rw [Bool.eq_iff_iff]; simp only [nJ, nK, nL, ne_eq, nM, nI, nH] <;> omega)
 obtain ⟨t1, ht1⟩ : ∃ q, (decide (1 ≤ tag)) = q := ⟨_, rfl⟩;have W0t1 : (decide (1 ≤ tag)) = t1 := ht1;obtain ⟨b1, hb1⟩ : ∃ q, (decide (aJ.length = 3)) = q := ⟨_, rfl⟩;have W0b1 : ((aJ.length : Int) == 3) = b1 := by rw [← hb1]; exact (by rw [Bool.eq_iff_iff]; simp only [nJ, nK, nL, ne_eq, nM, nI, nH] <;> omega)
 obtain ⟨X, hX⟩ : ∃ X, Z9 r ⟨6, tag, aI, aJ, aK⟩ = X := ⟨_, rfl⟩;have HR := zh (show R = ((s1 && s2) && (ky && (X))) by rw [← HR0.o, ← hs1, ← hs2, ← hky, ← hX]; try rfl);have Hs1 := zh hs1;clear hs1;have Hs2 := zh hs2;clear hs2;have Hky := zh hky;clear hky;have Ht1 := zh ht1;clear ht1;have Hb1 := zh hb1;clear hb1;have HX := zh hX;clear hX;obtain ⟨tz, htz⟩ : ∃ q, (tag == 0) = q := ⟨_, rfl⟩;go_enter Tryz.func51, Tryz.ntmps51;go_upto_region 2 with (fail);rw [← hw1];clear hw1
 cases s1 with
 | false =>
  simp only [Bool.not_false] at W0s1;refine Zu (fun W hW => ?_);have hWL : Za w1 W := by rw [hW]; exact (Za.refl _).drew
  clear hW;replace HLC := zh (HLC.o.trans hWL);clear hWL;have HMC := zB HLC HM;have m0 := cz5 HMC.o;have y12 := (HS.o.later HLC.o).made_;have hMB := Zb HMC.o;have hSB := (HS.o.later HLC.o).lt
  repeat go_big_quiet_step (fail)
  refine wpQuiet_nil ?_;have hR0 : R = false := by rw [HR.o]; try simp
  subst hR0;go_wp2_with fail;go_ret;exact ⟨rfl, HB.o.trans HLC.o⟩
 | true =>
  simp only [Bool.not_true] at W0s1
  cases s2 with
  | false =>
   simp only [Bool.not_false] at W0s2;refine Zu (fun W hW => ?_);have hWL : Za w1 W := by rw [hW]; exact (Za.refl _).drew
   clear hW;replace HLC := zh (HLC.o.trans hWL);clear hWL;have HMC := zB HLC HM;have m0 := cz5 HMC.o;have y12 := (HS.o.later HLC.o).made_;have hMB := Zb HMC.o;have hSB := (HS.o.later HLC.o).lt
   repeat go_big_quiet_step (fail)
   refine wpQuiet_nil ?_;have hR0 : R = false := by rw [HR.o]; try simp
   subst hR0;go_wp2_with fail;go_ret;exact ⟨rfl, HB.o.trans HLC.o⟩
  | true =>
   simp only [Bool.not_true] at W0s2;refine Zu (fun V hV => ?_);have hVL : Za w1 V := by rw [hV]; exact (Za.refl _).drew
   clear hV;replace HLC := zh (HLC.o.trans hVL);clear hVL;have HMC := zB HLC HM;have m0 := cz5 HMC.o;have y12 := (HS.o.later HLC.o).made_;have hMB := Zb HMC.o;have hSB := (HS.o.later HLC.o).lt
   repeat go_big_quiet_step (fail)
   refine wpQuiet_nil ?_;clear y12 hMB hSB;go_upto_region 23 with (fail);go_upto_region 24 with (fail)
   cases b1 with
   | false =>
    have hX0 : X = false := by
     rw [← HX.o]
     match aJ, of_decide_eq_false Hb1.o with
     | [], _ => first | rfl | simp [Z9]
     | [_], _ => first | rfl | simp [Z9]
     | [_, _], _ => first | rfl | simp [Z9]
     | _ :: _ :: _ :: _ :: _, _ => first | rfl | simp [Z9]
     | [_, _, _], h => exact absurd rfl h
    replace HR := zh (show R = false by rw [HR.o, hX0]; simp);go_upto_region 32 with (fail)
    cases t1 with
    | false =>
     have hR0 : R = false := by rw [HR.o]; try simp
     subst hR0;go_wp2_with fail;go_ret;exact ⟨rfl, HB.o.trans HLC.o⟩
    | true =>
     cases ky with
     | false =>
      have hR0 : R = false := by rw [HR.o]; try simp
      subst hR0;go_wp2_with fail;go_ret;exact ⟨rfl, HB.o.trans HLC.o⟩
     | true =>
      have hR0 : R = false := by rw [HR.o]; try simp
      subst hR0;go_wp2_with fail;go_ret;exact ⟨rfl, HB.o.trans HLC.o⟩
   | true =>
    have hlen : aJ.length = 3 := of_decide_eq_true Hb1.o;clear W0b1 Hb1;obtain ⟨a, b, c, rfl⟩ : ∃ a b c, aJ = [a, b, c] := by
     match aJ, hlen with
     | [a0, b0, c0], _ => exact ⟨a0, b0, c0, rfl⟩
    clear hlen;obtain ⟨b0, o0, e0, hb0, hat0, hel0⟩ := (HI.o.later Zc HLC.o).vat (j := 0) (by simp);cases e0;simp only [List.getElem_cons_succ, List.getElem_cons_zero, Nat.reduceMul, Nat.add_zero] at hat0 hel0;obtain ⟨i00, i01, i02, i03, i04, i05⟩ := hat0;obtain ⟨b1, o1, e1, hb1, hat1, hel1⟩ := (HI.o.later Zc HLC.o).vat (j := 1) (by simp);cases e1;simp only [List.getElem_cons_succ, List.getElem_cons_zero, Nat.reduceMul, Nat.add_zero] at hat1 hel1;obtain ⟨i10, i11, i12, i13, i14, i15⟩ := hat1;obtain ⟨b2, o2, e2, hb2, hat2, hel2⟩ := (HI.o.later Zc HLC.o).vat (j := 2) (by simp);cases e2;simp only [List.getElem_cons_succ, List.getElem_cons_zero, Nat.reduceMul, Nat.add_zero] at hat2 hel2;obtain ⟨i20, i21, i22, i23, i24, i25⟩ := hat2;obtain ⟨k0, hk0⟩ : ∃ q, (a.kind == 19) = q := ⟨_, rfl⟩;have W0k0 : (a.kind == 19) = k0 := hk0;obtain ⟨k1, hk1⟩ : ∃ q, (b.kind == 19) = q := ⟨_, rfl⟩;have W0k1 : (b.kind == 19) = k1 := hk1;obtain ⟨k2, hk2⟩ : ∃ q, (c.kind == 1) = q := ⟨_, rfl⟩;have W0k2 : (c.kind == 1) = k2 := hk2;obtain ⟨nn, hnn⟩ : ∃ q, (decide (0 ≤ c.aH)) = q := ⟨_, rfl⟩;have W0nn : (decide (0 ≤ c.aH)) = nn := hnn;obtain ⟨q0, hq0⟩ : ∃ q, (Zi r a) = q := ⟨_, rfl⟩;obtain ⟨q1, hq1⟩ : ∃ q, (Zi r b) = q := ⟨_, rfl⟩;obtain ⟨q2, hq2⟩ : ∃ q, (Zi r c) = q := ⟨_, rfl⟩;replace HR := zh (show R = (true && true && (ky && (t1 && (k0 && (q0 && (k1 && (q1 && (k2 && (q2 && nn))))))))) by rw [HR.o, ← HX.o, ← hk0, ← hq0, ← hk1, ← hq1, ← hk2, ← hq2, ← hnn, ← Ht1.o]; rfl)
    have Hk0 := zh hk0;clear hk0;have Hk1 := zh hk1;clear hk1;have Hk2 := zh hk2;clear hk2;have Hnn := zh hnn;clear hnn;have Hq0 := zh hq0;clear hq0;have Hq1 := zh hq1;clear hq1;have Hq2 := zh hq2;clear hq2
    cases k0 with
    | false =>
     go_upto_region 32 with (fail)
     cases t1 with
     | false =>
      have hR0 : R = false := by rw [HR.o]; try simp
      subst hR0;go_wp2_with fail;go_ret;exact ⟨rfl, HB.o.trans HLC.o⟩
     | true =>
      cases ky with
      | false =>
       have hR0 : R = false := by rw [HR.o]; try simp
       subst hR0;go_wp2_with fail;go_ret;exact ⟨rfl, HB.o.trans HLC.o⟩
      | true =>
       have hR0 : R = false := by rw [HR.o]; try simp
       subst hR0;go_wp2_with fail;go_ret;exact ⟨rfl, HB.o.trans HLC.o⟩
    | true =>
     go_wp2_with fail;refine (Zag r B cs F _ a _ (HS.o.later HLC.o) hel0).mono ?_;rw [Hq0.o];rintro e w5 ⟨rfl, hcl⟩;clear HMC m0;clear hel0 hb0 i00 i01 i02 i03 i04 i05 hel1 hb1 i10 i11 i12 i13 i14 i15 hel2 hb2 i20 i21 i22 i23 i24 i25;replace HLC := zh (HLC.o.trans hcl);clear hcl;have HMC := zB HLC HM;have m0 := cz5 HMC.o;obtain ⟨b0, o0, e0, hb0, hat0, hel0⟩ := (HI.o.later Zc HLC.o).vat (j := 0) (by simp);cases e0;simp only [List.getElem_cons_succ, List.getElem_cons_zero, Nat.reduceMul, Nat.add_zero] at hat0 hel0;obtain ⟨i00, i01, i02, i03, i04, i05⟩ := hat0;obtain ⟨b1, o1, e1, hb1, hat1, hel1⟩ := (HI.o.later Zc HLC.o).vat (j := 1) (by simp);cases e1;simp only [List.getElem_cons_succ, List.getElem_cons_zero, Nat.reduceMul, Nat.add_zero] at hat1 hel1;obtain ⟨i10, i11, i12, i13, i14, i15⟩ := hat1;obtain ⟨b2, o2, e2, hb2, hat2, hel2⟩ := (HI.o.later Zc HLC.o).vat (j := 2) (by simp);cases e2;simp only [List.getElem_cons_succ, List.getElem_cons_zero, Nat.reduceMul, Nat.add_zero] at hat2 hel2;obtain ⟨i20, i21, i22, i23, i24, i25⟩ := hat2
     cases q0 with
     | false =>
      go_upto_region 32 with (fail)
      cases t1 with
      | false =>
       have hR0 : R = false := by rw [HR.o]; try simp
       subst hR0;go_wp2_with fail;go_ret;exact ⟨rfl, HB.o.trans HLC.o⟩
      | true =>
       cases ky with
       | false =>
        have hR0 : R = false := by rw [HR.o]; try simp
        subst hR0;go_wp2_with fail;go_ret;exact ⟨rfl, HB.o.trans HLC.o⟩
       | true =>
        have hR0 : R = false := by rw [HR.o]; try simp
        subst hR0;go_wp2_with fail;go_ret;exact ⟨rfl, HB.o.trans HLC.o⟩
     | true =>
      cases k1 with
      | false =>
       go_upto_region 32 with (fail)
       cases t1 with
       | false =>
        have hR0 : R = false := by rw [HR.o]; try simp
        subst hR0;go_wp2_with fail;go_ret;exact ⟨rfl, HB.o.trans HLC.o⟩
       | true =>
        cases ky with
        | false =>
         have hR0 : R = false := by rw [HR.o]; try simp
         subst hR0;go_wp2_with fail;go_ret;exact ⟨rfl, HB.o.trans HLC.o⟩
        | true =>
         have hR0 : R = false := by rw [HR.o]; try simp
         subst hR0;go_wp2_with fail;go_ret;exact ⟨rfl, HB.o.trans HLC.o⟩
      | true =>
       go_wp2_with fail;refine (Zag r B cs F _ b _ (HS.o.later HLC.o) hel1).mono ?_;rw [Hq1.o];rintro e w6 ⟨rfl, hcl⟩;clear HMC m0;clear hel0 hb0 i00 i01 i02 i03 i04 i05 hel1 hb1 i10 i11 i12 i13 i14 i15 hel2 hb2 i20 i21 i22 i23 i24 i25;replace HLC := zh (HLC.o.trans hcl);clear hcl;have HMC := zB HLC HM;have m0 := cz5 HMC.o;obtain ⟨b0, o0, e0, hb0, hat0, hel0⟩ := (HI.o.later Zc HLC.o).vat (j := 0) (by simp);cases e0;simp only [List.getElem_cons_succ, List.getElem_cons_zero, Nat.reduceMul, Nat.add_zero] at hat0 hel0;obtain ⟨i00, i01, i02, i03, i04, i05⟩ := hat0;obtain ⟨b1, o1, e1, hb1, hat1, hel1⟩ := (HI.o.later Zc HLC.o).vat (j := 1) (by simp);cases e1;simp only [List.getElem_cons_succ, List.getElem_cons_zero, Nat.reduceMul, Nat.add_zero] at hat1 hel1;obtain ⟨i10, i11, i12, i13, i14, i15⟩ := hat1;obtain ⟨b2, o2, e2, hb2, hat2, hel2⟩ := (HI.o.later Zc HLC.o).vat (j := 2) (by simp);cases e2;simp only [List.getElem_cons_succ, List.getElem_cons_zero, Nat.reduceMul, Nat.add_zero] at hat2 hel2;obtain ⟨i20, i21, i22, i23, i24, i25⟩ := hat2
       cases q1 with
       | false =>
        go_upto_region 32 with (fail)
        cases t1 with
        | false =>
         have hR0 : R = false := by rw [HR.o]; try simp
         subst hR0;go_wp2_with fail;go_ret;exact ⟨rfl, HB.o.trans HLC.o⟩
        | true =>
         cases ky with
         | false =>
          have hR0 : R = false := by rw [HR.o]; try simp
          subst hR0;go_wp2_with fail;go_ret;exact ⟨rfl, HB.o.trans HLC.o⟩
         | true =>
          have hR0 : R = false := by rw [HR.o]; try simp
          subst hR0;go_wp2_with fail;go_ret;exact ⟨rfl, HB.o.trans HLC.o⟩
       | true =>
        cases k2 with
        | false =>
         go_upto_region 32 with (fail)
         cases t1 with
         | false =>
          have hR0 : R = false := by rw [HR.o]; try simp
          subst hR0;go_wp2_with fail;go_ret;exact ⟨rfl, HB.o.trans HLC.o⟩
         | true =>
          cases ky with
          | false =>
           have hR0 : R = false := by rw [HR.o]; try simp
           subst hR0;go_wp2_with fail;go_ret;exact ⟨rfl, HB.o.trans HLC.o⟩
          | true =>
           have hR0 : R = false := by rw [HR.o]; try simp
           subst hR0;go_wp2_with fail;go_ret;exact ⟨rfl, HB.o.trans HLC.o⟩
        | true =>
         go_wp2_with fail;refine (Zag r B cs F _ c _ (HS.o.later HLC.o) hel2).mono ?_;rw [Hq2.o];rintro e w7 ⟨rfl, hcl⟩;clear HMC m0;clear hel0 hb0 i00 i01 i02 i03 i04 i05 hel1 hb1 i10 i11 i12 i13 i14 i15 hel2 hb2 i20 i21 i22 i23 i24 i25;replace HLC := zh (HLC.o.trans hcl);clear hcl;have HMC := zB HLC HM;have m0 := cz5 HMC.o;obtain ⟨b0, o0, e0, hb0, hat0, hel0⟩ := (HI.o.later Zc HLC.o).vat (j := 0) (by simp);cases e0;simp only [List.getElem_cons_succ, List.getElem_cons_zero, Nat.reduceMul, Nat.add_zero] at hat0 hel0;obtain ⟨i00, i01, i02, i03, i04, i05⟩ := hat0;obtain ⟨b1, o1, e1, hb1, hat1, hel1⟩ := (HI.o.later Zc HLC.o).vat (j := 1) (by simp);cases e1;simp only [List.getElem_cons_succ, List.getElem_cons_zero, Nat.reduceMul, Nat.add_zero] at hat1 hel1;obtain ⟨i10, i11, i12, i13, i14, i15⟩ := hat1;obtain ⟨b2, o2, e2, hb2, hat2, hel2⟩ := (HI.o.later Zc HLC.o).vat (j := 2) (by simp);cases e2;simp only [List.getElem_cons_succ, List.getElem_cons_zero, Nat.reduceMul, Nat.add_zero] at hat2 hel2;obtain ⟨i20, i21, i22, i23, i24, i25⟩ := hat2
         cases q2 with
         | false =>
          go_upto_region 32 with (fail)
          cases t1 with
          | false =>
           have hR0 : R = false := by rw [HR.o]; try simp
           subst hR0;go_wp2_with fail;go_ret;exact ⟨rfl, HB.o.trans HLC.o⟩
          | true =>
           cases ky with
           | false =>
            have hR0 : R = false := by rw [HR.o]; try simp
            subst hR0;go_wp2_with fail;go_ret;exact ⟨rfl, HB.o.trans HLC.o⟩
           | true =>
            have hR0 : R = false := by rw [HR.o]; try simp
            subst hR0;go_wp2_with fail;go_ret;exact ⟨rfl, HB.o.trans HLC.o⟩
         | true =>
          go_upto_region 32 with (fail)
          cases t1 with
          | false =>
           have hR0 : R = false := by rw [HR.o]; try simp
           subst hR0;go_wp2_with fail;go_ret;exact ⟨rfl, HB.o.trans HLC.o⟩
          | true =>
           cases ky with
           | false =>
            have hR0 : R = false := by rw [HR.o]; try simp
            subst hR0;go_wp2_with fail;go_ret;exact ⟨rfl, HB.o.trans HLC.o⟩
           | true =>
            cases nn with
            | false =>
             have hR0 : R = false := by rw [HR.o]; try simp
             subst hR0;go_wp2_with fail;go_ret;exact ⟨rfl, HB.o.trans HLC.o⟩
            | true =>
             have hR0 : R = true := by rw [HR.o]; simp
             subst hR0;go_wp2_with fail;go_ret;exact ⟨rfl, HB.o.trans HLC.o⟩
theorem Zs2 (r : Zf) (B : Nat) (cs : List Value) (F : Nat → Prop) (w : World) (tag aI : Int) (aJ aK : List Ze) (vi vk : Value) (h : Z1 F w B r cs) (hi : Zp Zd 6 F w aJ vi) (hk : Zp Zd 6 F w aK vk) (hkz : aK.length ≤ 1048576) :
  Calls Tryz.prog 51 #[.pointer (some ⟨B, 0, none⟩), .agg #[.int .i64 8, .int .i64 tag, .int .i64 aI, vi, vk]] w fun e w' => e = .returned (.bool (Zaa r ⟨8, tag, aI, aJ, aK⟩)) ∧ Below w.heap.size w w' := by
 obtain ⟨R, hR⟩ : ∃ R, Zaa r ⟨8, tag, aI, aJ, aK⟩ = R := ⟨_, rfl⟩;rw [hR];have HR0 := zh hR;clear hR;obtain ⟨Ai, ci, rfl, hci, hcmi, _⟩ := id hi;obtain ⟨Ak, ck, rfl, hck, hcmk, _⟩ := id hk;unfold maxLen at hcmi hcmk;have hl1 := (Za.refl w).alloc (.cells #[.int .i64 8, .int .i64 tag, .int .i64 aI, .slice Ai aJ.length ci, .slice Ak aK.length ck] 94);have HS := zh (h.later hl1);have HI := zh (hi.later Zc hl1);have HK := zh (hk.later Zc hl1);have HM := zh (heap_alloc_new w (.cells #[.int .i64 8, .int .i64 tag, .int .i64 aI, .slice Ai aJ.length ci, .slice Ak aK.length ck] 94));have HB := zh hl1;obtain ⟨w1, hw1⟩ : ∃ x, x = w.alloc (.cells #[.int .i64 8, .int .i64 tag, .int .i64 aI, .slice Ai aJ.length ci, .slice Ak aK.length ck] 94) := ⟨_, rfl⟩;rw [← hw1] at HS HI HK HM HB;have HLC := zh (Za.refl w1);clear h hi hk hl1;obtain ⟨s0, hs0⟩ : ∃ q, (aI == 0) = q := ⟨_, rfl⟩;have W0s0 : (aI != 0) = !s0 := by rw [← hs0]; exact (by rw [Bool.eq_iff_iff]; simp only [nJ, nK, nL, ne_eq, nM, nI, nH] <;> omega)
 obtain ⟨tg, htg⟩ : ∃ q, (tag == 0) = q := ⟨_, rfl⟩;have W0tg : (tag != 0) = !tg := by rw [← htg]; exact (by rw [Bool.eq_iff_iff]; simp only [nJ, nK, nL, ne_eq, nM, nI, nH] <;> omega)
 have W1tg : (tag == 0) = tg := htg;obtain ⟨ky, hky⟩ : ∃ q, (decide (aK.length = 0)) = q := ⟨_, rfl⟩;have W0ky : ((aK.length : Int) != 0) = !ky := by rw [← hky]; exact (by rw [Bool.eq_iff_iff]; simp only [nJ, nK, nL, ne_eq, nM, nI, nH] <;> omega)
 have W1ky : ((aK.length : Int) == 0) = ky := by rw [← hky]; exact (by rw [Bool.eq_iff_iff]; simp only [nJ, nK, nL, ne_eq, nM, nI, nH] <;> omega)
 obtain ⟨b1, hb1⟩ : ∃ q, (decide (aJ.length = 2)) = q := ⟨_, rfl⟩;have W0b1 : ((aJ.length : Int) == 2) = b1 := by rw [← hb1]; exact (by rw [Bool.eq_iff_iff]; simp only [nJ, nK, nL, ne_eq, nM, nI, nH] <;> omega)
 obtain ⟨X, hX⟩ : ∃ X, Z9 r ⟨8, tag, aI, aJ, aK⟩ = X := ⟨_, rfl⟩;have HR := zh (show R = (s0 && (tg && (ky && (X)))) by rw [← HR0.o, ← hs0, ← htg, ← hky, ← hX]; try rfl);have Hs0 := zh hs0;clear hs0;have Htg := zh htg;clear htg;have Hky := zh hky;clear hky;have Hb1 := zh hb1;clear hb1;have HX := zh hX;clear hX;go_enter Tryz.func51, Tryz.ntmps51;go_upto_region 2 with (fail);rw [← hw1];clear hw1
 cases s0 with
 | false =>
  simp only [Bool.not_false] at W0s0;refine Zu (fun W hW => ?_);have hWL : Za w1 W := by rw [hW]; exact (Za.refl _).drew
  clear hW;replace HLC := zh (HLC.o.trans hWL);clear hWL;have HMC := zB HLC HM;have m0 := cz5 HMC.o;have y12 := (HS.o.later HLC.o).made_;have hMB := Zb HMC.o;have hSB := (HS.o.later HLC.o).lt
  repeat go_big_quiet_step (fail)
  refine wpQuiet_nil ?_;have hR0 : R = false := by rw [HR.o]; try simp
  subst hR0;go_wp2_with fail;go_ret;exact ⟨rfl, HB.o.trans HLC.o⟩
 | true =>
  simp only [Bool.not_true] at W0s0;refine Zu (fun V hV => ?_);have hVL : Za w1 V := by rw [hV]; exact (Za.refl _).drew
  clear hV;replace HLC := zh (HLC.o.trans hVL);clear hVL;have HMC := zB HLC HM;have m0 := cz5 HMC.o;have y12 := (HS.o.later HLC.o).made_;have hMB := Zb HMC.o;have hSB := (HS.o.later HLC.o).lt
  repeat go_big_quiet_step (fail)
  refine wpQuiet_nil ?_;clear y12 hMB hSB;go_upto_region 29 with (fail)
  cases b1 with
  | false =>
   have hX0 : X = false := by
    rw [← HX.o]
    match aJ, of_decide_eq_false Hb1.o with
    | [], _ => first | rfl | simp [Z9]
    | [_], _ => first | rfl | simp [Z9]
    | _ :: _ :: _ :: _, _ => first | rfl | simp [Z9]
    | [_, _], h => exact absurd rfl h
   replace HR := zh (show R = false by rw [HR.o, hX0]; simp);go_upto_region 32 with (fail)
   cases tg with
   | false =>
    have hR0 : R = false := by rw [HR.o]; try simp
    subst hR0;go_wp2_with fail;go_ret;exact ⟨rfl, HB.o.trans HLC.o⟩
   | true =>
    cases ky with
    | false =>
     have hR0 : R = false := by rw [HR.o]; try simp
     subst hR0;go_wp2_with fail;go_ret;exact ⟨rfl, HB.o.trans HLC.o⟩
    | true =>
     have hR0 : R = false := by rw [HR.o]; try simp
     subst hR0;go_wp2_with fail;go_ret;exact ⟨rfl, HB.o.trans HLC.o⟩
  | true =>
   have hlen : aJ.length = 2 := of_decide_eq_true Hb1.o;clear W0b1 Hb1;obtain ⟨a, b, rfl⟩ : ∃ a b, aJ = [a, b] := by
    match aJ, hlen with
    | [a0, b0], _ => exact ⟨a0, b0, rfl⟩
   clear hlen;obtain ⟨b0, o0, e0, hb0, hat0, hel0⟩ := (HI.o.later Zc HLC.o).vat (j := 0) (by simp);cases e0;simp only [List.getElem_cons_succ, List.getElem_cons_zero, Nat.reduceMul, Nat.add_zero] at hat0 hel0;obtain ⟨i00, i01, i02, i03, i04, i05⟩ := hat0;obtain ⟨b1, o1, e1, hb1, hat1, hel1⟩ := (HI.o.later Zc HLC.o).vat (j := 1) (by simp);cases e1;simp only [List.getElem_cons_succ, List.getElem_cons_zero, Nat.reduceMul, Nat.add_zero] at hat1 hel1;obtain ⟨i10, i11, i12, i13, i14, i15⟩ := hat1;obtain ⟨k0, hk0⟩ : ∃ q, (a.kind == 5) = q := ⟨_, rfl⟩;have W0k0 : (a.kind == 5) = k0 := hk0;obtain ⟨ai, hai⟩ : ∃ q, (Zaf r [a, b]) = q := ⟨_, rfl⟩;replace HR := zh (show R = (true && (tg && (ky && (k0 && ai)))) by rw [HR.o, ← HX.o, ← hk0, ← hai]; simp [Z9, Zaf]);have Hk0 := zh hk0;clear hk0;have Hai := zh hai;clear hai
   cases k0 with
   | false =>
    go_upto_region 32 with (fail)
    cases tg with
    | false =>
     have hR0 : R = false := by rw [HR.o]; try simp
     subst hR0;go_wp2_with fail;go_ret;exact ⟨rfl, HB.o.trans HLC.o⟩
    | true =>
     cases ky with
     | false =>
      have hR0 : R = false := by rw [HR.o]; try simp
      subst hR0;go_wp2_with fail;go_ret;exact ⟨rfl, HB.o.trans HLC.o⟩
     | true =>
      have hR0 : R = false := by rw [HR.o]; try simp
      subst hR0;go_wp2_with fail;go_ret;exact ⟨rfl, HB.o.trans HLC.o⟩
   | true =>
    go_wp2_with fail;refine (Zay r B cs F _ [a, b] _ (HS.o.later HLC.o) (HI.o.later Zc HLC.o)).mono ?_;rw [Hai.o];rintro e w5 ⟨rfl, hcl⟩;clear HMC m0;clear hel0 hb0 i00 i01 i02 i03 i04 i05 hel1 hb1 i10 i11 i12 i13 i14 i15;replace HLC := zh (HLC.o.trans hcl);clear hcl;go_upto_region 32 with (fail)
    cases tg with
    | false =>
     have hR0 : R = false := by rw [HR.o]; try simp
     subst hR0;go_wp2_with fail;go_ret;exact ⟨rfl, HB.o.trans HLC.o⟩
    | true =>
     cases ky with
     | false =>
      have hR0 : R = false := by rw [HR.o]; try simp
      subst hR0;go_wp2_with fail;go_ret;exact ⟨rfl, HB.o.trans HLC.o⟩
     | true =>
      cases ai with
      | false =>
       have hR0 : R = false := by rw [HR.o]; try simp
       subst hR0;go_wp2_with fail;go_ret;exact ⟨rfl, HB.o.trans HLC.o⟩
      | true =>
       have hR0 : R = true := by rw [HR.o]; simp
       subst hR0;go_wp2_with fail;go_ret;exact ⟨rfl, HB.o.trans HLC.o⟩
theorem Zs3 (r : Zf) (B : Nat) (cs : List Value) (F : Nat → Prop) (w : World) (tag aI : Int) (aJ aK : List Ze) (vi vk : Value) (h : Z1 F w B r cs) (hi : Zp Zd 6 F w aJ vi) (hk : Zp Zd 6 F w aK vk) (hkz : aK.length ≤ 1048576) :
  Calls Tryz.prog 51 #[.pointer (some ⟨B, 0, none⟩), .agg #[.int .i64 5, .int .i64 tag, .int .i64 aI, vi, vk]] w fun e w' => e = .returned (.bool (Zaa r ⟨5, tag, aI, aJ, aK⟩)) ∧ Below w.heap.size w w' := by
 obtain ⟨R, hR⟩ : ∃ R, Zaa r ⟨5, tag, aI, aJ, aK⟩ = R := ⟨_, rfl⟩;rw [hR];have HR0 := zh hR;clear hR;obtain ⟨Ai, ci, rfl, hci, hcmi, _⟩ := id hi;obtain ⟨Ak, ck, rfl, hck, hcmk, _⟩ := id hk;unfold maxLen at hcmi hcmk;have hl1 := (Za.refl w).alloc (.cells #[.int .i64 5, .int .i64 tag, .int .i64 aI, .slice Ai aJ.length ci, .slice Ak aK.length ck] 94);have HS := zh (h.later hl1);have HI := zh (hi.later Zc hl1);have HK := zh (hk.later Zc hl1);have HM := zh (heap_alloc_new w (.cells #[.int .i64 5, .int .i64 tag, .int .i64 aI, .slice Ai aJ.length ci, .slice Ak aK.length ck] 94));have HB := zh hl1;obtain ⟨w1, hw1⟩ : ∃ x, x = w.alloc (.cells #[.int .i64 5, .int .i64 tag, .int .i64 aI, .slice Ai aJ.length ci, .slice Ak aK.length ck] 94) := ⟨_, rfl⟩;rw [← hw1] at HS HI HK HM HB;have HLC := zh (Za.refl w1);clear h hi hk hl1;obtain ⟨s1, hs1⟩ : ∃ q, (decide (1 ≤ aI)) = q := ⟨_, rfl⟩;have W0s1 : (decide (aI < 1)) = !s1 := by rw [← hs1]; exact (by rw [Bool.eq_iff_iff]; simp only [nJ, nK, nL, ne_eq, nM, nI, nH] <;> omega)
 obtain ⟨s2, hs2⟩ : ∃ q, (decide (aI ≤ r.made)) = q := ⟨_, rfl⟩;have W0s2 : (decide (r.made < aI)) = !s2 := by rw [← hs2]; exact (by rw [Bool.eq_iff_iff]; simp only [nJ, nK, nL, ne_eq, nM, nI, nH] <;> omega)
 obtain ⟨ky, hky⟩ : ∃ q, (decide (aK.length = 0)) = q := ⟨_, rfl⟩;have W0ky : ((aK.length : Int) != 0) = !ky := by rw [← hky]; exact (by rw [Bool.eq_iff_iff]; simp only [nJ, nK, nL, ne_eq, nM, nI, nH] <;> omega)
 have W1ky : ((aK.length : Int) == 0) = ky := by rw [← hky]; exact (by rw [Bool.eq_iff_iff]; simp only [nJ, nK, nL, ne_eq, nM, nI, nH] <;> omega)
 obtain ⟨t1, ht1⟩ : ∃ q, (decide (0 ≤ tag)) = q := ⟨_, rfl⟩;have W0t1 : (decide (0 ≤ tag)) = t1 := ht1;obtain ⟨X, hX⟩ : ∃ X, Z9 r ⟨5, tag, aI, aJ, aK⟩ = X := ⟨_, rfl⟩;have HR := zh (show R = ((s1 && s2) && (ky && (X))) by rw [← HR0.o, ← hs1, ← hs2, ← hky, ← hX]; try rfl);have Hs1 := zh hs1;clear hs1;have Hs2 := zh hs2;clear hs2;have Hky := zh hky;clear hky;have Ht1 := zh ht1;clear ht1;have HX := zh hX;clear hX;obtain ⟨tz, htz⟩ : ∃ q, (tag == 0) = q := ⟨_, rfl⟩;go_enter Tryz.func51, Tryz.ntmps51;go_upto_region 2 with (fail);rw [← hw1];clear hw1
 cases s1 with
 | false =>
  simp only [Bool.not_false] at W0s1;refine Zu (fun W hW => ?_);have hWL : Za w1 W := by rw [hW]; exact (Za.refl _).drew
  clear hW;replace HLC := zh (HLC.o.trans hWL);clear hWL;have HMC := zB HLC HM;obtain ⟨m0, m1, m2, m3, m4⟩ := cz5 HMC.o;have y12 := (HS.o.later HLC.o).made_;have hMB := Zb HMC.o;have hSB := (HS.o.later HLC.o).lt
  repeat go_big_quiet_step (fail)
  refine wpQuiet_nil ?_;have hR0 : R = false := by rw [HR.o]; try simp
  subst hR0;go_wp2_with fail;go_ret;exact ⟨rfl, HB.o.trans HLC.o⟩
 | true =>
  simp only [Bool.not_true] at W0s1
  cases s2 with
  | false =>
   simp only [Bool.not_false] at W0s2;refine Zu (fun W hW => ?_);have hWL : Za w1 W := by rw [hW]; exact (Za.refl _).drew
   clear hW;replace HLC := zh (HLC.o.trans hWL);clear hWL;have HMC := zB HLC HM;obtain ⟨m0, m1, m2, m3, m4⟩ := cz5 HMC.o;have y12 := (HS.o.later HLC.o).made_;have hMB := Zb HMC.o;have hSB := (HS.o.later HLC.o).lt
   repeat go_big_quiet_step (fail)
   refine wpQuiet_nil ?_;have hR0 : R = false := by rw [HR.o]; try simp
   subst hR0;go_wp2_with fail;go_ret;exact ⟨rfl, HB.o.trans HLC.o⟩
  | true =>
   simp only [Bool.not_true] at W0s2;refine Zu (fun V hV => ?_);have hVL : Za w1 V := by rw [hV]; exact (Za.refl _).drew
   clear hV;replace HLC := zh (HLC.o.trans hVL);clear hVL;have HMC := zB HLC HM;obtain ⟨m0, m1, m2, m3, m4⟩ := cz5 HMC.o;have y12 := (HS.o.later HLC.o).made_;have hMB := Zb HMC.o;have hSB := (HS.o.later HLC.o).lt
   repeat go_big_quiet_step (fail)
   refine wpQuiet_nil ?_;clear y12 hMB hSB;go_upto_region 20 with (fail);clear m0 m1 m2 m3 m4 HMC
   cases t1 with
   | false =>
    have hX0 : X = false := by rw [← HX.o]; have := of_decide_eq_false Ht1.o; simp [Z9, this]
    replace HR := zh (show R = false by rw [HR.o, hX0]; simp);refine Zu (fun W hW => ?_);have hWL : Za V W := by rw [hW]; exact (Za.refl _).drew
    clear hW;replace HLC := zh (HLC.o.trans hWL);clear hWL;have HMC := zB HLC HM;obtain ⟨m0, m1, m2, m3, m4⟩ := cz5 HMC.o;have y12 := (HS.o.later HLC.o).made_;have hMB := Zb HMC.o;have hSB := (HS.o.later HLC.o).lt
    repeat go_big_quiet_step (fail)
    refine wpQuiet_nil ?_;go_upto_region 21 with (fail);clear HMC m0 m1 m2 m3 m4 y12 hMB hSB;refine Zu (fun U hU => ?_);have hUL : Za W U := by rw [hU]; exact (Za.refl _).drew
    clear hU;replace HLC := zh (HLC.o.trans hUL);clear hUL;have HMC := zB HLC HM;obtain ⟨m0, m1, m2, m3, m4⟩ := cz5 HMC.o;have y12 := (HS.o.later HLC.o).made_;have hMB := Zb HMC.o;have hSB := (HS.o.later HLC.o).lt
    repeat go_big_quiet_step (fail)
    refine wpQuiet_nil ?_;go_upto_region 32 with (fail)
    cases ky with
    | false =>
     have hR0 : R = false := by rw [HR.o]; try simp
     subst hR0;go_wp2_with fail;go_ret;exact ⟨rfl, HB.o.trans HLC.o⟩
    | true =>
     have hR0 : R = false := by rw [HR.o]; try simp
     subst hR0;go_wp2_with fail;go_ret;exact ⟨rfl, HB.o.trans HLC.o⟩
   | true =>
    obtain ⟨i, rfl⟩ : ∃ i : Nat, tag = i := ⟨tag.toNat, by have := of_decide_eq_true Ht1.o; omega⟩
    by_cases hlt : i < r.aB.length
    ·have u2 : decide ((i : Int) < (r.aB.length : Int)) = true := decide_eq_true (by omega);have hlt2 : (i : Int) < (r.aB.length : Int) := by omega
     obtain ⟨b3, hb3⟩ : ∃ q, (decide (aJ.length = r.aB[i].fields.length)) = q := ⟨_, rfl⟩;have W0b3 : ((aJ.length : Int) == (r.aB[i].fields.length : Int)) = b3 := by rw [← hb3]; exact (by rw [Bool.eq_iff_iff]; simp only [nJ, nK, nL, ne_eq, nM, nI, nH] <;> omega)
     obtain ⟨ai, hai⟩ : ∃ q, (Zaf r aJ) = q := ⟨_, rfl⟩;replace HR := zh (show R = (true && true && (ky && (b3 && ai))) by rw [HR.o, ← HX.o, ← hb3, ← hai]; simp [Z9, hlt]);have Hb3 := zh hb3;have Hai := zh hai;clear hb3 hai;refine Zu (fun W hW => ?_);have hWL : Za V W := by rw [hW]; exact (Za.refl _).drew
     clear hW;replace HLC := zh (HLC.o.trans hWL);clear hWL;have HMC := zB HLC HM;obtain ⟨m0, m1, m2, m3, m4⟩ := cz5 HMC.o;have y12 := (HS.o.later HLC.o).made_;have hMB := Zb HMC.o;have hSB := (HS.o.later HLC.o).lt;obtain ⟨Ar, cr, y1, hcr, hcmr, hrr⟩ := (HS.o.later HLC.o).aB;unfold maxLen at hcmr
     repeat go_big_quiet_step (fail)
     refine wpQuiet_nil ?_;go_upto_region 21 with (fail);clear HMC m0 m1 m2 m3 m4 y12 hMB hSB
     cases b3 with
     | false =>
      refine Zu (fun U hU => ?_);have hUL : Za W U := by rw [hU]; exact (Za.refl _).drew
      clear hU;replace HLC := zh (HLC.o.trans hUL);clear hUL;have HMC := zB HLC HM;obtain ⟨m0, m1, m2, m3, m4⟩ := cz5 HMC.o;have y12 := (HS.o.later HLC.o).made_;have hMB := Zb HMC.o;have hSB := (HS.o.later HLC.o).lt;obtain ⟨Ar, cr, y1, hcr, hcmr, hrr⟩ := (HS.o.later HLC.o).aB;unfold maxLen at hcmr;obtain ⟨rb, ro, Af, cf, e0, hrb, yr⟩ := Z1.rec_ hrr hlt;cases e0
      repeat go_big_quiet_step (fail)
      refine wpQuiet_nil ?_;go_upto_region 32 with (fail)
      cases ky with
      | false =>
       have hR0 : R = false := by rw [HR.o]; try simp
       subst hR0;go_wp2_with fail;go_ret;exact ⟨rfl, HB.o.trans HLC.o⟩
      | true =>
       have hR0 : R = false := by rw [HR.o]; try simp
       subst hR0;go_wp2_with fail;go_ret;exact ⟨rfl, HB.o.trans HLC.o⟩
     | true =>
      refine Zbb [21, 22, 23] [] (by kernel_rfl) (fun U hU => ?_);have hUL : Za W U := by rw [hU]; exact (Za.refl _).drew
      clear hU;replace HLC := zh (HLC.o.trans hUL);clear hUL;have HMC := zB HLC HM;obtain ⟨m0, m1, m2, m3, m4⟩ := cz5 HMC.o;have y12 := (HS.o.later HLC.o).made_;have hMB := Zb HMC.o;have hSB := (HS.o.later HLC.o).lt;obtain ⟨Ar, cr, y1, hcr, hcmr, hrr⟩ := (HS.o.later HLC.o).aB;unfold maxLen at hcmr;obtain ⟨rb, ro, Af, cf, e0, hrb, yr⟩ := Z1.rec_ hrr hlt;cases e0;refine tU 0 141 (v := ?_) rfl rfl (fun x hx => ?_) ?_;rotate_left
      ·go_simp;first|done|with_reducible rfl
      simp only [Act.put, nA, nB, nC];refine tU 1 142 (v := ?_) rfl rfl (fun x hx => ?_) ?_;rotate_left
      ·go_simp;first|done|with_reducible rfl
      simp only [Act.put, nA, nB, nC];refine tU 2 143 (v := ?_) rfl rfl (fun x hx => ?_) ?_;rotate_left
      ·go_simp;first|done|with_reducible rfl
      simp only [Act.put, nA, nB, nC];refine tU 3 144 (v := ?_) rfl rfl (fun x hx => ?_) ?_;rotate_left
      ·have x0 := (hx.cell ⟨w.heap.size, 0, none⟩ hMB).trans m0; have x1 := (hx.cell ⟨w.heap.size, 1, none⟩ hMB).trans m1; have x2 := (hx.cell ⟨w.heap.size, 2, none⟩ hMB).trans m2; have x3 := (hx.cell ⟨w.heap.size, 3, none⟩ hMB).trans m3; have x4 := (hx.cell ⟨w.heap.size, 4, none⟩ hMB).trans m4; have x12 := (hx.cell ⟨B, 12, none⟩ hSB).trans y12; have x1r := (hx.cell ⟨B, 1, none⟩ hSB).trans y1; have xr := (hx.cell ⟨rb, ro + i * 3 + 1, none⟩ hrb).trans yr; go_simp;first|done|with_reducible rfl
      simp only [Act.put, nA, nB, nC];refine tU 4 145 (v := ?_) rfl rfl (fun x hx => ?_) ?_;rotate_left
      ·go_simp;first|done|with_reducible rfl
      simp only [Act.put, nA, nB, nC];refine tU 5 146 (v := ?_) rfl rfl (fun x hx => ?_) ?_;rotate_left
      ·go_simp;first|done|with_reducible rfl
      simp only [Act.put, nA, nB, nC];refine tU 6 147 (v := ?_) rfl rfl (fun x hx => ?_) ?_;rotate_left
      ·go_simp;first|done|with_reducible rfl
      simp only [Act.put, nA, nB, nC];refine tU 7 148 (v := ?_) rfl rfl (fun x hx => ?_) ?_;rotate_left
      ·go_simp;first|done|with_reducible rfl
      simp only [Act.put, nA, nB, nC];refine tU 8 149 (v := ?_) rfl rfl (fun x hx => ?_) ?_;rotate_left
      ·have x0 := (hx.cell ⟨w.heap.size, 0, none⟩ hMB).trans m0; have x1 := (hx.cell ⟨w.heap.size, 1, none⟩ hMB).trans m1; have x2 := (hx.cell ⟨w.heap.size, 2, none⟩ hMB).trans m2; have x3 := (hx.cell ⟨w.heap.size, 3, none⟩ hMB).trans m3; have x4 := (hx.cell ⟨w.heap.size, 4, none⟩ hMB).trans m4; have x12 := (hx.cell ⟨B, 12, none⟩ hSB).trans y12; have x1r := (hx.cell ⟨B, 1, none⟩ hSB).trans y1; have xr := (hx.cell ⟨rb, ro + i * 3 + 1, none⟩ hrb).trans yr; go_simp;first|done|with_reducible rfl
      simp only [Act.put, nA, nB, nC];refine tU 9 150 (v := ?_) rfl rfl (fun x hx => ?_) ?_;rotate_left
      ·go_simp;first|done|with_reducible rfl
      simp only [Act.put, nA, nB, nC];refine tU 10 151 (v := ?_) rfl rfl (fun x hx => ?_) ?_;rotate_left
      ·have x0 := (hx.cell ⟨w.heap.size, 0, none⟩ hMB).trans m0; have x1 := (hx.cell ⟨w.heap.size, 1, none⟩ hMB).trans m1; have x2 := (hx.cell ⟨w.heap.size, 2, none⟩ hMB).trans m2; have x3 := (hx.cell ⟨w.heap.size, 3, none⟩ hMB).trans m3; have x4 := (hx.cell ⟨w.heap.size, 4, none⟩ hMB).trans m4; have x12 := (hx.cell ⟨B, 12, none⟩ hSB).trans y12; have x1r := (hx.cell ⟨B, 1, none⟩ hSB).trans y1; have xr := (hx.cell ⟨rb, ro + i * 3 + 1, none⟩ hrb).trans yr; go_simp;first|done|with_reducible rfl
      simp only [Act.put, nA, nB, nC];refine tU 11 152 (v := ?_) rfl rfl (fun x hx => ?_) ?_;rotate_left
      ·go_simp;first|done|with_reducible rfl|rw[if_neg (by omega)]|rw[if_pos (by omega)]
      simp only [Act.put, nA, nB, nC];refine tU 12 153 (v := ?_) rfl rfl (fun x hx => ?_) ?_;rotate_left
      ·go_simp;first|done|with_reducible rfl
      simp only [Act.put, nA, nB, nC];refine tU 13 154 (v := ?_) rfl rfl (fun x hx => ?_) ?_;rotate_left
      ·have x0 := (hx.cell ⟨w.heap.size, 0, none⟩ hMB).trans m0; have x1 := (hx.cell ⟨w.heap.size, 1, none⟩ hMB).trans m1; have x2 := (hx.cell ⟨w.heap.size, 2, none⟩ hMB).trans m2; have x3 := (hx.cell ⟨w.heap.size, 3, none⟩ hMB).trans m3; have x4 := (hx.cell ⟨w.heap.size, 4, none⟩ hMB).trans m4; have x12 := (hx.cell ⟨B, 12, none⟩ hSB).trans y12; have x1r := (hx.cell ⟨B, 1, none⟩ hSB).trans y1; have xr := (hx.cell ⟨rb, ro + i * 3 + 1, none⟩ hrb).trans yr; go_simp;first|done|with_reducible rfl
      simp only [Act.put, nA, nB, nC];refine tU 14 155 (v := ?_) rfl rfl (fun x hx => ?_) ?_;rotate_left
      ·go_simp;first|done|with_reducible rfl
      simp only [Act.put, nA, nB, nC];refine tU 15 156 (v := ?_) rfl rfl (fun x hx => ?_) ?_;rotate_left
      ·go_simp;first|done|with_reducible rfl
      simp only [Act.put, nA, nB, nC];refine tU 16 157 (v := ?_) rfl rfl (fun x hx => ?_) ?_;rotate_left
      ·go_simp;first|done|with_reducible rfl
      simp only [Act.put, nA, nB, nC];refine tU 17 158 (v := ?_) rfl rfl (fun x hx => ?_) ?_;rotate_left
      ·go_simp;first|done|with_reducible rfl
      simp only [Act.put, nA, nB, nC];refine tU 18 159 (v := ?_) rfl rfl (fun x hx => ?_) ?_;rotate_left
      ·go_simp;first|done|with_reducible rfl
      simp only [Act.put, nA, nB, nC];refine tU 19 160 (v := ?_) rfl rfl (fun x hx => ?_) ?_;rotate_left
      ·go_simp;first|done|with_reducible rfl
      simp only [Act.put, nA, nB, nC];refine tU 20 161 (v := ?_) rfl rfl (fun x hx => ?_) ?_;rotate_left
      ·have x0 := (hx.cell ⟨w.heap.size, 0, none⟩ hMB).trans m0; have x1 := (hx.cell ⟨w.heap.size, 1, none⟩ hMB).trans m1; have x2 := (hx.cell ⟨w.heap.size, 2, none⟩ hMB).trans m2; have x3 := (hx.cell ⟨w.heap.size, 3, none⟩ hMB).trans m3; have x4 := (hx.cell ⟨w.heap.size, 4, none⟩ hMB).trans m4; have x12 := (hx.cell ⟨B, 12, none⟩ hSB).trans y12; have x1r := (hx.cell ⟨B, 1, none⟩ hSB).trans y1; have xr := (hx.cell ⟨rb, ro + i * 3 + 1, none⟩ hrb).trans yr; go_simp;first|done|with_reducible rfl
      simp only [Act.put, nA, nB, nC];refine Zbl [_, _, _] (by kernel_rfl) rfl rfl ?_;simp only [List.getElem_toArray, List.getElem_cons_succ, List.getElem_cons_zero];go_wp2_with fail;refine (Zay r B cs F _ aJ _ (HS.o.later HLC.o) (HI.o.later Zc HLC.o)).mono ?_;rw [Hai.o];rintro e w5 ⟨rfl, hcl⟩;clear HMC m0 m1 m2 m3 m4;replace HLC := zh (HLC.o.trans hcl);clear hcl;go_upto_region 32 with (fail)
      cases ky with
      | false =>
       have hR0 : R = false := by rw [HR.o]; try simp
       subst hR0;go_wp2_with fail;go_ret;exact ⟨rfl, HB.o.trans HLC.o⟩
      | true =>
       cases ai with
       | false =>
        have hR0 : R = false := by rw [HR.o]; try simp
        subst hR0;go_wp2_with fail;go_ret;exact ⟨rfl, HB.o.trans HLC.o⟩
       | true =>
        have hR0 : R = true := by rw [HR.o]; simp
        subst hR0;go_wp2_with fail;go_ret;exact ⟨rfl, HB.o.trans HLC.o⟩
    ·have u2 : decide ((i : Int) < (r.aB.length : Int)) = false := decide_eq_false (by omega);have hX0 : X = false := by rw [← HX.o]; simp [Z9, List.getElem?_eq_none (show r.aB.length ≤ i by omega)]
     replace HR := zh (show R = false by rw [HR.o, hX0]; simp);refine Zu (fun W hW => ?_);have hWL : Za V W := by rw [hW]; exact (Za.refl _).drew
     clear hW;replace HLC := zh (HLC.o.trans hWL);clear hWL;have HMC := zB HLC HM;obtain ⟨m0, m1, m2, m3, m4⟩ := cz5 HMC.o;have y12 := (HS.o.later HLC.o).made_;have hMB := Zb HMC.o;have hSB := (HS.o.later HLC.o).lt;obtain ⟨Ar, cr, y1, hcr, hcmr, hrr⟩ := (HS.o.later HLC.o).aB;unfold maxLen at hcmr
     repeat go_big_quiet_step (fail)
     refine wpQuiet_nil ?_;go_upto_region 21 with (fail);clear HMC m0 m1 m2 m3 m4 y12 hMB hSB;refine Zu (fun U hU => ?_);have hUL : Za W U := by rw [hU]; exact (Za.refl _).drew
     clear hU;replace HLC := zh (HLC.o.trans hUL);clear hUL;have HMC := zB HLC HM;obtain ⟨m0, m1, m2, m3, m4⟩ := cz5 HMC.o;have y12 := (HS.o.later HLC.o).made_;have hMB := Zb HMC.o;have hSB := (HS.o.later HLC.o).lt
     repeat go_big_quiet_step (fail)
     refine wpQuiet_nil ?_;go_upto_region 32 with (fail)
     cases ky with
     | false =>
      have hR0 : R = false := by rw [HR.o]; try simp
      subst hR0;go_wp2_with fail;go_ret;exact ⟨rfl, HB.o.trans HLC.o⟩
     | true =>
      have hR0 : R = false := by rw [HR.o]; try simp
      subst hR0;go_wp2_with fail;go_ret;exact ⟨rfl, HB.o.trans HLC.o⟩
end Go.Proofs.YtpmhelkiicigfaaGreatDoor
namespace Go.Proofs.YtpmhelkiicigfaaGreatDoor
open Go.RowKit
end Go.Proofs.YtpmhelkiicigfaaGreatDoor
namespace Go.Proofs.YtpmhelkiicigfaaGreatDoor
open Go.RowKit
/-- The world y, with W's blocks below: it shows that it is later than W. -/
def Zc6 (W y : World) : World := { y with os := W.os, tape := W.tape, output := W.output, heap := W.heap ++ y.heap.extract W.heap.size y.heap.size }
theorem Zk (W y : World) : Za W (Zc6 W y) := by
 refine ⟨rfl, rfl, rfl, ?_, fun k hk => ?_⟩
 ·show W.heap.size ≤ (W.heap ++ _).size;simp
 ·show (W.heap ++ _)[k]? = W.heap[k]?;exact Array.getElem?_append_left hk
theorem Zbw {W x : World} (h : Za W x) : x = Zc6 W x := by
 have h1 : x.heap = W.heap ++ x.heap.extract W.heap.size x.heap.size := by
  have hs := h.size
  apply Array.ext
  ·simp; omega
  ·intro i h1 h2
   rcases Nat.lt_or_ge i W.heap.size with h3 | h3
   ·have h4 := h.block i h3;rw [Array.getElem?_eq_getElem h1, Array.getElem?_eq_getElem h3] at h4;rw [Array.getElem_append_left h3];exact Option.some.inj h4
   ·rw [Array.getElem_append_right h3];simp [Nat.add_sub_cancel' h3]
 cases x
 simp only [Zc6, World.mk.injEq];have h2 := h.os;have h3 := h.tape;have h4 := h.output;simp only at h1 h2 h3 h4;simp [h1.symm, h2, h3, h4]
theorem Zcn {G : World → Prop} {W : World} (h : ∀ V, Za W V → G V) : ∀ w', (∃ y, w' = Zc6 W y) → G w' := by
 rintro _ ⟨y, rfl⟩;exact h _ (Zk _ _)
theorem Zek {P : Program} {id : Nat} {Q : Exit → Act → World → Prop} {a : Act} {w : World} {l : List Oper} (W : World) (hm : P.follows .mixedOrders = true) (hB : Region.lexB .any l.toArray = true) (hW : Za W w)
  (h : wpQuiet P l.toArray (fun x => ∃ y, x = Zc6 W y) (fun a' => ∀ w', (∃ y, w' = Zc6 W y) → Q .normal a' w') l a) : (Code.region id l.toArray true).wp P Q a w :=
 wp_region_quiet (C := fun x => ∃ y, x = Zc6 W y) hm hB ⟨w.drew, Zbw hW.drew⟩ (by simpa using h)
theorem cg5 {w : World} (g : Nat) {t : TypeId} {fr : Nat × Nat} {a0 a1 a2 a3 a4 : Value} (h : w.heap[g]? = some (.cells #[a0, a1, a2, a3, a4] t fr)) : (∀ y, (Zc6 w y).cell? ⟨g, 0, none⟩ = some a0) ∧ (∀ y, (Zc6 w y).cell? ⟨g, 1, none⟩ = some a1) ∧ (∀ y, (Zc6 w y).cell? ⟨g, 2, none⟩ = some a2) ∧ (∀ y, (Zc6 w y).cell? ⟨g, 3, none⟩ = some a3) ∧ (∀ y, (Zc6 w y).cell? ⟨g, 4, none⟩ = some a4) := ⟨fun y => cell_of_row _ g 0 _ t fr (((Zk w y).block g (Zb h)).trans h), fun y => cell_of_row _ g 1 _ t fr (((Zk w y).block g (Zb h)).trans h), fun y => cell_of_row _ g 2 _ t fr (((Zk w y).block g (Zb h)).trans h), fun y => cell_of_row _ g 3 _ t fr (((Zk w y).block g (Zb h)).trans h), fun y => cell_of_row _ g 4 _ t fr (((Zk w y).block g (Zb h)).trans h)⟩
theorem vg {w : World} {b o : Nat} {v : Ze} (h : VAt w b o v) : (∀ y, (Zc6 w y).cell? ⟨b, o, none⟩ = some (.int .i64 v.kind)) ∧ (∀ y, (Zc6 w y).cell? ⟨b, o + 1, none⟩ = some (.int .i64 v.aH)) ∧ (∀ y, (Zc6 w y).cell? ⟨b, o + 2, none⟩ = some (.int .i64 v.index)) ∧ (∀ y, (Zc6 w y).cell? ⟨b, o + 3, none⟩ = some (.string v.text)) ∧ (∀ y, (Zc6 w y).cell? ⟨b, o + 4, none⟩ = some (.int .i64 v.set_.low)) ∧ (∀ y, (Zc6 w y).cell? ⟨b, o + 5, none⟩ = some (.int .i64 v.set_.high)) :=
 ⟨fun y => (h.later (Zk w y)).c0, fun y => (h.later (Zk w y)).c1, fun y => (h.later (Zk w y)).c2, fun y => (h.later (Zk w y)).c3, fun y => (h.later (Zk w y)).c4, fun y => (h.later (Zk w y)).c5⟩
theorem Zs4 (r : Zf) (B : Nat) (cs : List Value) (F : Nat → Prop) (w : World) (tag aI : Int) (aJ aK : List Ze) (vi vk : Value) (h : Z1 F w B r cs) (hi : Zp Zd 6 F w aJ vi) (hk : Zp Zd 6 F w aK vk) (hkz : aK.length ≤ 1048576) :
  Calls Tryz.prog 51 #[.pointer (some ⟨B, 0, none⟩), .agg #[.int .i64 9, .int .i64 tag, .int .i64 aI, vi, vk]] w fun e w' => e = .returned (.bool (Zaa r ⟨9, tag, aI, aJ, aK⟩)) ∧ Below w.heap.size w w' := by
 obtain ⟨R, hR⟩ : ∃ R, Zaa r ⟨9, tag, aI, aJ, aK⟩ = R := ⟨_, rfl⟩;rw [hR];have HR0 := zh hR;clear hR;obtain ⟨Ai, ci, rfl, hci, hcmi, _⟩ := id hi;obtain ⟨Ak, ck, rfl, hck, hcmk, _⟩ := id hk;unfold maxLen at hcmi hcmk;have hl1 := (Za.refl w).alloc (.cells #[.int .i64 9, .int .i64 tag, .int .i64 aI, .slice Ai aJ.length ci, .slice Ak aK.length ck] 94);have HS := zh (h.later hl1);have HI := zh (hi.later Zc hl1);have HK := zh (hk.later Zc hl1);have HM := zh (heap_alloc_new w (.cells #[.int .i64 9, .int .i64 tag, .int .i64 aI, .slice Ai aJ.length ci, .slice Ak aK.length ck] 94));have HB := zh hl1;obtain ⟨w1, hw1⟩ : ∃ x, x = w.alloc (.cells #[.int .i64 9, .int .i64 tag, .int .i64 aI, .slice Ai aJ.length ci, .slice Ak aK.length ck] 94) := ⟨_, rfl⟩;rw [← hw1] at HS HI HK HM HB;have HLC := zh (Za.refl w1);clear h hi hk hl1;obtain ⟨s0, hs0⟩ : ∃ q, (aI == 0) = q := ⟨_, rfl⟩;have W0s0 : (aI != 0) = !s0 := by rw [← hs0]; exact (by rw [Bool.eq_iff_iff]; simp only [nJ, nK, nL, ne_eq, nM, nI, nH] <;> omega)
 obtain ⟨tg, htg⟩ : ∃ q, (tag == 0) = q := ⟨_, rfl⟩;have W0tg : (tag != 0) = !tg := by rw [← htg]; exact (by rw [Bool.eq_iff_iff]; simp only [nJ, nK, nL, ne_eq, nM, nI, nH] <;> omega)
 have W1tg : (tag == 0) = tg := htg;obtain ⟨ky, hky⟩ : ∃ q, (decide (aK.length = 0)) = q := ⟨_, rfl⟩;have W0ky : ((aK.length : Int) != 0) = !ky := by rw [← hky]; exact (by rw [Bool.eq_iff_iff]; simp only [nJ, nK, nL, ne_eq, nM, nI, nH] <;> omega)
 have W1ky : ((aK.length : Int) == 0) = ky := by rw [← hky]; exact (by rw [Bool.eq_iff_iff]; simp only [nJ, nK, nL, ne_eq, nM, nI, nH] <;> omega)
 obtain ⟨b1, hb1⟩ : ∃ q, (decide (aJ.length = 2)) = q := ⟨_, rfl⟩;have W0b1 : ((aJ.length : Int) == 2) = b1 := by rw [← hb1]; exact (by rw [Bool.eq_iff_iff]; simp only [nJ, nK, nL, ne_eq, nM, nI, nH] <;> omega)
 obtain ⟨X, hX⟩ : ∃ X, Z9 r ⟨9, tag, aI, aJ, aK⟩ = X := ⟨_, rfl⟩;have HR := zh (show R = (s0 && (tg && (ky && (X)))) by rw [← HR0.o, ← hs0, ← htg, ← hky, ← hX]; try rfl);have Hs0 := zh hs0;clear hs0;have Htg := zh htg;clear htg;have Hky := zh hky;clear hky;have Hb1 := zh hb1;clear hb1;have HX := zh hX;clear hX;go_enter Tryz.func51, Tryz.ntmps51;go_upto_region 2 with (fail);rw [← hw1];clear hw1
 cases s0 with
 | false =>
  simp only [Bool.not_false] at W0s0;refine Zu (fun W hW => ?_);have hWL : Za w1 W := by rw [hW]; exact (Za.refl _).drew
  clear hW;replace HLC := zh (HLC.o.trans hWL);clear hWL;have HMC := zB HLC HM;obtain ⟨m0, m1, m2, m3, m4⟩ := cz5 HMC.o;have y12 := (HS.o.later HLC.o).made_;have hMB := Zb HMC.o;have hSB := (HS.o.later HLC.o).lt
  repeat go_big_quiet_step (fail)
  refine wpQuiet_nil ?_;have hR0 : R = false := by rw [HR.o]; try simp
  subst hR0;go_wp2_with fail;go_ret;exact ⟨rfl, HB.o.trans HLC.o⟩
 | true =>
  simp only [Bool.not_true] at W0s0;refine Zu (fun V hV => ?_);have hVL : Za w1 V := by rw [hV]; exact (Za.refl _).drew
  clear hV;replace HLC := zh (HLC.o.trans hVL);clear hVL;have HMC := zB HLC HM;obtain ⟨m0, m1, m2, m3, m4⟩ := cz5 HMC.o;have y12 := (HS.o.later HLC.o).made_;have hMB := Zb HMC.o;have hSB := (HS.o.later HLC.o).lt
  repeat go_big_quiet_step (fail)
  refine wpQuiet_nil ?_;clear y12 hMB hSB;go_upto_region 31 with (fail);clear m0 m1 m2 m3 m4 HMC;obtain ⟨m0, m1, m2, m3, m4⟩ := cz5 HM.o;have y12 := HS.o.made_;have hMB := Zb HM.o;have hSB := HS.o.lt
  cases b1 with
  | false =>
   have hX0 : X = false := by
    rw [← HX.o]
    match aJ, of_decide_eq_false Hb1.o with
    | [], _ => first | rfl | simp [Z9]
    | [_], _ => first | rfl | simp [Z9]
    | _ :: _ :: _ :: _, _ => first | rfl | simp [Z9]
    | [_, _], h => exact absurd rfl h
   replace HR := zh (show R = false by rw [HR.o, hX0]; simp);refine Zu (fun W hW => ?_);replace HLC := zh (HLC.o.trans (show Za V W by rw [hW]; exact (Za.refl _).drew));clear hW;have hx := HLC.o;have x0 := (hx.cell ⟨w.heap.size, 0, none⟩ hMB).trans m0; have x1 := (hx.cell ⟨w.heap.size, 1, none⟩ hMB).trans m1; have x2 := (hx.cell ⟨w.heap.size, 2, none⟩ hMB).trans m2; have x3 := (hx.cell ⟨w.heap.size, 3, none⟩ hMB).trans m3; have x4 := (hx.cell ⟨w.heap.size, 4, none⟩ hMB).trans m4; have x12 := (hx.cell ⟨B, 12, none⟩ hSB).trans y12
   repeat go_big_quiet_step (fail)
   refine wpQuiet_nil ?_;clear hx x0 x1 x2 x3 x4 x12;go_upto_region 32 with (fail)
   cases tg with
   | false =>
    have hR0 : R = false := by rw [HR.o]; try simp
    subst hR0;go_wp2_with fail;go_ret;exact ⟨rfl, HB.o.trans HLC.o⟩
   | true =>
    cases ky with
    | false =>
     have hR0 : R = false := by rw [HR.o]; try simp
     subst hR0;go_wp2_with fail;go_ret;exact ⟨rfl, HB.o.trans HLC.o⟩
    | true =>
     have hR0 : R = false := by rw [HR.o]; try simp
     subst hR0;go_wp2_with fail;go_ret;exact ⟨rfl, HB.o.trans HLC.o⟩
  | true =>
   have hlen : aJ.length = 2 := of_decide_eq_true Hb1.o;clear W0b1 Hb1;obtain ⟨a, b, rfl⟩ : ∃ a b, aJ = [a, b] := by
    match aJ, hlen with
    | [a0, b0], _ => exact ⟨a0, b0, rfl⟩
   clear hlen;obtain ⟨k0, hk0⟩ : ∃ q, (a.kind == 2) = q := ⟨_, rfl⟩;have W0k0 : (a.kind == 2) = k0 := hk0;obtain ⟨k1, hk1⟩ : ∃ q, (b.kind == 1) = q := ⟨_, rfl⟩;have W0k1 : (b.kind == 1) = k1 := hk1;obtain ⟨ai, hai⟩ : ∃ q, (Zaf r [a, b]) = q := ⟨_, rfl⟩;obtain ⟨n1, hn1⟩ : ∃ q, (decide (1 ≤ b.aH)) = q := ⟨_, rfl⟩;have W0n1 : (decide (1 ≤ b.aH)) = n1 := hn1;obtain ⟨n2, hn2⟩ : ∃ q, (decide (b.aH ≤ (a.text.size : Int) + 1)) = q := ⟨_, rfl⟩;have W0n2 : (decide (b.aH ≤ (a.text.size : Int) + 1)) = n2 := hn2;replace HR := zh (show R = (true && (tg && (ky && (k0 && (k1 && (ai && (n1 && n2))))))) by rw [HR.o, ← HX.o, ← hk0, ← hk1, ← hai, ← hn1, ← hn2]; simp [Z9, Zaf, Bool.and_assoc]);have Hk0 := zh hk0;clear hk0;have Hk1 := zh hk1;clear hk1;have Hai := zh hai;clear hai;have Hn1 := zh hn1;clear hn1;have Hn2 := zh hn2;clear hn2;obtain ⟨b0, o0, e0, hb0, hat0, hel0⟩ := HI.o.vat (j := 0) (by simp);cases e0;simp only [List.getElem_cons_succ, List.getElem_cons_zero, Nat.reduceMul, Nat.add_zero] at hat0 hel0;have HAT0 := zh hat0;have HEL0 := zh hel0;clear hat0 hel0;obtain ⟨b1, o1, e1, hb1, hat1, hel1⟩ := HI.o.vat (j := 1) (by simp);cases e1;simp only [List.getElem_cons_succ, List.getElem_cons_zero, Nat.reduceMul, Nat.add_zero] at hat1 hel1;have HAT1 := zh hat1;have HEL1 := zh hel1;clear hat1 hel1
   cases k0 with
   | false =>
    refine Zu (fun W hW => ?_);replace HLC := zh (HLC.o.trans (show Za V W by rw [hW]; exact (Za.refl _).drew));clear hW;have hx := HLC.o;have x0 := (hx.cell ⟨w.heap.size, 0, none⟩ hMB).trans m0; have x1 := (hx.cell ⟨w.heap.size, 1, none⟩ hMB).trans m1; have x2 := (hx.cell ⟨w.heap.size, 2, none⟩ hMB).trans m2; have x3 := (hx.cell ⟨w.heap.size, 3, none⟩ hMB).trans m3; have x4 := (hx.cell ⟨w.heap.size, 4, none⟩ hMB).trans m4; have x12 := (hx.cell ⟨B, 12, none⟩ hSB).trans y12; obtain ⟨i00, i01, i02, i03, i04, i05⟩ := HAT0.o.later hx; obtain ⟨i10, i11, i12, i13, i14, i15⟩ := HAT1.o.later hx
    repeat go_big_quiet_step (fail)
    refine wpQuiet_nil ?_;clear hx x0 x1 x2 x3 x4 x12 i00 i01 i02 i03 i04 i05 i10 i11 i12 i13 i14 i15;go_upto_region 32 with (fail)
    cases tg with
    | false =>
     have hR0 : R = false := by rw [HR.o]; try simp
     subst hR0;go_wp2_with fail;go_ret;exact ⟨rfl, HB.o.trans HLC.o⟩
    | true =>
     cases ky with
     | false =>
      have hR0 : R = false := by rw [HR.o]; try simp
      subst hR0;go_wp2_with fail;go_ret;exact ⟨rfl, HB.o.trans HLC.o⟩
     | true =>
      have hR0 : R = false := by rw [HR.o]; try simp
      subst hR0;go_wp2_with fail;go_ret;exact ⟨rfl, HB.o.trans HLC.o⟩
   | true =>
    cases k1 with
    | false =>
     refine Zu (fun W hW => ?_);replace HLC := zh (HLC.o.trans (show Za V W by rw [hW]; exact (Za.refl _).drew));clear hW;have hx := HLC.o;have x0 := (hx.cell ⟨w.heap.size, 0, none⟩ hMB).trans m0; have x1 := (hx.cell ⟨w.heap.size, 1, none⟩ hMB).trans m1; have x2 := (hx.cell ⟨w.heap.size, 2, none⟩ hMB).trans m2; have x3 := (hx.cell ⟨w.heap.size, 3, none⟩ hMB).trans m3; have x4 := (hx.cell ⟨w.heap.size, 4, none⟩ hMB).trans m4; have x12 := (hx.cell ⟨B, 12, none⟩ hSB).trans y12; obtain ⟨i00, i01, i02, i03, i04, i05⟩ := HAT0.o.later hx; obtain ⟨i10, i11, i12, i13, i14, i15⟩ := HAT1.o.later hx
     repeat go_big_quiet_step (fail)
     refine wpQuiet_nil ?_;clear hx x0 x1 x2 x3 x4 x12 i00 i01 i02 i03 i04 i05 i10 i11 i12 i13 i14 i15;go_upto_region 32 with (fail)
     cases tg with
     | false =>
      have hR0 : R = false := by rw [HR.o]; try simp
      subst hR0;go_wp2_with fail;go_ret;exact ⟨rfl, HB.o.trans HLC.o⟩
     | true =>
      cases ky with
      | false =>
       have hR0 : R = false := by rw [HR.o]; try simp
       subst hR0;go_wp2_with fail;go_ret;exact ⟨rfl, HB.o.trans HLC.o⟩
      | true =>
       have hR0 : R = false := by rw [HR.o]; try simp
       subst hR0;go_wp2_with fail;go_ret;exact ⟨rfl, HB.o.trans HLC.o⟩
    | true =>
     cases ai with
     | false =>
      refine Zek w1 (by kernel_rfl) (by kernel_rfl) HLC.o ?_;obtain ⟨x0, x1, x2, x3, x4⟩ := cg5 w.heap.size HM.o;have x12 := fun y => ((Zk w1 y).cell ⟨B, 12, none⟩ hSB).trans y12;obtain ⟨i00, i01, i02, i03, i04, i05⟩ := vg HAT0.o;obtain ⟨i10, i11, i12, i13, i14, i15⟩ := vg HAT1.o
      repeat go_big_quiet_step (fail)
      go_big_quiet_step ((refine (Zay r B cs F _ [a, b] _ (HS.o.later (Zk w1 _)) (HI.o.later Zc (Zk w1 _))).mono ?_; rw [Hai.o]; rintro e w9 ⟨rfl, hcl⟩; exact ⟨rfl, _, Zbw ((Zk w1 _).trans hcl)⟩))
      repeat go_big_quiet_step (fail)
      refine wpQuiet_nil (Zcn fun W hWL => ?_);replace HLC := zh hWL;clear hWL x0 x1 x2 x3 x4 x12 i00 i01 i02 i03 i04 i05 i10 i11 i12 i13 i14 i15;go_upto_region 32 with (fail)
      cases tg with
      | false =>
       have hR0 : R = false := by rw [HR.o]; try simp
       subst hR0;go_wp2_with fail;go_ret;exact ⟨rfl, HB.o.trans HLC.o⟩
      | true =>
       cases ky with
       | false =>
        have hR0 : R = false := by rw [HR.o]; try simp
        subst hR0;go_wp2_with fail;go_ret;exact ⟨rfl, HB.o.trans HLC.o⟩
       | true =>
        have hR0 : R = false := by rw [HR.o]; try simp
        subst hR0;go_wp2_with fail;go_ret;exact ⟨rfl, HB.o.trans HLC.o⟩
     | true =>
      have htx : a.text.size ≤ 120 := Zoy (r := r) (by have := Hai.o; simp [Zaf] at this; exact this.1) (by simpa using Hk0.o);have hwr : IntKind.i64.wrap ((a.text.size : Int) + 1) = (a.text.size : Int) + 1 := by rw [IntKind.wrap_i64]; omega
      cases n1 with
      | false =>
       refine Zek w1 (by kernel_rfl) (by kernel_rfl) HLC.o ?_;obtain ⟨x0, x1, x2, x3, x4⟩ := cg5 w.heap.size HM.o;have x12 := fun y => ((Zk w1 y).cell ⟨B, 12, none⟩ hSB).trans y12;obtain ⟨i00, i01, i02, i03, i04, i05⟩ := vg HAT0.o;obtain ⟨i10, i11, i12, i13, i14, i15⟩ := vg HAT1.o
       repeat go_big_quiet_step (fail)
       go_big_quiet_step ((refine (Zay r B cs F _ [a, b] _ (HS.o.later (Zk w1 _)) (HI.o.later Zc (Zk w1 _))).mono ?_; rw [Hai.o]; rintro e w9 ⟨rfl, hcl⟩; exact ⟨rfl, _, Zbw ((Zk w1 _).trans hcl)⟩))
       repeat go_big_quiet_step (fail)
       refine wpQuiet_nil (Zcn fun W hWL => ?_);replace HLC := zh hWL;clear hWL x0 x1 x2 x3 x4 x12 i00 i01 i02 i03 i04 i05 i10 i11 i12 i13 i14 i15;go_upto_region 32 with (fail)
       cases tg with
       | false =>
        have hR0 : R = false := by rw [HR.o]; try simp
        subst hR0;go_wp2_with fail;go_ret;exact ⟨rfl, HB.o.trans HLC.o⟩
       | true =>
        cases ky with
        | false =>
         have hR0 : R = false := by rw [HR.o]; try simp
         subst hR0;go_wp2_with fail;go_ret;exact ⟨rfl, HB.o.trans HLC.o⟩
        | true =>
         have hR0 : R = false := by rw [HR.o]; try simp
         subst hR0;go_wp2_with fail;go_ret;exact ⟨rfl, HB.o.trans HLC.o⟩
      | true =>
       cases n2 with
       | false =>
        refine Zek w1 (by kernel_rfl) (by kernel_rfl) HLC.o ?_;obtain ⟨x0, x1, x2, x3, x4⟩ := cg5 w.heap.size HM.o;have x12 := fun y => ((Zk w1 y).cell ⟨B, 12, none⟩ hSB).trans y12;obtain ⟨i00, i01, i02, i03, i04, i05⟩ := vg HAT0.o;obtain ⟨i10, i11, i12, i13, i14, i15⟩ := vg HAT1.o
        repeat go_big_quiet_step (fail)
        go_big_quiet_step ((refine (Zay r B cs F _ [a, b] _ (HS.o.later (Zk w1 _)) (HI.o.later Zc (Zk w1 _))).mono ?_; rw [Hai.o]; rintro e w9 ⟨rfl, hcl⟩; exact ⟨rfl, _, Zbw ((Zk w1 _).trans hcl)⟩))
        repeat go_big_quiet_step (fail)
        refine wpQuiet_nil (Zcn fun W hWL => ?_);replace HLC := zh hWL;clear hWL x0 x1 x2 x3 x4 x12 i00 i01 i02 i03 i04 i05 i10 i11 i12 i13 i14 i15;go_upto_region 32 with (fail)
        cases tg with
        | false =>
         have hR0 : R = false := by rw [HR.o]; try simp
         subst hR0;go_wp2_with fail;go_ret;exact ⟨rfl, HB.o.trans HLC.o⟩
        | true =>
         cases ky with
         | false =>
          have hR0 : R = false := by rw [HR.o]; try simp
          subst hR0;go_wp2_with fail;go_ret;exact ⟨rfl, HB.o.trans HLC.o⟩
         | true =>
          have hR0 : R = false := by rw [HR.o]; try simp
          subst hR0;go_wp2_with fail;go_ret;exact ⟨rfl, HB.o.trans HLC.o⟩
       | true =>
        refine Zek w1 (by kernel_rfl) (by kernel_rfl) HLC.o ?_;obtain ⟨x0, x1, x2, x3, x4⟩ := cg5 w.heap.size HM.o;have x12 := fun y => ((Zk w1 y).cell ⟨B, 12, none⟩ hSB).trans y12;obtain ⟨i00, i01, i02, i03, i04, i05⟩ := vg HAT0.o;obtain ⟨i10, i11, i12, i13, i14, i15⟩ := vg HAT1.o
        repeat go_big_quiet_step (fail)
        go_big_quiet_step ((refine (Zay r B cs F _ [a, b] _ (HS.o.later (Zk w1 _)) (HI.o.later Zc (Zk w1 _))).mono ?_; rw [Hai.o]; rintro e w9 ⟨rfl, hcl⟩; exact ⟨rfl, _, Zbw ((Zk w1 _).trans hcl)⟩))
        repeat go_big_quiet_step (fail)
        refine wpQuiet_nil (Zcn fun W hWL => ?_);replace HLC := zh hWL;clear hWL x0 x1 x2 x3 x4 x12 i00 i01 i02 i03 i04 i05 i10 i11 i12 i13 i14 i15;go_upto_region 32 with (fail)
        cases tg with
        | false =>
         have hR0 : R = false := by rw [HR.o]; try simp
         subst hR0;go_wp2_with fail;go_ret;exact ⟨rfl, HB.o.trans HLC.o⟩
        | true =>
         cases ky with
         | false =>
          have hR0 : R = false := by rw [HR.o]; try simp
          subst hR0;go_wp2_with fail;go_ret;exact ⟨rfl, HB.o.trans HLC.o⟩
         | true =>
          have hR0 : R = true := by rw [HR.o]; simp
          subst hR0;go_wp2_with fail;go_ret;exact ⟨rfl, HB.o.trans HLC.o⟩
theorem Zr6 (r : Zf) (B : Nat) (cs : List Value) (F : Nat → Prop) (w : World) (kd tag aI : Int) (aJ aK : List Ze) (vi vk : Value) (h : Z1 F w B r cs) (hi : Zp Zd 6 F w aJ vi) (hk : Zp Zd 6 F w aK vk) (hkd : kd < 1) (hkz : aK.length ≤ 1048576) :
  Calls Tryz.prog 51 #[.pointer (some ⟨B, 0, none⟩), .agg #[.int .i64 kd, .int .i64 tag, .int .i64 aI, vi, vk]] w fun e w' => e = .returned (.bool (Zaa r ⟨kd, tag, aI, aJ, aK⟩)) ∧ Below w.heap.size w w' := by
 obtain ⟨R, hR⟩ : ∃ R, Zaa r ⟨kd, tag, aI, aJ, aK⟩ = R := ⟨_, rfl⟩;rw [hR];have HR0 := zh hR;clear hR;obtain ⟨Ai, ci, rfl, hci, hcmi, _⟩ := id hi;obtain ⟨Ak, ck, rfl, hck, hcmk, _⟩ := id hk;unfold maxLen at hcmi hcmk;have hl1 := (Za.refl w).alloc (.cells #[.int .i64 kd, .int .i64 tag, .int .i64 aI, .slice Ai aJ.length ci, .slice Ak aK.length ck] 94);have HS := zh (h.later hl1);have HI := zh (hi.later Zc hl1);have HK := zh (hk.later Zc hl1);have HM := zh (heap_alloc_new w (.cells #[.int .i64 kd, .int .i64 tag, .int .i64 aI, .slice Ai aJ.length ci, .slice Ak aK.length ck] 94));have HB := zh hl1;obtain ⟨w1, hw1⟩ : ∃ x, x = w.alloc (.cells #[.int .i64 kd, .int .i64 tag, .int .i64 aI, .slice Ai aJ.length ci, .slice Ak aK.length ck] 94) := ⟨_, rfl⟩;rw [← hw1] at HS HI HK HM HB;have HLC := zh (Za.refl w1);clear h hi hk hl1;have hR0 : R = false := by rw [← HR0.o]; unfold Zaa Z9; simp only []; rw [if_neg (by omega : ¬ kd = 1), if_neg (by omega : ¬ kd = 2), if_neg (by omega : ¬ kd = 3), if_neg (by omega : ¬ kd = 4), if_neg (by omega : ¬ kd = 5), if_neg (by omega : ¬ kd = 6), if_neg (by omega : ¬ kd = 7), if_neg (by omega : ¬ kd = 8), if_neg (by omega : ¬ kd = 9)]; simp
 subst hR0;clear HR0;have g1 : (kd == 1) = false := nH.2 (by omega);have n1 : (kd != 1) = true := bne_iff_ne.2 (by omega);have g2 : (kd == 2) = false := nH.2 (by omega);have n2 : (kd != 2) = true := bne_iff_ne.2 (by omega);have g3 : (kd == 3) = false := nH.2 (by omega);have n3 : (kd != 3) = true := bne_iff_ne.2 (by omega);have g4 : (kd == 4) = false := nH.2 (by omega);have n4 : (kd != 4) = true := bne_iff_ne.2 (by omega);have g5 : (kd == 5) = false := nH.2 (by omega);have n5 : (kd != 5) = true := bne_iff_ne.2 (by omega);have g6 : (kd == 6) = false := nH.2 (by omega);have n6 : (kd != 6) = true := bne_iff_ne.2 (by omega);have g7 : (kd == 7) = false := nH.2 (by omega);have n7 : (kd != 7) = true := bne_iff_ne.2 (by omega);have g8 : (kd == 8) = false := nH.2 (by omega);have n8 : (kd != 8) = true := bne_iff_ne.2 (by omega);have g9 : (kd == 9) = false := nH.2 (by omega);have n9 : (kd != 9) = true := bne_iff_ne.2 (by omega);have d2 : decide (2 ≤ kd) = false := decide_eq_false (by omega);obtain ⟨s0, hs0⟩ : ∃ q, (aI == 0) = q := ⟨_, rfl⟩;have W0s0 : (aI != 0) = !s0 := by rw [← hs0]; exact (by rw [Bool.eq_iff_iff]; simp only [nJ, nK, nL, ne_eq, nM, nI, nH] <;> omega)
 obtain ⟨tg, htg⟩ : ∃ q, (tag == 0) = q := ⟨_, rfl⟩;have W0tg : (tag != 0) = !tg := by rw [← htg]; exact (by rw [Bool.eq_iff_iff]; simp only [nJ, nK, nL, ne_eq, nM, nI, nH] <;> omega)
 have W1tg : (tag == 0) = tg := htg;obtain ⟨ky, hky⟩ : ∃ q, (decide (aK.length = 0)) = q := ⟨_, rfl⟩;have W0ky : ((aK.length : Int) != 0) = !ky := by rw [← hky]; exact (by rw [Bool.eq_iff_iff]; simp only [nJ, nK, nL, ne_eq, nM, nI, nH] <;> omega)
 have W1ky : ((aK.length : Int) == 0) = ky := by rw [← hky]; exact (by rw [Bool.eq_iff_iff]; simp only [nJ, nK, nL, ne_eq, nM, nI, nH] <;> omega)
 have Hs0 := zh hs0;clear hs0;have Htg := zh htg;clear htg;have Hky := zh hky;clear hky;clear hkd;go_enter Tryz.func51, Tryz.ntmps51;go_upto_region 2 with (fail);rw [← hw1];clear hw1
 cases s0 with
 | false =>
  simp only [Bool.not_false] at W0s0;refine Zu (fun W hW => ?_);have hWL : Za w1 W := by rw [hW]; exact (Za.refl _).drew
  clear hW;replace HLC := zh (HLC.o.trans hWL);clear hWL;have HMC := zB HLC HM;have m0 := cz5 HMC.o;have y12 := (HS.o.later HLC.o).made_;have hMB := Zb HMC.o;have hSB := (HS.o.later HLC.o).lt
  repeat go_big_quiet_step (fail)
  refine wpQuiet_nil ?_;go_wp2_with fail;go_ret;exact ⟨rfl, HB.o.trans HLC.o⟩
 | true =>
  simp only [Bool.not_true] at W0s0;refine Zu (fun W hW => ?_);have hWL : Za w1 W := by rw [hW]; exact (Za.refl _).drew
  clear hW;replace HLC := zh (HLC.o.trans hWL);clear hWL;have HMC := zB HLC HM;have m0 := cz5 HMC.o;have y12 := (HS.o.later HLC.o).made_;have hMB := Zb HMC.o;have hSB := (HS.o.later HLC.o).lt
  repeat go_big_quiet_step (fail)
  refine wpQuiet_nil ?_;clear y12 hMB hSB;go_wp2_with fail;go_ret;exact ⟨rfl, HB.o.trans HLC.o⟩
theorem Zr7 (r : Zf) (B : Nat) (cs : List Value) (F : Nat → Prop) (w : World) (kd tag aI : Int) (aJ aK : List Ze) (vi vk : Value) (h : Z1 F w B r cs) (hi : Zp Zd 6 F w aJ vi) (hk : Zp Zd 6 F w aK vk) (hkd : 9 < kd) (hkz : aK.length ≤ 1048576) :
  Calls Tryz.prog 51 #[.pointer (some ⟨B, 0, none⟩), .agg #[.int .i64 kd, .int .i64 tag, .int .i64 aI, vi, vk]] w fun e w' => e = .returned (.bool (Zaa r ⟨kd, tag, aI, aJ, aK⟩)) ∧ Below w.heap.size w w' := by
 obtain ⟨R, hR⟩ : ∃ R, Zaa r ⟨kd, tag, aI, aJ, aK⟩ = R := ⟨_, rfl⟩;rw [hR];have HR0 := zh hR;clear hR;obtain ⟨Ai, ci, rfl, hci, hcmi, _⟩ := id hi;obtain ⟨Ak, ck, rfl, hck, hcmk, _⟩ := id hk;unfold maxLen at hcmi hcmk;have hl1 := (Za.refl w).alloc (.cells #[.int .i64 kd, .int .i64 tag, .int .i64 aI, .slice Ai aJ.length ci, .slice Ak aK.length ck] 94);have HS := zh (h.later hl1);have HI := zh (hi.later Zc hl1);have HK := zh (hk.later Zc hl1);have HM := zh (heap_alloc_new w (.cells #[.int .i64 kd, .int .i64 tag, .int .i64 aI, .slice Ai aJ.length ci, .slice Ak aK.length ck] 94));have HB := zh hl1;obtain ⟨w1, hw1⟩ : ∃ x, x = w.alloc (.cells #[.int .i64 kd, .int .i64 tag, .int .i64 aI, .slice Ai aJ.length ci, .slice Ak aK.length ck] 94) := ⟨_, rfl⟩;rw [← hw1] at HS HI HK HM HB;have HLC := zh (Za.refl w1);clear h hi hk hl1;have hR0 : R = false := by rw [← HR0.o]; unfold Zaa Z9; simp only []; rw [if_neg (by omega : ¬ kd = 1), if_neg (by omega : ¬ kd = 2), if_neg (by omega : ¬ kd = 3), if_neg (by omega : ¬ kd = 4), if_neg (by omega : ¬ kd = 5), if_neg (by omega : ¬ kd = 6), if_neg (by omega : ¬ kd = 7), if_neg (by omega : ¬ kd = 8), if_neg (by omega : ¬ kd = 9)]; simp
 subst hR0;clear HR0;have g1 : (kd == 1) = false := nH.2 (by omega);have n1 : (kd != 1) = true := bne_iff_ne.2 (by omega);have g2 : (kd == 2) = false := nH.2 (by omega);have n2 : (kd != 2) = true := bne_iff_ne.2 (by omega);have g3 : (kd == 3) = false := nH.2 (by omega);have n3 : (kd != 3) = true := bne_iff_ne.2 (by omega);have g4 : (kd == 4) = false := nH.2 (by omega);have n4 : (kd != 4) = true := bne_iff_ne.2 (by omega);have g5 : (kd == 5) = false := nH.2 (by omega);have n5 : (kd != 5) = true := bne_iff_ne.2 (by omega);have g6 : (kd == 6) = false := nH.2 (by omega);have n6 : (kd != 6) = true := bne_iff_ne.2 (by omega);have g7 : (kd == 7) = false := nH.2 (by omega);have n7 : (kd != 7) = true := bne_iff_ne.2 (by omega);have g8 : (kd == 8) = false := nH.2 (by omega);have n8 : (kd != 8) = true := bne_iff_ne.2 (by omega);have g9 : (kd == 9) = false := nH.2 (by omega);have n9 : (kd != 9) = true := bne_iff_ne.2 (by omega);have d2 : decide (2 ≤ kd) = true := decide_eq_true (by omega);have d7 : decide (kd ≤ 7) = false := decide_eq_false (by omega);obtain ⟨s0, hs0⟩ : ∃ q, (aI == 0) = q := ⟨_, rfl⟩;have W0s0 : (aI != 0) = !s0 := by rw [← hs0]; exact (by rw [Bool.eq_iff_iff]; simp only [nJ, nK, nL, ne_eq, nM, nI, nH] <;> omega)
 obtain ⟨tg, htg⟩ : ∃ q, (tag == 0) = q := ⟨_, rfl⟩;have W0tg : (tag != 0) = !tg := by rw [← htg]; exact (by rw [Bool.eq_iff_iff]; simp only [nJ, nK, nL, ne_eq, nM, nI, nH] <;> omega)
 have W1tg : (tag == 0) = tg := htg;obtain ⟨ky, hky⟩ : ∃ q, (decide (aK.length = 0)) = q := ⟨_, rfl⟩;have W0ky : ((aK.length : Int) != 0) = !ky := by rw [← hky]; exact (by rw [Bool.eq_iff_iff]; simp only [nJ, nK, nL, ne_eq, nM, nI, nH] <;> omega)
 have W1ky : ((aK.length : Int) == 0) = ky := by rw [← hky]; exact (by rw [Bool.eq_iff_iff]; simp only [nJ, nK, nL, ne_eq, nM, nI, nH] <;> omega)
 have Hs0 := zh hs0;clear hs0;have Htg := zh htg;clear htg;have Hky := zh hky;clear hky;clear hkd;go_enter Tryz.func51, Tryz.ntmps51;go_upto_region 2 with (fail);rw [← hw1];clear hw1
 cases s0 with
 | false =>
  simp only [Bool.not_false] at W0s0;refine Zu (fun W hW => ?_);have hWL : Za w1 W := by rw [hW]; exact (Za.refl _).drew
  clear hW;replace HLC := zh (HLC.o.trans hWL);clear hWL;have HMC := zB HLC HM;have m0 := cz5 HMC.o;have y12 := (HS.o.later HLC.o).made_;have hMB := Zb HMC.o;have hSB := (HS.o.later HLC.o).lt
  repeat go_big_quiet_step (fail)
  refine wpQuiet_nil ?_;go_wp2_with fail;go_ret;exact ⟨rfl, HB.o.trans HLC.o⟩
 | true =>
  simp only [Bool.not_true] at W0s0;refine Zu (fun W hW => ?_);have hWL : Za w1 W := by rw [hW]; exact (Za.refl _).drew
  clear hW;replace HLC := zh (HLC.o.trans hWL);clear hWL;have HMC := zB HLC HM;have m0 := cz5 HMC.o;have y12 := (HS.o.later HLC.o).made_;have hMB := Zb HMC.o;have hSB := (HS.o.later HLC.o).lt
  repeat go_big_quiet_step (fail)
  refine wpQuiet_nil ?_;clear y12 hMB hSB;go_wp2_with fail;go_ret;exact ⟨rfl, HB.o.trans HLC.o⟩
theorem Zh4 (r : Zf) (B : Nat) (cs : List Value) (F : Nat → Prop) (w : World) (o : Z8) (os : List Value) (h : Z1 F w B r cs) (ho : Zcp F w o os) (hkz : o.aK.length ≤ 1048576) :
  Calls Tryz.prog 51 #[.pointer (some ⟨B, 0, none⟩), .agg os.toArray] w fun e w' => e = .returned (.bool (Zaa r o)) ∧ Below w.heap.size w w' := by
 obtain ⟨vi, vk, rfl, _, _, _, hi, hk⟩ := ho;obtain ⟨kd, tag, aI, aJ, aK⟩ := o;have hx : kd < 1 ∨ 9 < kd ∨ kd = 1 ∨ kd = 2 ∨ kd = 3 ∨ kd = 4 ∨ kd = 5 ∨ kd = 6 ∨ kd = 7 ∨ kd = 8 ∨ kd = 9 := by omega
 rcases hx with hx | hx | rfl | rfl | rfl | rfl | rfl | rfl | rfl | rfl | rfl
 ·exact Zr6 r B cs F w kd tag aI aJ aK vi vk h hi hk hx hkz
 ·exact Zr7 r B cs F w kd tag aI aJ aK vi vk h hi hk hx hkz
 ·exact Zsw r B cs F w tag aI aJ aK vi vk h hi hk hkz
 ·exact Zsx r B cs F w tag aI aJ aK vi vk h hi hk hkz
 ·exact Zsy r B cs F w tag aI aJ aK vi vk h hi hk hkz
 ·exact Zsz r B cs F w tag aI aJ aK vi vk h hi hk hkz
 ·exact Zs3 r B cs F w tag aI aJ aK vi vk h hi hk hkz
 ·exact Zs1 r B cs F w tag aI aJ aK vi vk h hi hk hkz
 ·exact Zs0 r B cs F w tag aI aJ aK vi vk h hi hk hkz
 ·exact Zs2 r B cs F w tag aI aJ aK vi vk h hi hk hkz
 ·exact Zs4 r B cs F w tag aI aJ aK vi vk h hi hk hkz
theorem Zbx (r : Zf) (cs : List Value) (F : Nat → Prop) (w : World) (hsz : Zai r ≤ 1048576) (h : Zb1 F w r cs) (ht : Spc w) :
  Calls Tryz.prog 13 #[.agg cs.toArray] w fun e w' => e = .returned (.bool (Zab r)) ∧ Below w.heap.size w w' := by
 obtain ⟨R, hR⟩ : ∃ R, Zab r = R := ⟨_, rfl⟩;rw [hR];have HR0 := zh hR;clear hR;have hel := h;obtain ⟨aL, aM, aN, aO, aP, aQ, aR, rfl, aV, aW, aX, aY, aZ, bA, bB, bD, bE, bF, bG, bH⟩ := h;obtain ⟨An, cn, rfl, kn, ln, _⟩ := id aV;obtain ⟨Ar, cr, rfl, kr, lr, _⟩ := id aW;obtain ⟨Ao, co, rfl, ko, lo, _⟩ := id aX;obtain ⟨Ag, cg, rfl, kg, lg, _⟩ := id aY;obtain ⟨Au, cu, rfl, ku, lu, _⟩ := id bB;obtain ⟨At, ct, rfl, kt, lt, _⟩ := id bD;obtain ⟨Aa, ca, rfl, ka, la, _⟩ := id bE;unfold maxLen at ln lr lo lg lu lt la;have HSO : Hd (∀ j (h : j < r.aA.length), r.aA[j].aK.length ≤ 1048576) := zh (fun j h => by
  have hz : Zo ByteArray.size r.names + (Zo Z5 r.aB + (Zo Z3 r.aA + (Zo Zah r.globals + (r.aC.size + (Zo ByteArray.size r.output + (Zo ByteArray.size r.trace + (Zo (fun _ => 0) r.aE))))))) ≤ 1048576 := hsz;have h1 : Zo Z3 r.aA = r.aA.length + Za0 Z3 r.aA := rfl;have h2 := Zdl Z3 r.aA _ (List.getElem_mem h);have h3 : Z3 r.aA[j] = (r.aA[j].aJ.length + Za0 Zah r.aA[j].aJ) + (r.aA[j].aK.length + Za0 Zah r.aA[j].aK) := rfl
  omega)
 have HOL : Hd (r.aA.length ≤ 1048576) := zh (by
  have hz : Zo ByteArray.size r.names + (Zo Z5 r.aB + (Zo Z3 r.aA + (Zo Zah r.globals + (r.aC.size + (Zo ByteArray.size r.output + (Zo ByteArray.size r.trace + (Zo (fun _ => 0) r.aE))))))) ≤ 1048576 := hsz;have h1 : Zo Z3 r.aA = r.aA.length + Za0 Z3 r.aA := rfl
  omega)
 have HSL : Hd (r.aC.size ≤ 1048576) := zh (by
  have hz : Zo ByteArray.size r.names + (Zo Z5 r.aB + (Zo Z3 r.aA + (Zo Zah r.globals + (r.aC.size + (Zo ByteArray.size r.output + (Zo ByteArray.size r.trace + (Zo (fun _ => 0) r.aE))))))) ≤ 1048576 := hsz
  omega)
 have hl1 := (Za.refl w).alloc (.cells #[.slice An r.names.length cn, .slice Ar r.aB.length cr, .slice Ao r.aA.length co, .slice Ag r.globals.length cg, .string r.aC, .int .i64 r.aD, .slice Au r.output.length cu, .slice At r.trace.length ct, .slice Aa r.aE.length ca, .bool r.aF, .int .i64 r.ticks, .int .i64 r.aG, .int .i64 r.made] 30);have HEL := zh hel;have HQn := zh aV;have HQr := zh aW;have HQo := zh aX;have HQg := zh aY;have HQu := zh bB;have HQt := zh bD;have HQa := zh bE;have HP64 := zh (show Zs r.aD ∧ Zs r.ticks ∧ Zs r.aG ∧ Zs r.made from ⟨bA, bF, bG, bH⟩);have HM := zh (heap_alloc_new w (.cells #[.slice An r.names.length cn, .slice Ar r.aB.length cr, .slice Ao r.aA.length co, .slice Ag r.globals.length cg, .string r.aC, .int .i64 r.aD, .slice Au r.output.length cu, .slice At r.trace.length ct, .slice Aa r.aE.length ca, .bool r.aF, .int .i64 r.ticks, .int .i64 r.aG, .int .i64 r.made] 30));have HB := zh (show Below w.heap.size w _ from hl1);obtain ⟨M, hM⟩ : ∃ M, w.heap.size = M := ⟨_, rfl⟩;obtain ⟨w1, hw1⟩ : ∃ x, x = w.alloc (.cells #[.slice An r.names.length cn, .slice Ar r.aB.length cr, .slice Ao r.aA.length co, .slice Ag r.globals.length cg, .string r.aC, .int .i64 r.aD, .slice Au r.output.length cu, .slice At r.trace.length ct, .slice Aa r.aE.length ca, .bool r.aF, .int .i64 r.ticks, .int .i64 r.aG, .int .i64 r.made] 30) := ⟨_, rfl⟩
 rw [← hw1] at HM HB;rw [hM] at HM;clear hel hl1 hsz aV aW aX aY aZ bA bB bD bE bF bG bH;obtain ⟨n12, hn12⟩ : ∃ q, (decide (r.names.length ≤ 12)) = q := ⟨_, rfl⟩;have W0n12 : (decide (12 < (r.names.length : Int))) = !n12 := by rw [← hn12]; exact (by rw [Bool.eq_iff_iff]; simp only [nJ, nK, nL, ne_eq, nM, nI, nH] <;> omega)
 obtain ⟨nm, hnm⟩ : ∃ q, (r.names.all Zbj) = q := ⟨_, rfl⟩;obtain ⟨r8, hr8⟩ : ∃ q, (decide (r.aB.length ≤ 8)) = q := ⟨_, rfl⟩;have W0r8 : (decide (8 < (r.aB.length : Int))) = !r8 := by rw [← hr8]; exact (by rw [Bool.eq_iff_iff]; simp only [nJ, nK, nL, ne_eq, nM, nI, nH] <;> omega)
 obtain ⟨rok, hrok⟩ : ∃ q, (r.aB.all Zdp) = q := ⟨_, rfl⟩;obtain ⟨g12, hg12⟩ : ∃ q, (decide (r.globals.length ≤ 12)) = q := ⟨_, rfl⟩;have W0g12 : (decide (12 < (r.globals.length : Int))) = !g12 := by rw [← hg12]; exact (by rw [Bool.eq_iff_iff]; simp only [nJ, nK, nL, ne_eq, nM, nI, nH] <;> omega)
 obtain ⟨s120, hs120⟩ : ∃ q, (decide (r.aC.size ≤ 120)) = q := ⟨_, rfl⟩;have W0s120 : (decide (120 < (r.aC.size : Int))) = !s120 := by rw [← hs120]; exact (by rw [Bool.eq_iff_iff]; simp only [nJ, nK, nL, ne_eq, nM, nI, nH] <;> omega)
 obtain ⟨p1, hp1⟩ : ∃ q, (decide (1 ≤ r.aD)) = q := ⟨_, rfl⟩;have W0p1 : (decide (r.aD < 1)) = !p1 := by rw [← hp1]; exact (by rw [Bool.eq_iff_iff]; simp only [nJ, nK, nL, ne_eq, nM, nI, nH] <;> omega)
 obtain ⟨p2, hp2⟩ : ∃ q, (decide (r.aD ≤ (r.aC.size : Int) + 1)) = q := ⟨_, rfl⟩;have W0p2 : (decide ((r.aC.size : Int) + 1 < r.aD)) = !p2 := by rw [← hp2]; exact (by rw [Bool.eq_iff_iff]; simp only [nJ, nK, nL, ne_eq, nM, nI, nH] <;> omega)
 obtain ⟨a40, ha40⟩ : ∃ q, (decide (r.aE.length ≤ 40)) = q := ⟨_, rfl⟩;have W0a40 : (decide (40 < (r.aE.length : Int))) = !a40 := by rw [← ha40]; exact (by rw [Bool.eq_iff_iff]; simp only [nJ, nK, nL, ne_eq, nM, nI, nH] <;> omega)
 obtain ⟨acts, hacts⟩ : ∃ q, (r.aE.all (Zcj r)) = q := ⟨_, rfl⟩;obtain ⟨outs, houts⟩ : ∃ q, (r.output.all Ze2) = q := ⟨_, rfl⟩;obtain ⟨b0, hb0⟩ : ∃ q, (decide (0 ≤ r.aG)) = q := ⟨_, rfl⟩;have W0b0 : (decide (r.aG < 0)) = !b0 := by rw [← hb0]; exact (by rw [Bool.eq_iff_iff]; simp only [nJ, nK, nL, ne_eq, nM, nI, nH] <;> omega)
 obtain ⟨b4, hb4⟩ : ∃ q, (decide (r.aG ≤ 4000)) = q := ⟨_, rfl⟩;have W0b4 : (decide (4000 < r.aG)) = !b4 := by rw [← hb4]; exact (by rw [Bool.eq_iff_iff]; simp only [nJ, nK, nL, ne_eq, nM, nI, nH] <;> omega)
 obtain ⟨t0, ht0⟩ : ∃ q, (decide (0 ≤ r.ticks)) = q := ⟨_, rfl⟩;have W0t0 : (decide (r.ticks < 0)) = !t0 := by rw [← ht0]; exact (by rw [Bool.eq_iff_iff]; simp only [nJ, nK, nL, ne_eq, nM, nI, nH] <;> omega)
 obtain ⟨tb, htb⟩ : ∃ q, (decide (r.ticks ≤ r.aG)) = q := ⟨_, rfl⟩;have W0tb : (decide (r.aG < r.ticks)) = !tb := by rw [← htb]; exact (by rw [Bool.eq_iff_iff]; simp only [nJ, nK, nL, ne_eq, nM, nI, nH] <;> omega)
 obtain ⟨m0_, hm0_⟩ : ∃ q, (decide (0 ≤ r.made)) = q := ⟨_, rfl⟩;have W0m0_ : (decide (r.made < 0)) = !m0_ := by rw [← hm0_]; exact (by rw [Bool.eq_iff_iff]; simp only [nJ, nK, nL, ne_eq, nM, nI, nH] <;> omega)
 obtain ⟨gl, hgl⟩ : ∃ q, (Zaf r r.globals) = q := ⟨_, rfl⟩;obtain ⟨objs, hobjs⟩ : ∃ q, (r.aA.all (Zaa r)) = q := ⟨_, rfl⟩;obtain ⟨sers, hsers⟩ : ∃ q, (Zcd r.aA) = q := ⟨_, rfl⟩;have HR := zh (show R = (n12 && (nm && (r8 && (rok && (g12 && (s120 && (p1 && (p2 && (a40 && (acts && (outs && (b0 && (b4 && (t0 && (tb && (m0_ && (gl && (objs && (sers))))))))))))))))))) by rw [← HR0.o, ← hn12, ← hnm, ← hr8, ← hrok, ← hg12, ← hs120, ← hp1, ← hp2, ← ha40, ← hacts, ← houts, ← hb0, ← hb4, ← ht0, ← htb, ← hm0_, ← hgl, ← hobjs, ← hsers]; try rfl);have Hn12 := zh hn12;clear hn12;have Hnm := zh hnm;clear hnm;have Hr8 := zh hr8;clear hr8;have Hrok := zh hrok;clear hrok;have Hg12 := zh hg12;clear hg12;have Hs120 := zh hs120;clear hs120;have Hp1 := zh hp1;clear hp1;have Hp2 := zh hp2;clear hp2;have Ha40 := zh ha40;clear ha40;have Hacts := zh hacts;clear hacts;have Houts := zh houts;clear houts;have Hb0 := zh hb0;clear hb0;have Hb4 := zh hb4;clear hb4;have Ht0 := zh ht0;clear ht0;have Htb := zh htb;clear htb;have Hm0_ := zh hm0_;clear hm0_;have Hgl := zh hgl;clear hgl;have Hobjs := zh hobjs;clear hobjs;have Hsers := zh hsers;clear hsers;have HT := zh ht;clear ht;go_enter Tryz.func13, Tryz.ntmps13;go_upto_region 1 with (fail);rw [← hw1]
 try rw [hM]
 have HMS := zh hM;clear hw1 hM;have m0 := Zbq HM.o
 cases n12 with
 | false =>
  simp only [Bool.not_false] at W0n12;have hR0 : R = false := by rw [HR.o]; simp
  subst hR0;go_wp2_with fail;go_ret;exact ⟨rfl, HB.o⟩
 | true =>
  simp only [Bool.not_true] at W0n12;go_wp2_with fail;refine (Zf9 r.names _ F _ (HQn.o.later Zad HB.o) (HT.o.below HB.o)).mono ?_;rw [Hnm.o];rintro e x1 ⟨rfl, hcl⟩;clear m0;replace HM := zC hcl HM;replace HB := zh (HB.o.trans (Below.mono hcl HB.o.size));clear hcl;have m0 := Zbq HM.o
  cases nm with
  | false =>
   have hR0 : R = false := by rw [HR.o]; simp
   subst hR0;go_wp2_with fail;go_ret;exact ⟨rfl, HB.o⟩
  | true =>
   go_wp2_with fail;refine (Zg0 r.aB _ F _ (HQr.o.later Zbh HB.o) (HT.o.below HB.o)).mono ?_;rw [Hrok.o, Hr8.o];rintro e x2 ⟨rfl, hcl⟩;clear m0;replace HM := zC hcl HM;replace HB := zh (HB.o.trans (Below.mono hcl HB.o.size));clear hcl;have m0 := Zbq HM.o
   cases rok with
   | false =>
    have hR0 : R = false := by rw [HR.o]; simp
    subst hR0;go_wp2_with fail;go_ret;exact ⟨rfl, HB.o⟩
   | true =>
    cases r8 with
    | false =>
     simp only [Bool.not_false] at W0r8;have hR0 : R = false := by rw [HR.o]; simp
     subst hR0;go_wp2_with fail;go_ret;exact ⟨rfl, HB.o⟩
    | true =>
     simp only [Bool.not_true] at W0r8
     cases g12 with
     | false =>
      simp only [Bool.not_false] at W0g12;have hR0 : R = false := by rw [HR.o]; simp
      subst hR0;go_wp2_with fail;go_ret;exact ⟨rfl, HB.o⟩
     | true =>
      simp only [Bool.not_true] at W0g12
      cases s120 with
      | false =>
       simp only [Bool.not_false] at W0s120;have hR0 : R = false := by rw [HR.o]; simp
       subst hR0;go_wp2_with fail;go_ret;exact ⟨rfl, HB.o⟩
      | true =>
       simp only [Bool.not_true] at W0s120;have hs120 : r.aC.size ≤ 120 := of_decide_eq_true Hs120.o
       cases p1 with
       | false =>
        simp only [Bool.not_false] at W0p1;have hR0 : R = false := by rw [HR.o]; simp
        subst hR0;go_wp2_with fail;go_ret;exact ⟨rfl, HB.o⟩
       | true =>
        simp only [Bool.not_true] at W0p1
        cases p2 with
        | false =>
         simp only [Bool.not_false] at W0p2;have hR0 : R = false := by rw [HR.o]; simp
         subst hR0;go_wp2_with fail;go_ret;exact ⟨rfl, HB.o⟩
        | true =>
         simp only [Bool.not_true] at W0p2
         cases a40 with
         | false =>
          simp only [Bool.not_false] at W0a40;have hR0 : R = false := by rw [HR.o]; simp
          subst hR0;go_wp2_with fail;go_ret;exact ⟨rfl, HB.o⟩
         | true =>
          simp only [Bool.not_true] at W0a40;go_wp2_with fail;clear m0
          go_loopw [61] (fun i wr => ∃ j : Nat, i = .int .i64 j ∧ j ≤ r.aE.length ∧ Hd (∀ k (h : k < r.aE.length), k < j → Zcj r r.aE[k] = true) ∧ Hd (wr.heap[M]? = some (.cells #[.slice An r.names.length cn, .slice Ar r.aB.length cr, .slice Ao r.aA.length co, .slice Ag r.globals.length cg, .string r.aC, .int .i64 r.aD, .slice Au r.output.length cu, .slice At r.trace.length ct, .slice Aa r.aE.length ca, .bool r.aF, .int .i64 r.ticks, .int .i64 r.aG, .int .i64 r.made] 30 (0, 0))) ∧ Hd (Below w.heap.size w wr)) (fun i _ => r.aE.length - (intOf i).toNat)
          case atStart => exact ⟨0, rfl, Nat.zero_le _, zh (fun k _ h => by omega), HM, HB⟩
          case round =>
           clear HM HB;obtain ⟨j, rfl, hj, HD, HM, HB⟩ := hrel
           by_cases hlt : j < r.aE.length
           ·have t1 : decide ((j : Int) < r.aE.length) = true := decide_eq_true (by omega);obtain ⟨ob, oo, cs, rfl, _, hob, hE, hc⟩ := (HQa.o.later Zb5 HB.o).at__ hlt;obtain ⟨rfl, hr64, hf64⟩ := hE;have e0 := hc 0 _ rfl;have e1 := hc 1 _ rfl;simp only [Nat.add_zero] at e0;obtain ⟨y, hy⟩ : ∃ y, r.aE[j] = y := ⟨_, rfl⟩;rw [hy] at e0 e1 hr64 hf64;have HY := zh hy;clear hy hc;have hl4 := (Za.refl wr).alloc (.cells #[.int .i64 y.routine, .int .i64 y.frame] 89);have HM4 := zC hl4 HM;have HB4 := zh (HB.o.trans (Below.mono hl4 HB.o.size));obtain ⟨p, hp⟩ : ∃ p, Zaq r y.frame 1 = p := ⟨_, rfl⟩;have HH := zh (Zal r M _ F _ y.frame 1 (⟨HM4.o, Zy.keep HEL.o (fun _ h => h) (Zg.later HB4.o)⟩ : Z1 F _ M r _));rw [hp] at HH;have HP := zh hp;clear hp hl4;have HNO : Hd (Zcj r y = false → R = false) := zh (fun e => by rw [HR.o]; have : r.aE.all (Zcj r) = false := Zdd hlt (by rw [HY.o]; exact e); rw [← Hacts.o, this]; simp);have m0 := Zbq HM4.o
            by_cases h0 : y.routine < 0
            ·have u1 : decide (y.routine < 0) = true := decide_eq_true h0;have hR0 : R = false := HNO.o (by unfold Zcj; rw [decide_eq_false (by omega)]; rfl);subst hR0;clear h0;go_wp2_with fail;go_ret;exact ⟨rfl, HB4.o⟩
            ·have u1 : decide (y.routine < 0) = false := decide_eq_false h0
             by_cases hn : y.routine < (r.names.length : Int)
             ·have u2 : decide ((r.names.length : Int) ≤ y.routine) = false := decide_eq_false (by omega);have HA := zh (show Zcj r y = p by unfold Zcj; rw [decide_eq_true (by omega), decide_eq_true hn, HP.o]; rfl);clear h0 hn;go_wp2_with fail;refine HH.o.mono ?_;rintro e w5 ⟨rfl, rfl⟩
              cases p with
              | true =>
               have HD2 : Hd (∀ k (h : k < r.aE.length), k < j + 1 → Zcj r r.aE[k] = true) := zh (Zcq HD.o (fun _ => by rw [HY.o]; exact HA.o));go_wp2_with fail
               go_roundw
               case rel => exact ⟨j + 1, by go_num, by omega, HD2, HM4, HB4⟩
               case measure => simp [intOf]; omega
              | false =>
               have hR0 : R = false := HNO.o HA.o;subst hR0;go_wp2_with fail;go_ret;exact ⟨rfl, HB4.o⟩
             ·have u2 : decide ((r.names.length : Int) ≤ y.routine) = true := decide_eq_true (by omega);have hR0 : R = false := HNO.o (by unfold Zcj; rw [decide_eq_false hn]; simp);subst hR0;clear h0 hn;go_wp2_with fail;go_ret;exact ⟨rfl, HB4.o⟩
           ·have t1 : decide ((j : Int) < r.aE.length) = false := decide_eq_false (by omega);have h1 : r.aE.all (Zcj r) = true := Zdz (fun k hk => HD.o k hk (by omega));replace HR := zh (show _ = _ from HR.o.trans (by rw [← Hacts.o, h1]));clear h1;go_upto_region 9 with (fail);have m0 := Zbq HM.o;go_wp2_with fail
            go_loopw [86] (fun i wr => ∃ j : Nat, i = .int .i64 j ∧ j ≤ r.output.length ∧ Hd (∀ k (h : k < r.output.length), k < j → Ze2 r.output[k] = true) ∧ Hd (wr.heap[M]? = some (.cells #[.slice An r.names.length cn, .slice Ar r.aB.length cr, .slice Ao r.aA.length co, .slice Ag r.globals.length cg, .string r.aC, .int .i64 r.aD, .slice Au r.output.length cu, .slice At r.trace.length ct, .slice Aa r.aE.length ca, .bool r.aF, .int .i64 r.ticks, .int .i64 r.aG, .int .i64 r.made] 30 (0, 0))) ∧ Hd (Below w.heap.size w wr)) (fun i _ => r.output.length - (intOf i).toNat)
            case atStart => exact ⟨0, rfl, Nat.zero_le _, zh (fun k _ h => by omega), HM, HB⟩
            case round =>
             clear HM HB m0;obtain ⟨j, rfl, hj, HD, HM, HB⟩ := hrel
             by_cases hlt : j < r.output.length
             ·have t1 : decide ((j : Int) < r.output.length) = true := decide_eq_true (by omega);obtain ⟨ob, oo, cs, rfl, _, hob, hE, hc⟩ := (HQu.o.later Zad HB.o).at__ hlt;obtain ⟨rfl, hsm⟩ := hE;have e0 := hc 0 _ rfl;simp only [Nat.mul_one, Nat.add_zero] at e0;obtain ⟨y, hy⟩ : ∃ y, r.output[j] = y := ⟨_, rfl⟩;rw [hy] at e0 hsm;have HY := zh hy;clear hy hc
              by_cases h120 : y.size ≤ 120
              ·have u1 : decide (120 < (y.size : Int)) = false := decide_eq_false (by omega);have HD2 : Hd (∀ k (h : k < r.output.length), k < j + 1 → Ze2 r.output[k] = true) := zh (Zcq HD.o (fun _ => by rw [HY.o]; exact decide_eq_true h120));clear h120 hsm;go_wp2_with fail
               go_roundw
               case rel => exact ⟨j + 1, by go_num, by omega, HD2, HM, HB⟩
               case measure => simp [intOf]; omega
              ·have u1 : decide (120 < (y.size : Int)) = true := decide_eq_true (by omega);have hR0 : R = false := by rw [HR.o]; have : r.output.all Ze2 = false := Zdd hlt (by rw [HY.o]; exact decide_eq_false h120); rw [← Houts.o, this]; simp
               subst hR0;clear h120 hsm;go_wp2_with fail;go_ret;exact ⟨rfl, HB.o⟩
             ·have t1 : decide ((j : Int) < r.output.length) = false := decide_eq_false (by omega);have h1 : r.output.all Ze2 = true := Zdz (fun k hk => HD.o k hk (by omega));replace HR := zh (show _ = _ from HR.o.trans (by rw [← Houts.o, h1]));clear h1;go_upto_region 15 with (fail);have m0 := Zbq HM.o
              cases b0 with
              | false =>
               simp only [Bool.not_false] at W0b0;have hR0 : R = false := by rw [HR.o]; simp
               subst hR0;go_wp2_with fail;go_ret;exact ⟨rfl, HB.o⟩
              | true =>
               simp only [Bool.not_true] at W0b0
               cases b4 with
               | false =>
                simp only [Bool.not_false] at W0b4;have hR0 : R = false := by rw [HR.o]; simp
                subst hR0;go_wp2_with fail;go_ret;exact ⟨rfl, HB.o⟩
               | true =>
                simp only [Bool.not_true] at W0b4
                cases t0 with
                | false =>
                 simp only [Bool.not_false] at W0t0;have hR0 : R = false := by rw [HR.o]; simp
                 subst hR0;go_wp2_with fail;go_ret;exact ⟨rfl, HB.o⟩
                | true =>
                 simp only [Bool.not_true] at W0t0
                 cases tb with
                 | false =>
                  simp only [Bool.not_false] at W0tb;have hR0 : R = false := by rw [HR.o]; simp
                  subst hR0;go_wp2_with fail;go_ret;exact ⟨rfl, HB.o⟩
                 | true =>
                  simp only [Bool.not_true] at W0tb
                  cases m0_ with
                  | false =>
                   simp only [Bool.not_false] at W0m0_;have hR0 : R = false := by rw [HR.o]; simp
                   subst hR0;go_wp2_with fail;go_ret;exact ⟨rfl, HB.o⟩
                  | true =>
                   simp only [Bool.not_true] at W0m0_;go_wp2_with fail;refine (Zay r M _ F _ r.globals _ (⟨HM.o, Zy.keep HEL.o (fun _ h => h) (Zg.later HB.o)⟩ : Z1 F _ M r _) (HQg.o.later Zc HB.o)).mono ?_;rw [Hgl.o];rintro e x3 ⟨rfl, hcl⟩;clear m0;replace HM := zC hcl HM;replace HB := zh (HB.o.trans (Below.mono hcl HB.o.size));clear hcl
                   cases gl with
                   | false =>
                    have hR0 : R = false := by rw [HR.o]; simp
                    subst hR0;go_wp2_with fail;go_ret;exact ⟨rfl, HB.o⟩
                   | true =>
                    have m0 := Zbq HM.o;have hmm := @run_makeMap Tryz.prog;have HM3 := zh (((Za.refl x3).alloc (.map #[] 0)).block _ (Zb HM.o) |>.trans HM.o);have q2 := cq HM3.o 2;simp only [nD, nE, nF] at q2;go_wp2_with fail;clear hmm q2;have HMP := zh (Zb2.start x3 r.aA);obtain ⟨b, hb⟩ : ∃ b, x3.heap.size = b := ⟨_, rfl⟩;rw [hb] at HMP ⊢;have hMb : M < b := by rw [← hb]; exact Zb HM.o
                    have hWb : w.heap.size ≤ b := by rw [HMS.o]; omega
                    have HB3 := zh (HB.o.trans (Below.mono ((Za.refl x3).alloc (.map #[] 0)) HB.o.size));clear HM HB hb
                    go_loopw [129] (fun i wr => ∃ j : Nat, i = .int .i64 j ∧ j ≤ r.aA.length ∧ Hd (∀ k (h : k < r.aA.length), k < j → Zaa r r.aA[k] = true) ∧ Hd (∀ k (h : k < r.aA.length), k < j → r.aA[k].aI = 0 ∨ ∀ i (hi : i < r.aA.length), i < k → r.aA[i].aI ≠ r.aA[k].aI) ∧ Hd (Zb2 wr b r.aA j) ∧ Hd (wr.heap[M]? = some (.cells #[.slice An r.names.length cn, .slice Ar r.aB.length cr, .slice Ao r.aA.length co, .slice Ag r.globals.length cg, .string r.aC, .int .i64 r.aD, .slice Au r.output.length cu, .slice At r.trace.length ct, .slice Aa r.aE.length ca, .bool r.aF, .int .i64 r.ticks, .int .i64 r.aG, .int .i64 r.made] 30 (0, 0))) ∧ Hd (Below w.heap.size w wr)) (fun i _ => r.aA.length - (intOf i).toNat)
                    case atStart => exact ⟨0, rfl, Nat.zero_le _, zh (fun k _ h => by omega), zh (fun k _ h => by omega), HMP, HM3, HB3⟩
                    case round =>
                     obtain ⟨j, rfl, hj, HD, HE, HMP, HM, HB⟩ := hrel
                     by_cases hlt : j < r.aA.length
                     ·have t1 : decide ((j : Int) < r.aA.length) = true := decide_eq_true (by omega);obtain ⟨ob, oo, Ai, ci, Ak, ck, rfl, hob, e0, e1, e2, e3, e4, hrI, hrK, hk64, ht64, hs64⟩ := Z1.obj (HQo.o.later Zb4 HB.o) hlt;have HRI := zh hrI;have HRK := zh hrK;have HJ := zh (show j ≤ 1048576 by have := HOL.o; omega);obtain ⟨y, hy⟩ : ∃ y, r.aA[j] = y := ⟨_, rfl⟩;have HKZ := zh (HSO.o j hlt);rw [hy] at e0 e1 e2 e3 e4 HRI HRK hk64 ht64 hs64 HKZ;have HY := zh hy;have H64 := zh (show Zs y.kind ∧ Zs y.tag ∧ Zs y.aI from ⟨hk64, ht64, hs64⟩);clear hy hrI hrK hk64 ht64 hs64;have hl4 := (Za.refl wr).alloc (.cells #[.int .i64 y.kind, .int .i64 y.tag, .int .i64 y.aI, .slice Ai y.aJ.length ci, .slice Ak y.aK.length ck] 94);have HN := zh (heap_alloc_new wr (.cells #[.int .i64 y.kind, .int .i64 y.tag, .int .i64 y.aI, .slice Ai y.aJ.length ci, .slice Ak y.aK.length ck] 94));have hbN : b < wr.heap.size := HMP.o.lt;obtain ⟨N, hN⟩ : ∃ N, wr.heap.size = N := ⟨_, rfl⟩;have HM4 := zC hl4 HM;have HB4 := zh (HB.o.trans (Below.mono hl4 HB.o.size));have HMP4 := zh (HMP.o.same (hl4.block _ HMP.o.lt));obtain ⟨p, hp⟩ : ∃ p, Zaa r y = p := ⟨_, rfl⟩;have HP := zh hp;have HH := zh (Zh4 r M _ F _ y _ (⟨HM4.o, Zy.keep HEL.o (fun _ h => h) (Zg.later HB4.o)⟩ : Z1 F _ M r _) (⟨_, _, rfl, H64.o.1, H64.o.2.1, H64.o.2.2, HRI.o.keep Zc (fun _ h => h) (Zg.later hl4), HRK.o.keep Zc (fun _ h => h) (Zg.later hl4)⟩ : Zcp F _ y [.int .i64 y.kind, .int .i64 y.tag, .int .i64 y.aI, .slice Ai y.aJ.length ci, .slice Ak y.aK.length ck]) HKZ.o)
                      rw [hp] at HH;rw [hN] at HN hbN;clear hp hl4 HM HB HMP;go_wp2_with fail;refine HH.o.mono ?_;rintro e w5 ⟨rfl, hcl⟩;clear e0 e1 e2 e3 e4 hob
                      try rw [hN]
                      have HM := zC hcl HM4;have HB := zh (HB4.o.trans (Below.mono hcl HB4.o.size));have HMP := zh (HMP4.o.same (Below.block hcl _ HMP4.o.lt));have HN5 := zC hcl HN;clear hcl HM4 HB4 HMP4 HN hN HH;have f2 := cq HN5.o 2;simp only [nD, nE, nF] at f2
                      cases p with
                      | false =>
                       have hR0 : R = false := by rw [HR.o]; have : r.aA.all (Zaa r) = false := Zdd hlt (by rw [HY.o]; exact HP.o); rw [← Hobjs.o, this]; simp
                       subst hR0;go_wp2_with fail;go_ret;exact ⟨rfl, HB.o⟩
                      | true =>
                       have HD2 : Hd (∀ k (h : k < r.aA.length), k < j + 1 → Zaa r r.aA[k] = true) := zh (Zcq HD.o (fun _ => by rw [HY.o]; exact HP.o))
                       by_cases hs0 : y.aI = 0
                       ·have u1 : (y.aI != 0) = false := by rw [← Bool.not_eq_true, bne_iff_ne]; omega
                        have HE2 : Hd (∀ k (h : k < r.aA.length), k < j + 1 → r.aA[k].aI = 0 ∨ ∀ i (hi : i < r.aA.length), i < k → r.aA[i].aI ≠ r.aA[k].aI) := zh (fun k hk h => by
                         rcases Nat.lt_or_ge k j with h1 | h1
                         ·exact HE.o k hk h1
                         ·obtain rfl : k = j := by omega
                          exact .inl (by rw [HY.o]; exact hs0))
                        have HMP2 := zh (HMP.o.zero hlt (by rw [HY.o]; exact hs0));clear hs0;go_wp2_with fail
                        go_roundw
                        case rel => exact ⟨j + 1, by go_num, by omega, HD2, HE2, HMP2, HM, HB⟩
                        case measure => simp [intOf]; omega
                       ·have u1 : (y.aI != 0) = true := bne_iff_ne.2 hs0;have HS0 := zh hs0;clear hs0;obtain ⟨q, hq⟩ : ∃ q, Zdr r.aA j y.aI = q := ⟨_, rfl⟩;have HQ := zh hq;clear hq
                        cases q with
                        | true =>
                         have hR0 : R = false := by
                          have h1 := HQ.o;unfold Zdr at h1;rw [nJ] at h1;obtain ⟨_, q, hq, hqj, hqs⟩ := h1;rw [HR.o, ← Hsers.o, Zhd hlt (by rw [HY.o]; exact HS0.o) hqj (by rw [HY.o]; exact hqs)];simp
                         subst hR0
                         go_wp2_with (at_lookup; refine Zb2.look HMP.o H64.o.2.2 rfl _ _ rfl rfl rfl ?_; rw [HQ.o])
                         go_ret;exact ⟨rfl, HB.o⟩
                        | false =>
                         have HE2 : Hd (∀ k (h : k < r.aA.length), k < j + 1 → r.aA[k].aI = 0 ∨ ∀ i (hi : i < r.aA.length), i < k → r.aA[i].aI ≠ r.aA[k].aI) := zh (fun k hk h => by
                          rcases Nat.lt_or_ge k j with h1 | h1
                          ·exact HE.o k hk h1
                          ·obtain rfl : k = j := by omega
                           refine .inr (fun i hi hik hs => ?_);have h2 := HQ.o;unfold Zdr at h2;rw [nI] at h2;exact h2 ⟨HS0.o, i, hi, hik, by rw [hs, HY.o]⟩)
                         go_wp2_with (first | (at_lookup; refine Zb2.look HMP.o H64.o.2.2 rfl _ _ rfl rfl rfl ?_; rw [HQ.o]) | (at_mapUpdate; refine Zb2.store HMP.o hlt (by rw [HY.o]; exact H64.o.2.2) (by rw [HY.o]; exact HS0.o) HJ.o rfl _ _ _ rfl rfl (by rw [HY.o]; rfl) rfl ?_; intro w6 hmp6 hgr6))
                         have HB6 := zh (HB.o.grown hgr6 HB.o.size (fun k hk => by cases hk; exact hWb));have HM6 := zh ((hgr6.block M (Zb HM.o) (by intro h; cases h; omega)).trans HM.o);have HMP6 := zh hmp6;clear hmp6 hgr6
                         go_roundw
                         case rel => exact ⟨j + 1, by go_num, by omega, HD2, HE2, HMP6, HM6, HB6⟩
                         case measure => simp [intOf]; omega
                     ·have t1 : decide ((j : Int) < r.aA.length) = false := decide_eq_false (by omega);have h1 : r.aA.all (Zaa r) = true := Zdz (fun k hk => HD.o k hk (by omega));have h2 : Zcd r.aA = true := Zgd (fun k hk => HE.o k hk (by omega));have hR0 : R = true := by rw [HR.o, ← Hobjs.o, ← Hsers.o, h1, h2]; rfl
                      subst hR0;clear h1 h2;go_wp2_with fail;go_ret;exact ⟨rfl, HB.o⟩
theorem Zq1 (r : Zf) (B : Nat) (cs : List Value) (F : Nat → Prop) (w : World) (tag aI : Int) (aJ aK : List Ze) (vi vk : Value) (h : Z1 F w B r cs) (hi : Zp Zd 6 F w aJ vi) (hk : Zp Zd 6 F w aK vk) (hkz : aK.length ≤ 1048576) :
  Calls Tryz.prog 100 #[.pointer (some ⟨B, 0, none⟩), .agg #[.int .i64 1, .int .i64 tag, .int .i64 aI, vi, vk]] w fun e w' => e = .returned (.bool (Zaa r ⟨1, tag, aI, aJ, aK⟩)) ∧ Below w.heap.size w w' := by
 obtain ⟨R, hR⟩ : ∃ R, Zaa r ⟨1, tag, aI, aJ, aK⟩ = R := ⟨_, rfl⟩;rw [hR];have HR0 := zh hR;clear hR;obtain ⟨Ai, ci, rfl, hci, hcmi, _⟩ := id hi;obtain ⟨Ak, ck, rfl, hck, hcmk, _⟩ := id hk;unfold maxLen at hcmi hcmk;have hl1 := (Za.refl w).alloc (.cells #[.int .i64 1, .int .i64 tag, .int .i64 aI, .slice Ai aJ.length ci, .slice Ak aK.length ck] 94);have HS := zh (h.later hl1);have HI := zh (hi.later Zc hl1);have HK := zh (hk.later Zc hl1);have HM := zh (heap_alloc_new w (.cells #[.int .i64 1, .int .i64 tag, .int .i64 aI, .slice Ai aJ.length ci, .slice Ak aK.length ck] 94));have HB := zh hl1;obtain ⟨w1, hw1⟩ : ∃ x, x = w.alloc (.cells #[.int .i64 1, .int .i64 tag, .int .i64 aI, .slice Ai aJ.length ci, .slice Ak aK.length ck] 94) := ⟨_, rfl⟩;rw [← hw1] at HS HI HK HM HB;have HLC := zh (Za.refl w1);clear h hi hk hl1;obtain ⟨s0, hs0⟩ : ∃ q, (aI == 0) = q := ⟨_, rfl⟩;have W0s0 : (aI != 0) = !s0 := by rw [← hs0]; exact (by rw [Bool.eq_iff_iff]; simp only [nJ, nK, nL, ne_eq, nM, nI, nH] <;> omega)
 obtain ⟨tg, htg⟩ : ∃ q, (tag == 0) = q := ⟨_, rfl⟩;have W0tg : (tag != 0) = !tg := by rw [← htg]; exact (by rw [Bool.eq_iff_iff]; simp only [nJ, nK, nL, ne_eq, nM, nI, nH] <;> omega)
 have W1tg : (tag == 0) = tg := htg;obtain ⟨ky, hky⟩ : ∃ q, (decide (aK.length = 0)) = q := ⟨_, rfl⟩;have W0ky : ((aK.length : Int) != 0) = !ky := by rw [← hky]; exact (by rw [Bool.eq_iff_iff]; simp only [nJ, nK, nL, ne_eq, nM, nI, nH] <;> omega)
 have W1ky : ((aK.length : Int) == 0) = ky := by rw [← hky]; exact (by rw [Bool.eq_iff_iff]; simp only [nJ, nK, nL, ne_eq, nM, nI, nH] <;> omega)
 obtain ⟨b1, hb1⟩ : ∃ q, (decide (aJ.length ≤ 24)) = q := ⟨_, rfl⟩;have W0b1 : (decide ((aJ.length : Int) ≤ 24)) = b1 := by rw [← hb1]; exact (by rw [Bool.eq_iff_iff]; simp only [nJ, nK, nL, ne_eq, nM, nI, nH] <;> omega)
 obtain ⟨ai, hai⟩ : ∃ q, (Zaf r aJ) = q := ⟨_, rfl⟩;have HR := zh (show R = (s0 && (tg && (ky && (b1 && (ai))))) by rw [← HR0.o, ← hs0, ← htg, ← hky, ← hb1, ← hai]; try rfl);have Hs0 := zh hs0;clear hs0;have Htg := zh htg;clear htg;have Hky := zh hky;clear hky;have Hb1 := zh hb1;clear hb1;have Hai := zh hai;clear hai;go_enter Tryz.func100, Tryz.ntmps100;go_upto_region 4 with (fail);rw [← hw1];clear hw1;have HMC := zB HLC HM;have m0 := cz5 HMC.o
 cases s0 with
 | false =>
  simp only [Bool.not_false] at W0s0;have hR0 : R = false := by rw [HR.o]; simp
  subst hR0;go_wp2_with fail;go_ret;exact ⟨rfl, HB.o.trans HLC.o⟩
 | true =>
  simp only [Bool.not_true] at W0s0
  cases tg with
  | false =>
   simp only [Bool.not_false] at W0tg;have hR0 : R = false := by rw [HR.o]; simp
   subst hR0;go_wp2_with fail;go_ret;exact ⟨rfl, HB.o.trans HLC.o⟩
  | true =>
   simp only [Bool.not_true] at W0tg
   cases ky with
   | false =>
    simp only [Bool.not_false] at W0ky;have hR0 : R = false := by rw [HR.o]; simp
    subst hR0;go_wp2_with fail;go_ret;exact ⟨rfl, HB.o.trans HLC.o⟩
   | true =>
    simp only [Bool.not_true] at W0ky
    cases b1 with
    | false =>
     have hR0 : R = false := by rw [HR.o]; simp
     subst hR0;go_wp2_with fail;go_ret;exact ⟨rfl, HB.o.trans HLC.o⟩
    | true =>
     go_wp2_with fail;refine (Zbn r B cs F _ aJ _ (HS.o.later HLC.o) (HI.o.later Zc HLC.o)).mono ?_;rw [Hai.o];rintro e w5 ⟨rfl, hcl⟩;clear HMC m0;replace HLC := zh (HLC.o.trans hcl);clear hcl;have hR0 : R = ai := by rw [HR.o]; simp
     subst hR0;go_wp2_with fail;go_ret;exact ⟨rfl, HB.o.trans HLC.o⟩
theorem Zq2 (r : Zf) (B : Nat) (cs : List Value) (F : Nat → Prop) (w : World) (tag aI : Int) (aJ aK : List Ze) (vi vk : Value) (h : Z1 F w B r cs) (hi : Zp Zd 6 F w aJ vi) (hk : Zp Zd 6 F w aK vk) (hkz : aK.length ≤ 1048576) :
  Calls Tryz.prog 100 #[.pointer (some ⟨B, 0, none⟩), .agg #[.int .i64 2, .int .i64 tag, .int .i64 aI, vi, vk]] w fun e w' => e = .returned (.bool (Zaa r ⟨2, tag, aI, aJ, aK⟩)) ∧ Below w.heap.size w w' := by
 obtain ⟨R, hR⟩ : ∃ R, Zaa r ⟨2, tag, aI, aJ, aK⟩ = R := ⟨_, rfl⟩;rw [hR];have HR0 := zh hR;clear hR;obtain ⟨Ai, ci, rfl, hci, hcmi, _⟩ := id hi;obtain ⟨Ak, ck, rfl, hck, hcmk, _⟩ := id hk;unfold maxLen at hcmi hcmk;have hl1 := (Za.refl w).alloc (.cells #[.int .i64 2, .int .i64 tag, .int .i64 aI, .slice Ai aJ.length ci, .slice Ak aK.length ck] 94);have HS := zh (h.later hl1);have HI := zh (hi.later Zc hl1);have HK := zh (hk.later Zc hl1);have HM := zh (heap_alloc_new w (.cells #[.int .i64 2, .int .i64 tag, .int .i64 aI, .slice Ai aJ.length ci, .slice Ak aK.length ck] 94));have HB := zh hl1;obtain ⟨w1, hw1⟩ : ∃ x, x = w.alloc (.cells #[.int .i64 2, .int .i64 tag, .int .i64 aI, .slice Ai aJ.length ci, .slice Ak aK.length ck] 94) := ⟨_, rfl⟩;rw [← hw1] at HS HI HK HM HB;have HLC := zh (Za.refl w1);clear h hi hk hl1;obtain ⟨s1, hs1⟩ : ∃ q, (decide (1 ≤ aI)) = q := ⟨_, rfl⟩;have W0s1 : (decide (aI < 1)) = !s1 := by rw [← hs1]; exact (by rw [Bool.eq_iff_iff]; simp only [nJ, nK, nL, ne_eq, nM, nI, nH] <;> omega)
 obtain ⟨s2, hs2⟩ : ∃ q, (decide (aI ≤ r.made)) = q := ⟨_, rfl⟩;have W0s2 : (decide (r.made < aI)) = !s2 := by rw [← hs2]; exact (by rw [Bool.eq_iff_iff]; simp only [nJ, nK, nL, ne_eq, nM, nI, nH] <;> omega)
 obtain ⟨tg, htg⟩ : ∃ q, (tag == 0) = q := ⟨_, rfl⟩;have W0tg : (tag != 0) = !tg := by rw [← htg]; exact (by rw [Bool.eq_iff_iff]; simp only [nJ, nK, nL, ne_eq, nM, nI, nH] <;> omega)
 have W1tg : (tag == 0) = tg := htg;obtain ⟨ky, hky⟩ : ∃ q, (decide (aK.length = 0)) = q := ⟨_, rfl⟩;have W0ky : ((aK.length : Int) != 0) = !ky := by rw [← hky]; exact (by rw [Bool.eq_iff_iff]; simp only [nJ, nK, nL, ne_eq, nM, nI, nH] <;> omega)
 have W1ky : ((aK.length : Int) == 0) = ky := by rw [← hky]; exact (by rw [Bool.eq_iff_iff]; simp only [nJ, nK, nL, ne_eq, nM, nI, nH] <;> omega)
 obtain ⟨b1, hb1⟩ : ∃ q, (decide (aJ.length ≤ 40)) = q := ⟨_, rfl⟩;have W0b1 : (decide ((aJ.length : Int) ≤ 40)) = b1 := by rw [← hb1]; exact (by rw [Bool.eq_iff_iff]; simp only [nJ, nK, nL, ne_eq, nM, nI, nH] <;> omega)
 obtain ⟨ai, hai⟩ : ∃ q, (Zaf r aJ) = q := ⟨_, rfl⟩;have HR := zh (show R = ((s1 && s2) && (tg && (ky && (b1 && (ai))))) by rw [← HR0.o, ← hs1, ← hs2, ← htg, ← hky, ← hb1, ← hai]; try rfl);have Hs1 := zh hs1;clear hs1;have Hs2 := zh hs2;clear hs2;have Htg := zh htg;clear htg;have Hky := zh hky;clear hky;have Hb1 := zh hb1;clear hb1;have Hai := zh hai;clear hai;go_enter Tryz.func100, Tryz.ntmps100;go_upto_region 2 with (fail);rw [← hw1];clear hw1
 cases s1 with
 | false =>
  simp only [Bool.not_false] at W0s1;refine Zu (fun W hW => ?_);have hWL : Za w1 W := by rw [hW]; exact (Za.refl _).drew
  clear hW;replace HLC := zh (HLC.o.trans hWL);clear hWL;have HMC := zB HLC HM;have m0 := cz5 HMC.o;have y12 := (HS.o.later HLC.o).made_;have hMB := Zb HMC.o;have hSB := (HS.o.later HLC.o).lt
  repeat go_big_quiet_step (fail)
  refine wpQuiet_nil ?_;have hR0 : R = false := by rw [HR.o]; simp
  subst hR0;go_wp2_with fail;go_ret;exact ⟨rfl, HB.o.trans HLC.o⟩
 | true =>
  simp only [Bool.not_true] at W0s1
  cases s2 with
  | false =>
   simp only [Bool.not_false] at W0s2;refine Zu (fun W hW => ?_);have hWL : Za w1 W := by rw [hW]; exact (Za.refl _).drew
   clear hW;replace HLC := zh (HLC.o.trans hWL);clear hWL;have HMC := zB HLC HM;have m0 := cz5 HMC.o;have y12 := (HS.o.later HLC.o).made_;have hMB := Zb HMC.o;have hSB := (HS.o.later HLC.o).lt
   repeat go_big_quiet_step (fail)
   refine wpQuiet_nil ?_;have hR0 : R = false := by rw [HR.o]; simp
   subst hR0;go_wp2_with fail;go_ret;exact ⟨rfl, HB.o.trans HLC.o⟩
  | true =>
   simp only [Bool.not_true] at W0s2;refine Zu (fun V hV => ?_);have hVL : Za w1 V := by rw [hV]; exact (Za.refl _).drew
   clear hV;replace HLC := zh (HLC.o.trans hVL);clear hVL;have HMC := zB HLC HM;have m0 := cz5 HMC.o;have y12 := (HS.o.later HLC.o).made_;have hMB := Zb HMC.o;have hSB := (HS.o.later HLC.o).lt
   repeat go_big_quiet_step (fail)
   refine wpQuiet_nil ?_;clear y12 hMB hSB
   cases tg with
   | false =>
    simp only [Bool.not_false] at W0tg;have hR0 : R = false := by rw [HR.o]; simp
    subst hR0;go_wp2_with fail;go_ret;exact ⟨rfl, HB.o.trans HLC.o⟩
   | true =>
    simp only [Bool.not_true] at W0tg
    cases ky with
    | false =>
     simp only [Bool.not_false] at W0ky;have hR0 : R = false := by rw [HR.o]; simp
     subst hR0;go_wp2_with fail;go_ret;exact ⟨rfl, HB.o.trans HLC.o⟩
    | true =>
     simp only [Bool.not_true] at W0ky
     cases b1 with
     | false =>
      have hR0 : R = false := by rw [HR.o]; simp
      subst hR0;go_wp2_with fail;go_ret;exact ⟨rfl, HB.o.trans HLC.o⟩
     | true =>
      go_wp2_with fail;refine (Zbn r B cs F _ aJ _ (HS.o.later HLC.o) (HI.o.later Zc HLC.o)).mono ?_;rw [Hai.o];rintro e w5 ⟨rfl, hcl⟩;clear HMC m0;replace HLC := zh (HLC.o.trans hcl);clear hcl;have hR0 : R = ai := by rw [HR.o]; simp
      subst hR0;go_wp2_with fail;go_ret;exact ⟨rfl, HB.o.trans HLC.o⟩
theorem Zq3 (r : Zf) (B : Nat) (cs : List Value) (F : Nat → Prop) (w : World) (tag aI : Int) (aJ aK : List Ze) (vi vk : Value) (h : Z1 F w B r cs) (hi : Zp Zd 6 F w aJ vi) (hk : Zp Zd 6 F w aK vk) (hkz : aK.length ≤ 1048576) :
  Calls Tryz.prog 100 #[.pointer (some ⟨B, 0, none⟩), .agg #[.int .i64 3, .int .i64 tag, .int .i64 aI, vi, vk]] w fun e w' => e = .returned (.bool (Zaa r ⟨3, tag, aI, aJ, aK⟩)) ∧ Below w.heap.size w w' := by
 obtain ⟨R, hR⟩ : ∃ R, Zaa r ⟨3, tag, aI, aJ, aK⟩ = R := ⟨_, rfl⟩;rw [hR];have HR0 := zh hR;clear hR;obtain ⟨Ai, ci, rfl, hci, hcmi, _⟩ := id hi;obtain ⟨Ak, ck, rfl, hck, hcmk, _⟩ := id hk;unfold maxLen at hcmi hcmk;have hl1 := (Za.refl w).alloc (.cells #[.int .i64 3, .int .i64 tag, .int .i64 aI, .slice Ai aJ.length ci, .slice Ak aK.length ck] 94);have HS := zh (h.later hl1);have HI := zh (hi.later Zc hl1);have HK := zh (hk.later Zc hl1);have HM := zh (heap_alloc_new w (.cells #[.int .i64 3, .int .i64 tag, .int .i64 aI, .slice Ai aJ.length ci, .slice Ak aK.length ck] 94));have HB := zh hl1;obtain ⟨w1, hw1⟩ : ∃ x, x = w.alloc (.cells #[.int .i64 3, .int .i64 tag, .int .i64 aI, .slice Ai aJ.length ci, .slice Ak aK.length ck] 94) := ⟨_, rfl⟩;rw [← hw1] at HS HI HK HM HB;have HLC := zh (Za.refl w1);clear h hi hk hl1;obtain ⟨s1, hs1⟩ : ∃ q, (decide (1 ≤ aI)) = q := ⟨_, rfl⟩;have W0s1 : (decide (aI < 1)) = !s1 := by rw [← hs1]; exact (by rw [Bool.eq_iff_iff]; simp only [nJ, nK, nL, ne_eq, nM, nI, nH] <;> omega)
 obtain ⟨s2, hs2⟩ : ∃ q, (decide (aI ≤ r.made)) = q := ⟨_, rfl⟩;have W0s2 : (decide (r.made < aI)) = !s2 := by rw [← hs2]; exact (by rw [Bool.eq_iff_iff]; simp only [nJ, nK, nL, ne_eq, nM, nI, nH] <;> omega)
 obtain ⟨tg, htg⟩ : ∃ q, (tag == 0) = q := ⟨_, rfl⟩;have W0tg : (tag != 0) = !tg := by rw [← htg]; exact (by rw [Bool.eq_iff_iff]; simp only [nJ, nK, nL, ne_eq, nM, nI, nH] <;> omega)
 have W1tg : (tag == 0) = tg := htg;obtain ⟨b1, hb1⟩ : ∃ q, (decide (aK.length ≤ 40)) = q := ⟨_, rfl⟩;have W0b1 : (decide ((aK.length : Int) ≤ 40)) = b1 := by rw [← hb1]; exact (by rw [Bool.eq_iff_iff]; simp only [nJ, nK, nL, ne_eq, nM, nI, nH] <;> omega)
 obtain ⟨b2, hb2⟩ : ∃ q, (decide (aJ.length = aK.length + 1)) = q := ⟨_, rfl⟩;have W0b2 : ((aJ.length : Int) == (aK.length : Int) + 1) = b2 := by rw [← hb2]; exact (by rw [Bool.eq_iff_iff]; simp only [nJ, nK, nL, ne_eq, nM, nI, nH] <;> omega)
 have W1b2 : ((aJ.length : Int) == 1 + (aK.length : Int)) = b2 := by rw [← hb2]; exact (by rw [Bool.eq_iff_iff]; simp only [nJ, nK, nL, ne_eq, nM, nI, nH] <;> omega)
 obtain ⟨ai, hai⟩ : ∃ q, (Zaf r aJ) = q := ⟨_, rfl⟩;obtain ⟨ak, hak⟩ : ∃ q, (Zaf r aK) = q := ⟨_, rfl⟩;obtain ⟨di, hdi⟩ : ∃ q, (Zbg aK) = q := ⟨_, rfl⟩;have HR := zh (show R = ((s1 && s2) && (tg && (b1 && (b2 && (ai && (ak && (di))))))) by rw [← HR0.o, ← hs1, ← hs2, ← htg, ← hb1, ← hb2, ← hai, ← hak, ← hdi]; try rfl);have Hs1 := zh hs1;clear hs1;have Hs2 := zh hs2;clear hs2;have Htg := zh htg;clear htg;have Hb1 := zh hb1;clear hb1;have Hb2 := zh hb2;clear hb2;have Hai := zh hai;clear hai;have Hak := zh hak;clear hak;have Hdi := zh hdi;clear hdi;go_enter Tryz.func100, Tryz.ntmps100;go_upto_region 2 with (fail);rw [← hw1];clear hw1
 cases s1 with
 | false =>
  simp only [Bool.not_false] at W0s1;refine Zu (fun W hW => ?_);have hWL : Za w1 W := by rw [hW]; exact (Za.refl _).drew
  clear hW;replace HLC := zh (HLC.o.trans hWL);clear hWL;have HMC := zB HLC HM;have m0 := cz5 HMC.o;have y12 := (HS.o.later HLC.o).made_;have hMB := Zb HMC.o;have hSB := (HS.o.later HLC.o).lt
  repeat go_big_quiet_step (fail)
  refine wpQuiet_nil ?_;have hR0 : R = false := by rw [HR.o]; simp
  subst hR0;go_wp2_with fail;go_ret;exact ⟨rfl, HB.o.trans HLC.o⟩
 | true =>
  simp only [Bool.not_true] at W0s1
  cases s2 with
  | false =>
   simp only [Bool.not_false] at W0s2;refine Zu (fun W hW => ?_);have hWL : Za w1 W := by rw [hW]; exact (Za.refl _).drew
   clear hW;replace HLC := zh (HLC.o.trans hWL);clear hWL;have HMC := zB HLC HM;have m0 := cz5 HMC.o;have y12 := (HS.o.later HLC.o).made_;have hMB := Zb HMC.o;have hSB := (HS.o.later HLC.o).lt
   repeat go_big_quiet_step (fail)
   refine wpQuiet_nil ?_;have hR0 : R = false := by rw [HR.o]; simp
   subst hR0;go_wp2_with fail;go_ret;exact ⟨rfl, HB.o.trans HLC.o⟩
  | true =>
   simp only [Bool.not_true] at W0s2;refine Zu (fun V hV => ?_);have hVL : Za w1 V := by rw [hV]; exact (Za.refl _).drew
   clear hV;replace HLC := zh (HLC.o.trans hVL);clear hVL;have HMC := zB HLC HM;have m0 := cz5 HMC.o;have y12 := (HS.o.later HLC.o).made_;have hMB := Zb HMC.o;have hSB := (HS.o.later HLC.o).lt
   repeat go_big_quiet_step (fail)
   refine wpQuiet_nil ?_;clear y12 hMB hSB
   cases tg with
   | false =>
    simp only [Bool.not_false] at W0tg;have hR0 : R = false := by rw [HR.o]; simp
    subst hR0;go_wp2_with fail;go_ret;exact ⟨rfl, HB.o.trans HLC.o⟩
   | true =>
    simp only [Bool.not_true] at W0tg
    cases b1 with
    | false =>
     have hR0 : R = false := by rw [HR.o]; simp
     subst hR0;go_wp2_with fail;go_ret;exact ⟨rfl, HB.o.trans HLC.o⟩
    | true =>
     cases b2 with
     | false =>
      have hR0 : R = false := by rw [HR.o]; simp
      subst hR0;go_wp2_with fail;go_ret;exact ⟨rfl, HB.o.trans HLC.o⟩
     | true =>
      go_wp2_with fail;refine (Zbn r B cs F _ aJ _ (HS.o.later HLC.o) (HI.o.later Zc HLC.o)).mono ?_;rw [Hai.o];rintro e w5 ⟨rfl, hcl⟩;clear HMC m0;replace HLC := zh (HLC.o.trans hcl);clear hcl;have HMC := zB HLC HM;have m0 := cz5 HMC.o
      cases ai with
      | false =>
       have hR0 : R = false := by rw [HR.o]; simp
       subst hR0;go_wp2_with fail;go_ret;exact ⟨rfl, HB.o.trans HLC.o⟩
      | true =>
       go_wp2_with fail;refine (Zbn r B cs F _ aK _ (HS.o.later HLC.o) (HK.o.later Zc HLC.o)).mono ?_;rw [Hak.o];rintro e w6 ⟨rfl, hcl⟩;clear HMC m0;replace HLC := zh (HLC.o.trans hcl);clear hcl;have HMC := zB HLC HM;have m0 := cz5 HMC.o
       cases ak with
       | false =>
        have hR0 : R = false := by rw [HR.o]; simp
        subst hR0;go_wp2_with fail;go_ret;exact ⟨rfl, HB.o.trans HLC.o⟩
       | true =>
        go_wp2_with fail;refine (Zeo aK _ F _ (HK.o.later Zc HLC.o)).mono ?_;rw [Hdi.o];rintro e w7 ⟨rfl, hcl⟩;clear HMC m0;replace HLC := zh (HLC.o.trans hcl);clear hcl;have hR0 : R = di := by rw [HR.o]; simp
        subst hR0;go_wp2_with fail;go_ret;exact ⟨rfl, HB.o.trans HLC.o⟩
theorem Zq4 (r : Zf) (B : Nat) (cs : List Value) (F : Nat → Prop) (w : World) (tag aI : Int) (aJ aK : List Ze) (vi vk : Value) (h : Z1 F w B r cs) (hi : Zp Zd 6 F w aJ vi) (hk : Zp Zd 6 F w aK vk) (hkz : aK.length ≤ 1048576) :
  Calls Tryz.prog 100 #[.pointer (some ⟨B, 0, none⟩), .agg #[.int .i64 4, .int .i64 tag, .int .i64 aI, vi, vk]] w fun e w' => e = .returned (.bool (Zaa r ⟨4, tag, aI, aJ, aK⟩)) ∧ Below w.heap.size w w' := by
 obtain ⟨R, hR⟩ : ∃ R, Zaa r ⟨4, tag, aI, aJ, aK⟩ = R := ⟨_, rfl⟩;rw [hR];have HR0 := zh hR;clear hR;obtain ⟨Ai, ci, rfl, hci, hcmi, _⟩ := id hi;obtain ⟨Ak, ck, rfl, hck, hcmk, _⟩ := id hk;unfold maxLen at hcmi hcmk;have hl1 := (Za.refl w).alloc (.cells #[.int .i64 4, .int .i64 tag, .int .i64 aI, .slice Ai aJ.length ci, .slice Ak aK.length ck] 94);have HS := zh (h.later hl1);have HI := zh (hi.later Zc hl1);have HK := zh (hk.later Zc hl1);have HM := zh (heap_alloc_new w (.cells #[.int .i64 4, .int .i64 tag, .int .i64 aI, .slice Ai aJ.length ci, .slice Ak aK.length ck] 94));have HB := zh hl1;obtain ⟨w1, hw1⟩ : ∃ x, x = w.alloc (.cells #[.int .i64 4, .int .i64 tag, .int .i64 aI, .slice Ai aJ.length ci, .slice Ak aK.length ck] 94) := ⟨_, rfl⟩;rw [← hw1] at HS HI HK HM HB;have HLC := zh (Za.refl w1);clear h hi hk hl1;obtain ⟨s1, hs1⟩ : ∃ q, (decide (1 ≤ aI)) = q := ⟨_, rfl⟩;have W0s1 : (decide (aI < 1)) = !s1 := by rw [← hs1]; exact (by rw [Bool.eq_iff_iff]; simp only [nJ, nK, nL, ne_eq, nM, nI, nH] <;> omega)
 obtain ⟨s2, hs2⟩ : ∃ q, (decide (aI ≤ r.made)) = q := ⟨_, rfl⟩;have W0s2 : (decide (r.made < aI)) = !s2 := by rw [← hs2]; exact (by rw [Bool.eq_iff_iff]; simp only [nJ, nK, nL, ne_eq, nM, nI, nH] <;> omega)
 obtain ⟨tg, htg⟩ : ∃ q, (tag == 0) = q := ⟨_, rfl⟩;have W0tg : (tag != 0) = !tg := by rw [← htg]; exact (by rw [Bool.eq_iff_iff]; simp only [nJ, nK, nL, ne_eq, nM, nI, nH] <;> omega)
 have W1tg : (tag == 0) = tg := htg;obtain ⟨b1, hb1⟩ : ∃ q, (decide (aK.length ≤ 40)) = q := ⟨_, rfl⟩;have W0b1 : (decide ((aK.length : Int) ≤ 40)) = b1 := by rw [← hb1]; exact (by rw [Bool.eq_iff_iff]; simp only [nJ, nK, nL, ne_eq, nM, nI, nH] <;> omega)
 obtain ⟨b2, hb2⟩ : ∃ q, (decide (aJ.length = 0)) = q := ⟨_, rfl⟩;have W0b2 : ((aJ.length : Int) == 0) = b2 := by rw [← hb2]; exact (by rw [Bool.eq_iff_iff]; simp only [nJ, nK, nL, ne_eq, nM, nI, nH] <;> omega)
 obtain ⟨ak, hak⟩ : ∃ q, (Zaf r aK) = q := ⟨_, rfl⟩;obtain ⟨di, hdi⟩ : ∃ q, (Zbg aK) = q := ⟨_, rfl⟩;have HR := zh (show R = ((s1 && s2) && (tg && (b1 && (b2 && (ak && (di)))))) by rw [← HR0.o, ← hs1, ← hs2, ← htg, ← hb1, ← hb2, ← hak, ← hdi]; try rfl);have Hs1 := zh hs1;clear hs1;have Hs2 := zh hs2;clear hs2;have Htg := zh htg;clear htg;have Hb1 := zh hb1;clear hb1;have Hb2 := zh hb2;clear hb2;have Hak := zh hak;clear hak;have Hdi := zh hdi;clear hdi;go_enter Tryz.func100, Tryz.ntmps100;go_upto_region 2 with (fail);rw [← hw1];clear hw1
 cases s1 with
 | false =>
  simp only [Bool.not_false] at W0s1;refine Zu (fun W hW => ?_);have hWL : Za w1 W := by rw [hW]; exact (Za.refl _).drew
  clear hW;replace HLC := zh (HLC.o.trans hWL);clear hWL;have HMC := zB HLC HM;have m0 := cz5 HMC.o;have y12 := (HS.o.later HLC.o).made_;have hMB := Zb HMC.o;have hSB := (HS.o.later HLC.o).lt
  repeat go_big_quiet_step (fail)
  refine wpQuiet_nil ?_;have hR0 : R = false := by rw [HR.o]; simp
  subst hR0;go_wp2_with fail;go_ret;exact ⟨rfl, HB.o.trans HLC.o⟩
 | true =>
  simp only [Bool.not_true] at W0s1
  cases s2 with
  | false =>
   simp only [Bool.not_false] at W0s2;refine Zu (fun W hW => ?_);have hWL : Za w1 W := by rw [hW]; exact (Za.refl _).drew
   clear hW;replace HLC := zh (HLC.o.trans hWL);clear hWL;have HMC := zB HLC HM;have m0 := cz5 HMC.o;have y12 := (HS.o.later HLC.o).made_;have hMB := Zb HMC.o;have hSB := (HS.o.later HLC.o).lt
   repeat go_big_quiet_step (fail)
   refine wpQuiet_nil ?_;have hR0 : R = false := by rw [HR.o]; simp
   subst hR0;go_wp2_with fail;go_ret;exact ⟨rfl, HB.o.trans HLC.o⟩
  | true =>
   simp only [Bool.not_true] at W0s2;refine Zu (fun V hV => ?_);have hVL : Za w1 V := by rw [hV]; exact (Za.refl _).drew
   clear hV;replace HLC := zh (HLC.o.trans hVL);clear hVL;have HMC := zB HLC HM;have m0 := cz5 HMC.o;have y12 := (HS.o.later HLC.o).made_;have hMB := Zb HMC.o;have hSB := (HS.o.later HLC.o).lt
   repeat go_big_quiet_step (fail)
   refine wpQuiet_nil ?_;clear y12 hMB hSB
   cases tg with
   | false =>
    simp only [Bool.not_false] at W0tg;have hR0 : R = false := by rw [HR.o]; simp
    subst hR0;go_wp2_with fail;go_ret;exact ⟨rfl, HB.o.trans HLC.o⟩
   | true =>
    simp only [Bool.not_true] at W0tg
    cases b1 with
    | false =>
     have hR0 : R = false := by rw [HR.o]; simp
     subst hR0;go_wp2_with fail;go_ret;exact ⟨rfl, HB.o.trans HLC.o⟩
    | true =>
     cases b2 with
     | false =>
      have hR0 : R = false := by rw [HR.o]; simp
      subst hR0;go_wp2_with fail;go_ret;exact ⟨rfl, HB.o.trans HLC.o⟩
     | true =>
      go_wp2_with fail;refine (Zbn r B cs F _ aK _ (HS.o.later HLC.o) (HK.o.later Zc HLC.o)).mono ?_;rw [Hak.o];rintro e w6 ⟨rfl, hcl⟩;clear HMC m0;replace HLC := zh (HLC.o.trans hcl);clear hcl;have HMC := zB HLC HM;have m0 := cz5 HMC.o
      cases ak with
      | false =>
       have hR0 : R = false := by rw [HR.o]; simp
       subst hR0;go_wp2_with fail;go_ret;exact ⟨rfl, HB.o.trans HLC.o⟩
      | true =>
       go_wp2_with fail;refine (Zeo aK _ F _ (HK.o.later Zc HLC.o)).mono ?_;rw [Hdi.o];rintro e w7 ⟨rfl, hcl⟩;clear HMC m0;replace HLC := zh (HLC.o.trans hcl);clear hcl;have hR0 : R = di := by rw [HR.o]; simp
       subst hR0;go_wp2_with fail;go_ret;exact ⟨rfl, HB.o.trans HLC.o⟩
theorem Zq5 (r : Zf) (B : Nat) (cs : List Value) (F : Nat → Prop) (w : World) (tag aI : Int) (aJ aK : List Ze) (vi vk : Value) (h : Z1 F w B r cs) (hi : Zp Zd 6 F w aJ vi) (hk : Zp Zd 6 F w aK vk) (hkz : aK.length ≤ 1048576) :
  Calls Tryz.prog 100 #[.pointer (some ⟨B, 0, none⟩), .agg #[.int .i64 7, .int .i64 tag, .int .i64 aI, vi, vk]] w fun e w' => e = .returned (.bool (Zaa r ⟨7, tag, aI, aJ, aK⟩)) ∧ Below w.heap.size w w' := by
 obtain ⟨R, hR⟩ : ∃ R, Zaa r ⟨7, tag, aI, aJ, aK⟩ = R := ⟨_, rfl⟩;rw [hR];have HR0 := zh hR;clear hR;obtain ⟨Ai, ci, rfl, hci, hcmi, _⟩ := id hi;obtain ⟨Ak, ck, rfl, hck, hcmk, _⟩ := id hk;unfold maxLen at hcmi hcmk;have hl1 := (Za.refl w).alloc (.cells #[.int .i64 7, .int .i64 tag, .int .i64 aI, .slice Ai aJ.length ci, .slice Ak aK.length ck] 94);have HS := zh (h.later hl1);have HI := zh (hi.later Zc hl1);have HK := zh (hk.later Zc hl1);have HM := zh (heap_alloc_new w (.cells #[.int .i64 7, .int .i64 tag, .int .i64 aI, .slice Ai aJ.length ci, .slice Ak aK.length ck] 94));have HB := zh hl1;obtain ⟨w1, hw1⟩ : ∃ x, x = w.alloc (.cells #[.int .i64 7, .int .i64 tag, .int .i64 aI, .slice Ai aJ.length ci, .slice Ak aK.length ck] 94) := ⟨_, rfl⟩;rw [← hw1] at HS HI HK HM HB;have HLC := zh (Za.refl w1);clear h hi hk hl1;obtain ⟨s1, hs1⟩ : ∃ q, (decide (1 ≤ aI)) = q := ⟨_, rfl⟩;have W0s1 : (decide (aI < 1)) = !s1 := by rw [← hs1]; exact (by rw [Bool.eq_iff_iff]; simp only [nJ, nK, nL, ne_eq, nM, nI, nH] <;> omega)
 obtain ⟨s2, hs2⟩ : ∃ q, (decide (aI ≤ r.made)) = q := ⟨_, rfl⟩;have W0s2 : (decide (r.made < aI)) = !s2 := by rw [← hs2]; exact (by rw [Bool.eq_iff_iff]; simp only [nJ, nK, nL, ne_eq, nM, nI, nH] <;> omega)
 obtain ⟨ky, hky⟩ : ∃ q, (decide (aK.length = 0)) = q := ⟨_, rfl⟩;have W0ky : ((aK.length : Int) != 0) = !ky := by rw [← hky]; exact (by rw [Bool.eq_iff_iff]; simp only [nJ, nK, nL, ne_eq, nM, nI, nH] <;> omega)
 have W1ky : ((aK.length : Int) == 0) = ky := by rw [← hky]; exact (by rw [Bool.eq_iff_iff]; simp only [nJ, nK, nL, ne_eq, nM, nI, nH] <;> omega)
 obtain ⟨pa, hpa⟩ : ∃ q, (Z6 r tag aJ) = q := ⟨_, rfl⟩;have HR := zh (show R = ((s1 && s2) && (ky && (pa))) by rw [← HR0.o, ← hs1, ← hs2, ← hky, ← hpa]; try rfl);have Hs1 := zh hs1;clear hs1;have Hs2 := zh hs2;clear hs2;have Hky := zh hky;clear hky;have Hpa := zh hpa;clear hpa;go_enter Tryz.func100, Tryz.ntmps100;go_upto_region 2 with (fail);rw [← hw1];clear hw1
 cases s1 with
 | false =>
  simp only [Bool.not_false] at W0s1;refine Zu (fun W hW => ?_);have hWL : Za w1 W := by rw [hW]; exact (Za.refl _).drew
  clear hW;replace HLC := zh (HLC.o.trans hWL);clear hWL;have HMC := zB HLC HM;have m0 := cz5 HMC.o;have y12 := (HS.o.later HLC.o).made_;have hMB := Zb HMC.o;have hSB := (HS.o.later HLC.o).lt
  repeat go_big_quiet_step (fail)
  refine wpQuiet_nil ?_;have hR0 : R = false := by rw [HR.o]; simp
  subst hR0;go_wp2_with fail;go_ret;exact ⟨rfl, HB.o.trans HLC.o⟩
 | true =>
  simp only [Bool.not_true] at W0s1
  cases s2 with
  | false =>
   simp only [Bool.not_false] at W0s2;refine Zu (fun W hW => ?_);have hWL : Za w1 W := by rw [hW]; exact (Za.refl _).drew
   clear hW;replace HLC := zh (HLC.o.trans hWL);clear hWL;have HMC := zB HLC HM;have m0 := cz5 HMC.o;have y12 := (HS.o.later HLC.o).made_;have hMB := Zb HMC.o;have hSB := (HS.o.later HLC.o).lt
   repeat go_big_quiet_step (fail)
   refine wpQuiet_nil ?_;have hR0 : R = false := by rw [HR.o]; simp
   subst hR0;go_wp2_with fail;go_ret;exact ⟨rfl, HB.o.trans HLC.o⟩
  | true =>
   simp only [Bool.not_true] at W0s2;refine Zu (fun V hV => ?_);have hVL : Za w1 V := by rw [hV]; exact (Za.refl _).drew
   clear hV;replace HLC := zh (HLC.o.trans hVL);clear hVL;have HMC := zB HLC HM;have m0 := cz5 HMC.o;have y12 := (HS.o.later HLC.o).made_;have hMB := Zb HMC.o;have hSB := (HS.o.later HLC.o).lt
   repeat go_big_quiet_step (fail)
   refine wpQuiet_nil ?_;clear y12 hMB hSB
   cases ky with
   | false =>
    simp only [Bool.not_false] at W0ky;have hR0 : R = false := by rw [HR.o]; simp
    subst hR0;go_wp2_with fail;go_ret;exact ⟨rfl, HB.o.trans HLC.o⟩
   | true =>
    simp only [Bool.not_true] at W0ky;go_wp2_with fail;refine (Zit r B cs F _ 7 tag aI aJ _ _ (HS.o.later HLC.o) (HI.o.later Zc HLC.o)).mono ?_;rw [Hpa.o];rintro e w5 ⟨rfl, hcl⟩;clear HMC m0;replace HLC := zh (HLC.o.trans hcl);clear hcl;have hR0 : R = pa := by rw [HR.o]; simp
    subst hR0;go_wp2_with fail;go_ret;exact ⟨rfl, HB.o.trans HLC.o⟩
theorem Zq6 (r : Zf) (B : Nat) (cs : List Value) (F : Nat → Prop) (w : World) (tag aI : Int) (aJ aK : List Ze) (vi vk : Value) (h : Z1 F w B r cs) (hi : Zp Zd 6 F w aJ vi) (hk : Zp Zd 6 F w aK vk) (hkz : aK.length ≤ 1048576) :
  Calls Tryz.prog 100 #[.pointer (some ⟨B, 0, none⟩), .agg #[.int .i64 6, .int .i64 tag, .int .i64 aI, vi, vk]] w fun e w' => e = .returned (.bool (Zaa r ⟨6, tag, aI, aJ, aK⟩)) ∧ Below w.heap.size w w' := by
 obtain ⟨R, hR⟩ : ∃ R, Zaa r ⟨6, tag, aI, aJ, aK⟩ = R := ⟨_, rfl⟩;rw [hR];have HR0 := zh hR;clear hR;obtain ⟨Ai, ci, rfl, hci, hcmi, _⟩ := id hi;obtain ⟨Ak, ck, rfl, hck, hcmk, _⟩ := id hk;unfold maxLen at hcmi hcmk;have hl1 := (Za.refl w).alloc (.cells #[.int .i64 6, .int .i64 tag, .int .i64 aI, .slice Ai aJ.length ci, .slice Ak aK.length ck] 94);have HS := zh (h.later hl1);have HI := zh (hi.later Zc hl1);have HK := zh (hk.later Zc hl1);have HM := zh (heap_alloc_new w (.cells #[.int .i64 6, .int .i64 tag, .int .i64 aI, .slice Ai aJ.length ci, .slice Ak aK.length ck] 94));have HB := zh hl1;obtain ⟨w1, hw1⟩ : ∃ x, x = w.alloc (.cells #[.int .i64 6, .int .i64 tag, .int .i64 aI, .slice Ai aJ.length ci, .slice Ak aK.length ck] 94) := ⟨_, rfl⟩;rw [← hw1] at HS HI HK HM HB;have HLC := zh (Za.refl w1);clear h hi hk hl1;obtain ⟨s1, hs1⟩ : ∃ q, (decide (1 ≤ aI)) = q := ⟨_, rfl⟩;have W0s1 : (decide (aI < 1)) = !s1 := by rw [← hs1]; exact (by rw [Bool.eq_iff_iff]; simp only [nJ, nK, nL, ne_eq, nM, nI, nH] <;> omega)
 obtain ⟨s2, hs2⟩ : ∃ q, (decide (aI ≤ r.made)) = q := ⟨_, rfl⟩;have W0s2 : (decide (r.made < aI)) = !s2 := by rw [← hs2]; exact (by rw [Bool.eq_iff_iff]; simp only [nJ, nK, nL, ne_eq, nM, nI, nH] <;> omega)
 obtain ⟨ky, hky⟩ : ∃ q, (decide (aK.length = 0)) = q := ⟨_, rfl⟩;have W0ky : ((aK.length : Int) != 0) = !ky := by rw [← hky]; exact (by rw [Bool.eq_iff_iff]; simp only [nJ, nK, nL, ne_eq, nM, nI, nH] <;> omega)
 have W1ky : ((aK.length : Int) == 0) = ky := by rw [← hky]; exact (by rw [Bool.eq_iff_iff]; simp only [nJ, nK, nL, ne_eq, nM, nI, nH] <;> omega)
 obtain ⟨t1, ht1⟩ : ∃ q, (decide (1 ≤ tag)) = q := ⟨_, rfl⟩;have W0t1 : (decide (1 ≤ tag)) = t1 := ht1;obtain ⟨b1, hb1⟩ : ∃ q, (decide (aJ.length = 3)) = q := ⟨_, rfl⟩;have W0b1 : ((aJ.length : Int) == 3) = b1 := by rw [← hb1]; exact (by rw [Bool.eq_iff_iff]; simp only [nJ, nK, nL, ne_eq, nM, nI, nH] <;> omega)
 obtain ⟨X, hX⟩ : ∃ X, Z9 r ⟨6, tag, aI, aJ, aK⟩ = X := ⟨_, rfl⟩;have HR := zh (show R = ((s1 && s2) && (ky && (X))) by rw [← HR0.o, ← hs1, ← hs2, ← hky, ← hX]; try rfl);have Hs1 := zh hs1;clear hs1;have Hs2 := zh hs2;clear hs2;have Hky := zh hky;clear hky;have Ht1 := zh ht1;clear ht1;have Hb1 := zh hb1;clear hb1;have HX := zh hX;clear hX;go_enter Tryz.func100, Tryz.ntmps100;go_upto_region 2 with (fail);rw [← hw1];clear hw1
 cases s1 with
 | false =>
  simp only [Bool.not_false] at W0s1;refine Zu (fun W hW => ?_);have hWL : Za w1 W := by rw [hW]; exact (Za.refl _).drew
  clear hW;replace HLC := zh (HLC.o.trans hWL);clear hWL;have HMC := zB HLC HM;have m0 := cz5 HMC.o;have y12 := (HS.o.later HLC.o).made_;have hMB := Zb HMC.o;have hSB := (HS.o.later HLC.o).lt
  repeat go_big_quiet_step (fail)
  refine wpQuiet_nil ?_;have hR0 : R = false := by rw [HR.o]; simp
  subst hR0;go_wp2_with fail;go_ret;exact ⟨rfl, HB.o.trans HLC.o⟩
 | true =>
  simp only [Bool.not_true] at W0s1
  cases s2 with
  | false =>
   simp only [Bool.not_false] at W0s2;refine Zu (fun W hW => ?_);have hWL : Za w1 W := by rw [hW]; exact (Za.refl _).drew
   clear hW;replace HLC := zh (HLC.o.trans hWL);clear hWL;have HMC := zB HLC HM;have m0 := cz5 HMC.o;have y12 := (HS.o.later HLC.o).made_;have hMB := Zb HMC.o;have hSB := (HS.o.later HLC.o).lt
   repeat go_big_quiet_step (fail)
   refine wpQuiet_nil ?_;have hR0 : R = false := by rw [HR.o]; simp
   subst hR0;go_wp2_with fail;go_ret;exact ⟨rfl, HB.o.trans HLC.o⟩
  | true =>
   simp only [Bool.not_true] at W0s2;refine Zu (fun V hV => ?_);have hVL : Za w1 V := by rw [hV]; exact (Za.refl _).drew
   clear hV;replace HLC := zh (HLC.o.trans hVL);clear hVL;have HMC := zB HLC HM;have m0 := cz5 HMC.o;have y12 := (HS.o.later HLC.o).made_;have hMB := Zb HMC.o;have hSB := (HS.o.later HLC.o).lt
   repeat go_big_quiet_step (fail)
   refine wpQuiet_nil ?_;clear y12 hMB hSB
   cases ky with
   | false =>
    simp only [Bool.not_false] at W0ky;have hR0 : R = false := by rw [HR.o]; simp
    subst hR0;go_wp2_with fail;go_ret;exact ⟨rfl, HB.o.trans HLC.o⟩
   | true =>
    simp only [Bool.not_true] at W0ky;go_upto_region 20 with (fail);simp only [List.append_eq, List.cons_append, List.nil_append]
    cases t1 with
    | false =>
     have hX0 : X = false := by rw [← HX.o]; have := of_decide_eq_false Ht1.o; simp [Z9, this]
     have hR0 : R = false := by rw [HR.o, hX0]; simp
     subst hR0;go_wp2_with fail;go_ret;exact ⟨rfl, HB.o.trans HLC.o⟩
    | true =>
     cases b1 with
     | false =>
      have hX0 : X = false := by
       rw [← HX.o]
       match aJ, of_decide_eq_false Hb1.o with
       | [], _ => first | rfl | simp [Z9]
       | [_], _ => first | rfl | simp [Z9]
       | [_, _], _ => first | rfl | simp [Z9]
       | _ :: _ :: _ :: _ :: _, _ => first | rfl | simp [Z9]
       | [_, _, _], h => exact absurd rfl h
      have hR0 : R = false := by rw [HR.o, hX0]; simp
      subst hR0;go_wp2_with fail;go_ret;exact ⟨rfl, HB.o.trans HLC.o⟩
     | true =>
      have hlen : aJ.length = 3 := of_decide_eq_true Hb1.o;clear W0b1 Hb1;obtain ⟨a, b, c, rfl⟩ : ∃ a b c, aJ = [a, b, c] := by
       match aJ, hlen with
       | [a0, b0, c0], _ => exact ⟨a0, b0, c0, rfl⟩
      clear hlen;obtain ⟨b0, o0, e0, hb0, hat0, hel0⟩ := (HI.o.later Zc HLC.o).vat (j := 0) (by simp);cases e0;simp only [List.getElem_cons_succ, List.getElem_cons_zero, Nat.reduceMul, Nat.add_zero] at hat0 hel0;obtain ⟨i00, i01, i02, i03, i04, i05⟩ := hat0;obtain ⟨b1, o1, e1, hb1, hat1, hel1⟩ := (HI.o.later Zc HLC.o).vat (j := 1) (by simp);cases e1;simp only [List.getElem_cons_succ, List.getElem_cons_zero, Nat.reduceMul, Nat.add_zero] at hat1 hel1;obtain ⟨i10, i11, i12, i13, i14, i15⟩ := hat1;obtain ⟨b2, o2, e2, hb2, hat2, hel2⟩ := (HI.o.later Zc HLC.o).vat (j := 2) (by simp);cases e2;simp only [List.getElem_cons_succ, List.getElem_cons_zero, Nat.reduceMul, Nat.add_zero] at hat2 hel2;obtain ⟨i20, i21, i22, i23, i24, i25⟩ := hat2;obtain ⟨k0, hk0⟩ : ∃ q, (a.kind == 19) = q := ⟨_, rfl⟩;have W0k0 : (a.kind == 19) = k0 := hk0;obtain ⟨k1, hk1⟩ : ∃ q, (b.kind == 19) = q := ⟨_, rfl⟩;have W0k1 : (b.kind == 19) = k1 := hk1;obtain ⟨k2, hk2⟩ : ∃ q, (c.kind == 1) = q := ⟨_, rfl⟩;have W0k2 : (c.kind == 1) = k2 := hk2;obtain ⟨nn, hnn⟩ : ∃ q, (decide (0 ≤ c.aH)) = q := ⟨_, rfl⟩;have W0nn : (decide (0 ≤ c.aH)) = nn := hnn;obtain ⟨q0, hq0⟩ : ∃ q, (Zi r a) = q := ⟨_, rfl⟩;obtain ⟨q1, hq1⟩ : ∃ q, (Zi r b) = q := ⟨_, rfl⟩;obtain ⟨q2, hq2⟩ : ∃ q, (Zi r c) = q := ⟨_, rfl⟩;replace HR := zh (show R = ((true && true) && (true && (true && (k0 && (q0 && (k1 && (q1 && (k2 && (q2 && (nn)))))))))) by rw [HR.o, ← HX.o, ← hk0, ← hq0, ← hk1, ← hq1, ← hk2, ← hq2, ← hnn]; have := of_decide_eq_true Ht1.o; simp [Z9, this])
      have Hk0 := zh hk0;clear hk0;have Hk1 := zh hk1;clear hk1;have Hk2 := zh hk2;clear hk2;have Hnn := zh hnn;clear hnn;have Hq0 := zh hq0;clear hq0;have Hq1 := zh hq1;clear hq1;have Hq2 := zh hq2;clear hq2
      cases k0 with
      | false =>
       have hR0 : R = false := by rw [HR.o]; simp
       subst hR0;go_wp2_with fail;go_ret;exact ⟨rfl, HB.o.trans HLC.o⟩
      | true =>
       cases k1 with
       | false =>
        have hR0 : R = false := by rw [HR.o]; simp
        subst hR0;go_wp2_with fail;go_ret;exact ⟨rfl, HB.o.trans HLC.o⟩
       | true =>
        cases k2 with
        | false =>
                  have hR0 : R = false := by rw [HR.o]; simp
                  subst hR0;go_wp2_with fail;go_ret;exact ⟨rfl, HB.o.trans HLC.o⟩
        | true =>
                  cases nn with
                  | false =>
                   have hR0 : R = false := by rw [HR.o]; simp
                   subst hR0;go_wp2_with fail;go_ret;exact ⟨rfl, HB.o.trans HLC.o⟩
                  | true =>
                   go_wp2_with fail;refine (Za3 r B cs F _ a _ (HS.o.later HLC.o) hel0).mono ?_;rw [Hq0.o];rintro e w5 ⟨rfl, hcl⟩;clear HMC m0;clear hel0 hb0 i00 i01 i02 i03 i04 i05 hel1 hb1 i10 i11 i12 i13 i14 i15 hel2 hb2 i20 i21 i22 i23 i24 i25;replace HLC := zh (HLC.o.trans hcl);clear hcl;have HMC := zB HLC HM;have m0 := cz5 HMC.o;obtain ⟨b0, o0, e0, hb0, hat0, hel0⟩ := (HI.o.later Zc HLC.o).vat (j := 0) (by simp);cases e0;simp only [List.getElem_cons_succ, List.getElem_cons_zero, Nat.reduceMul, Nat.add_zero] at hat0 hel0;obtain ⟨i00, i01, i02, i03, i04, i05⟩ := hat0;obtain ⟨b1, o1, e1, hb1, hat1, hel1⟩ := (HI.o.later Zc HLC.o).vat (j := 1) (by simp);cases e1;simp only [List.getElem_cons_succ, List.getElem_cons_zero, Nat.reduceMul, Nat.add_zero] at hat1 hel1;obtain ⟨i10, i11, i12, i13, i14, i15⟩ := hat1;obtain ⟨b2, o2, e2, hb2, hat2, hel2⟩ := (HI.o.later Zc HLC.o).vat (j := 2) (by simp);cases e2;simp only [List.getElem_cons_succ, List.getElem_cons_zero, Nat.reduceMul, Nat.add_zero] at hat2 hel2;obtain ⟨i20, i21, i22, i23, i24, i25⟩ := hat2
                   cases q0 with
                   | false =>
                    have hR0 : R = false := by rw [HR.o]; simp
                    subst hR0;go_wp2_with fail;go_ret;exact ⟨rfl, HB.o.trans HLC.o⟩
                   | true =>
                    go_wp2_with fail;refine (Za3 r B cs F _ b _ (HS.o.later HLC.o) hel1).mono ?_;rw [Hq1.o];rintro e w6 ⟨rfl, hcl⟩;clear HMC m0;clear hel0 hb0 i00 i01 i02 i03 i04 i05 hel1 hb1 i10 i11 i12 i13 i14 i15 hel2 hb2 i20 i21 i22 i23 i24 i25;replace HLC := zh (HLC.o.trans hcl);clear hcl;have HMC := zB HLC HM;have m0 := cz5 HMC.o;obtain ⟨b0, o0, e0, hb0, hat0, hel0⟩ := (HI.o.later Zc HLC.o).vat (j := 0) (by simp);cases e0;simp only [List.getElem_cons_succ, List.getElem_cons_zero, Nat.reduceMul, Nat.add_zero] at hat0 hel0;obtain ⟨i00, i01, i02, i03, i04, i05⟩ := hat0;obtain ⟨b1, o1, e1, hb1, hat1, hel1⟩ := (HI.o.later Zc HLC.o).vat (j := 1) (by simp);cases e1;simp only [List.getElem_cons_succ, List.getElem_cons_zero, Nat.reduceMul, Nat.add_zero] at hat1 hel1;obtain ⟨i10, i11, i12, i13, i14, i15⟩ := hat1;obtain ⟨b2, o2, e2, hb2, hat2, hel2⟩ := (HI.o.later Zc HLC.o).vat (j := 2) (by simp);cases e2;simp only [List.getElem_cons_succ, List.getElem_cons_zero, Nat.reduceMul, Nat.add_zero] at hat2 hel2;obtain ⟨i20, i21, i22, i23, i24, i25⟩ := hat2
                    cases q1 with
                    | false =>
                     have hR0 : R = false := by rw [HR.o]; simp
                     subst hR0;go_wp2_with fail;go_ret;exact ⟨rfl, HB.o.trans HLC.o⟩
                    | true =>
                     go_wp2_with fail;refine (Za3 r B cs F _ c _ (HS.o.later HLC.o) hel2).mono ?_;rw [Hq2.o];rintro e w7 ⟨rfl, hcl⟩;clear HMC m0;clear hel0 hb0 i00 i01 i02 i03 i04 i05 hel1 hb1 i10 i11 i12 i13 i14 i15 hel2 hb2 i20 i21 i22 i23 i24 i25;replace HLC := zh (HLC.o.trans hcl);clear hcl;have hR0 : R = q2 := by rw [HR.o]; simp
                     subst hR0;go_wp2_with fail;go_ret;exact ⟨rfl, HB.o.trans HLC.o⟩
end Go.Proofs.YtpmhelkiicigfaaGreatDoor
