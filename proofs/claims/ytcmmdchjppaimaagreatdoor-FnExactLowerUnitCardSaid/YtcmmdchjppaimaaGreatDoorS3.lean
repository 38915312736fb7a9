/- Part of the walks that the claim stands on. -/
import Derived.Test.YtcmmdchjppaimaaGreatDoorS2
import Derived.Test.YtcmmdchjppaimaaGreatDoorS1
import Derived.WalkKit
import Derived.WalkSpells
import Derived.WalkLawsBesides
import Derived.Outline
import Derived.Deep.DeepCutAuto
import Derived.BigQuiet
set_option maxRecDepth 1000000
set_option maxHeartbeats 40000000
namespace Go.Proofs.YtcmmdchjppaimaaGreatDoor
open Go.RowKit
theorem Zfo {x : World} {b : Nat} {v0 v1 : Value} {t : TypeId} (h : x.heap[b]? = some (.cells #[v0, v1] t (0, 0))) : x.cell? ⟨b, 0, none⟩ = some v0 ∧ x.cell? ⟨b, 1, none⟩ = some v1 :=
 ⟨cell_of_row x b 0 _ _ _ h, cell_of_row x b 1 _ _ _ h⟩
theorem Zno {x : World} {b : Nat} {v0 v1 : Value} {t : TypeId} (h : x.heap[b]? = some (.cells #[v0, v1] t (0, 0))) : x.frozen? ⟨b, 0, none⟩ = false ∧ x.frozen? ⟨b, 1, none⟩ = false :=
 ⟨frozen_of_row x b 0 _ _ h, frozen_of_row x b 1 _ _ h⟩
def Zi0 (lo c : Int) : Int := if c < 64 then bits .or .i64 lo (wrap64 (2 ^ c.toNat)) else lo
def Zi1 (hi c : Int) : Int := if c < 64 then hi else bits .or .i64 hi (wrap64 (2 ^ (c - 64).toNat))
theorem Zx6 (lo hi b c : Int) (h0 : 0 ≤ b) (h1 : b ≤ 127) (h2 : 0 ≤ c) (h3 : c ≤ 127) : hb (Zi0 lo c) (Zi1 hi c) b = (hb lo hi b || decide (b = c)) := by
 unfold Zi0 Zi1
 by_cases h : c < 64
 ·rw [if_pos h, if_pos h]; exact Zt0 lo hi b c h0 h1 h2 h
 ·rw [if_neg h, if_neg h]; exact Zt1 lo hi b c h0 h1 (by omega) h3
theorem Zsp (x y b : Int) (w : World) (h0 : 0 ≤ b) (h1 : b < 128) :
  Calls Tryz.prog 160 #[.agg #[.int .i64 x, .int .i64 y], .int .u8 b] w fun e w' => e = .returned (.agg #[.int .i64 (Zi0 x b), .int .i64 (Zi1 y b)]) ∧ Below w.heap.size w w' := by
 by_cases h2 : b < 64
 ·have t1 : decide (63 < b) = false := by simp; omega
  have HL := zh (show Zi0 x b = _ from if_pos h2);have HH := zh (show Zi1 y b = _ from if_pos h2);go_enter Tryz.func160, Tryz.ntmps160;go_wp2_with fail;exact bodyPost_ret (v := .agg #[.int .i64 (bits .or .i64 x (wrap64 (2 ^ b.toNat))), .int .i64 y]) (by simp [results, Tryz.results160, go_sem]) rfl ⟨by rw [HL.o, HH.o], ((Below.refl _ _).alloc (Nat.le_refl _) _).alloc (by simp) _⟩
 ·have t1 : decide (63 < b) = true := by simp; omega
  have HL := zh (show Zi0 x b = _ from if_neg h2);have HH := zh (show Zi1 y b = _ from if_neg h2);go_enter Tryz.func160, Tryz.ntmps160;go_wp2_with fail;exact bodyPost_ret (v := .agg #[.int .i64 x, .int .i64 (bits .or .i64 y (wrap64 (2 ^ (b - 64).toNat)))]) (by simp [results, Tryz.results160, go_sem]) rfl ⟨by rw [HL.o, HH.o], ((Below.refl _ _).alloc (Nat.le_refl _) _).alloc (by simp) _⟩
def Zke (s : ByteArray) (j : Nat) (lo hi : Int) : Prop := (∀ k (h : k < s.size), k < j → s[k].toNat ≤ 127) ∧ ∀ b : Nat, b ≤ 127 → (hb lo hi (b : Int) = true ↔ ∃ k, ∃ h : k < s.size, k < j ∧ s[k].toNat = b)
theorem Zke.next {s : ByteArray} {j : Nat} {lo hi c : Int} (h : Zke s j lo hi) (hj : j < s.size) (hc : (s[j].toNat : Int) = c) (h7 : ¬ 127 < c) : Zke s (j + 1) (Zi0 lo c) (Zi1 hi c) := by
 refine ⟨fun k hk hkj => ?_, fun b hb7 => ?_⟩
 ·rcases Nat.lt_or_ge k j with h1 | h1
  ·exact h.1 k hk h1
  ·obtain rfl : k = j := by omega
   omega
 ·rw [Zx6 _ _ _ _ (by omega) (by omega) (by omega) (by omega), Bool.or_eq_true, h.2 b hb7, nJ]
  constructor
  ·rintro (⟨k, hk, h1, h2⟩ | h1)
   ·exact ⟨k, hk, by omega, h2⟩
   ·exact ⟨j, hj, by omega, by omega⟩
  ·rintro ⟨k, hk, h1, h2⟩
   rcases Nat.lt_or_ge k j with h3 | h3
   ·exact .inl ⟨k, hk, h3, h2⟩
   ·obtain rfl : k = j := by omega
    exact .inr (by omega)
theorem Zke.all {s : ByteArray} {lo hi : Int} (h : Zke s s.size lo hi) : (∀ x ∈ bl s, x.toNat ≤ 127) ∧ ∀ b : Nat, b ≤ 127 → (hb lo hi (b : Int) = true ↔ UInt8.ofNat b ∈ bl s) := by
 refine ⟨fun x hx => ?_, fun b hb7 => ?_⟩
 ·obtain ⟨k, hk, rfl⟩ := List.getElem_of_mem hx;rw [Zfn] at hk;rw [Zf0 s k hk];exact h.1 k hk hk
 ·rw [h.2 b hb7]
  constructor
  ·rintro ⟨k, hk, _, h2⟩;have : UInt8.ofNat b = (bl s)[k]'(by rw [Zfn]; exact hk) := by rw [Zf0 s k hk, ← h2, UInt8.ofNat_toNat]
   rw [this];exact List.getElem_mem _
  ·intro hm;obtain ⟨k, hk, e⟩ := List.getElem_of_mem hm;rw [Zfn] at hk;rw [Zf0 s k hk] at e;refine ⟨k, hk, hk, ?_⟩;rw [e, UInt8.toNat_ofNat', Nat.mod_eq_of_lt (by omega)]
theorem Zkr (s : ByteArray) (w : World) (hs : s.size ≤ maxLen) :
  Calls Tryz.prog 125 #[.string s] w fun e w' => (∃ lo hi, ∃ ok : Bool, e = .returned (.tuple #[.agg #[.int .i64 lo, .int .i64 hi], .bool ok]) ∧ (ok = true → (∀ x ∈ bl s, x.toNat ≤ 127) ∧ ∀ b : Nat, b ≤ 127 → (hb lo hi (b : Int) = true ↔ UInt8.ofNat b ∈ bl s)) ∧ (ok = false → ∃ x ∈ bl s, 127 < x.toNat)) ∧ Below w.heap.size w w' := by
 unfold maxLen at hs;have HA := zh (Zb.refl (w.alloc (.cells #[.int .i64 0, .int .i64 0] 180)) |>.alloc (.cells #[.int .i64 0, .int .i64 0] 180) |>.block _ (by simp) |>.trans (heap_alloc_new w (.cells #[.int .i64 0, .int .i64 0] 180)));have HB0 := zh (heap_alloc_new (w.alloc (.cells #[.int .i64 0, .int .i64 0] 180)) (.cells #[.int .i64 0, .int .i64 0] 180));have HS0 : Hd (Zke s 0 0 0) := zh ⟨fun k _ h => by omega, fun b h => ⟨fun h1 => (by rw [Zt2 _ (by omega) (by omega)] at h1; cases h1), fun h1 => (by obtain ⟨k, _, h2, _⟩ := h1; omega)⟩⟩;go_enter Tryz.func125, Tryz.ntmps125;go_wp2_with fail
 go_loopw [5] (fun i wr => ∃ (j : Nat) (lo hi : Int), i = .int .i64 j ∧ j ≤ s.size ∧ Hd (Zke s j lo hi) ∧ Hd (wr.heap[w.heap.size + 1]? = some (.cells #[.int .i64 lo, .int .i64 hi] 180 (0, 0))) ∧ Hd (wr.heap[w.heap.size]? = some (.cells #[.int .i64 0, .int .i64 0] 180 (0, 0))) ∧ Below w.heap.size w wr) (fun i _ => s.size - (intOf i).toNat)
 case atStart => exact ⟨0, 0, 0, rfl, Nat.zero_le _, HS0, zh (by simpa using HB0.o), HA, ((Below.refl _ _).alloc (Nat.le_refl _) _).alloc (by simp) _⟩
 case round =>
  obtain ⟨j, lo, hi, rfl, hj, HS, HB, HZ, hbel⟩ := hrel;have hlr : w.heap.size + 1 < wr.heap.size := (Array.getElem?_eq_some_iff.1 HB.o).1
  by_cases hlt : j < s.size
  ·have t1 : decide ((j : Int) < s.size) = true := nT (by omega);have hlt' : (j : Int) < s.size := by omega
   obtain ⟨c, hc⟩ : ∃ c : Int, (s[j].toNat : Int) = c := ⟨_, rfl⟩
   by_cases h7 : 127 < c
   ·have HX := zh (show ∃ x ∈ bl s, 127 < x.toNat from ⟨s[j], by rw [← Zf0 s j hlt]; exact List.getElem_mem _, by omega⟩);have t2 : decide ((127 : Int) < c) = true := nT h7;obtain ⟨r0, r1⟩ := Zfo HZ.o;obtain ⟨f0, f1⟩ := Zno HZ.o;have HBL := zh hbel;clear hbel;go_wp2_with fail;refine bodyPost_ret (v := .tuple #[.agg #[.int .i64 0, .int .i64 0], .bool false]) (by simp [results, Tryz.results125, go_sem, r0, r1, f0, f1]) rfl ⟨⟨0, 0, false, rfl, fun h => (by cases h), fun _ => HX.o⟩, (HBL.o.setCell (Nat.le_refl _) _).setCell (Nat.le_refl _) _⟩
   ·have t2 : decide ((127 : Int) < c) = false := nU h7;have hc0 : 0 ≤ c := by omega
    have hc1 : c < 128 := by omega
    have HS2 := zh (HS.o.next hlt hc h7);clear h7;go_upto_region 7 with (fail);refine Zx [4, 5] [] (by kernel_rfl) (fun W hW => ?_);have hWL : Zb wr W := by rw [hW]; exact (Zb.refl _).drew
    have HC := zh ((hWL.block _ hlr).trans HB.o);have hlW : w.heap.size + 1 < W.heap.size := Nat.lt_of_lt_of_le hlr hWL.size;clear hW;refine uU 0 18 (hy := fun x hx => by obtain ⟨c0, c1⟩ := Zfo ((hx.block _ hlW).trans HC.o); go_simp <;> first | with_reducible rfl | rw [if_neg (by omega)] | rw [if_pos (by omega)]) ?_;simp only [yN];refine uU 1 19 ?_;simp only [yN];refine uU 2 20 ?_;simp only [yN];refine uU 3 21 ?_;simp only [yN];refine Z6 [_, _] (by kernel_rfl) rfl rfl ?_;simp only [gA, gB, gC];have HAD := zh (Zsp lo hi c W hc0 hc1);have HBW := zh (hbel.trans (Below.mono hWL hbel.size));have HZW := zh ((hWL.block _ (by omega)).trans HZ.o);clear hbel hWL HB HZ;go_wp2_with fail;refine HAD.o.mono ?_;rintro e w2 ⟨rfl, hb2⟩;have hb := (Below.block hb2 _ hlW).trans HC.o;have hz := (Below.block hb2 _ (by omega)).trans HZW.o;have HB3 := zh (HBW.o.trans (Below.mono hb2 HBW.o.size));obtain ⟨c0, c1⟩ := Zfo hb;obtain ⟨f0, f1⟩ := Zno hb;have HN := zh (Z0 (o := 1) (Z0 (o := 0) hb (.int .i64 (Zi0 lo c))) (.int .i64 (Zi1 hi c)));have HZ3 := zh ((Below.heap_setCell _ ⟨w.heap.size + 1, 1, none⟩ (.int .i64 (Zi1 hi c)) w.heap.size (by simp)).trans ((Below.heap_setCell _ ⟨w.heap.size + 1, 0, none⟩ (.int .i64 (Zi0 lo c)) w.heap.size (by simp)).trans hz));clear hb hz hb2;go_wp2_with fail;clear c0 c1 f0 f1
    go_roundw
    case rel => exact ⟨j + 1, Zi0 lo c, Zi1 hi c, by go_num, by omega, HS2, zh HN.o, HZ3, (HB3.o.setCell (by simp) _).setCell (by simp) _⟩
    case measure => simp [intOf]; omega
  ·have t1 : decide ((j : Int) < s.size) = false := nU (by omega);have hjs : j = s.size := by omega
   have HALL := zh (Zke.all (by rw [← hjs]; exact HS.o));obtain ⟨c0, c1⟩ := Zfo HB.o;obtain ⟨r0, r1⟩ := Zfo HZ.o;obtain ⟨f0, f1⟩ := Zno HZ.o;have HBL := zh hbel;have hne : ¬ w.heap.size + 1 = w.heap.size := by omega
   clear hbel;go_wp2_with fail;refine bodyPost_ret (v := .tuple #[.agg #[.int .i64 lo, .int .i64 hi], .bool true]) (by simp [results, Tryz.results125, go_sem, c0, c1, r0, r1, f0, f1]) rfl ⟨⟨lo, hi, true, rfl, fun _ => HALL.o, fun h => (by cases h)⟩, (HBL.o.setCell (Nat.le_refl _) _).setCell (Nat.le_refl _) _⟩
theorem Zjr (lo hi : Int) (w : World) :
  Calls Tryz.prog 126 #[.agg #[.int .i64 lo, .int .i64 hi]] w fun e w' => e = .returned (.string ⟨(Zbp lo hi 128).toArray⟩) ∧ Below w.heap.size w w' := by
 obtain ⟨i0, hi0, hz0, hz1, hz2⟩ := info_parts Zmy;have HCL := zh (Zj4 lo hi);have HSU := zh (Zik lo hi);obtain ⟨w1, hw1⟩ : ∃ w1, w1 = w.alloc (.cells #[.int .i64 lo, .int .i64 hi] 180) := ⟨_, rfl⟩;have HP := zh (show w1.heap[w.heap.size]? = some (.cells #[.int .i64 lo, .int .i64 hi] 180 (0, 0)) by rw [hw1]; exact heap_alloc_new w _);have hb1 : Below w.heap.size w w1 := by rw [hw1]; exact (Below.refl _ _).alloc (Nat.le_refl _) _
 have hlt1 : w.heap.size < w1.heap.size := by rw [hw1]; simp
 have hst0 := Zgt.start w1;rw [show w1.heap.size = w.heap.size + 1 by rw [hw1]; simp] at hst0;have HST0 := zh (show Zgt w1 [] (.slice (some ⟨w.heap.size + 1, 0, none⟩) 0 0) ((w.alloc (.cells #[.int .i64 lo, .int .i64 hi] 180)).alloc (.cells #[] 5)) by rw [← hw1]; exact hst0);clear hst0 hw1;go_enter Tryz.func126, Tryz.ntmps126;go_wp2_with fail
 go_loopw [3, 4] (fun v i wr => ∃ (j : Nat) (o : List UInt8) (v' : Value), i = .int .i64 j ∧ v' = v ∧ j ≤ 128 ∧ Hd (o = Zbp lo hi j) ∧ Zgt w1 o v' wr) (fun _ i _ => 128 - (intOf i).toNat)
 case atStart => exact ⟨0, [], _, rfl, rfl, by omega, zh rfl, HST0.o⟩
 case round =>
  obtain ⟨j, o, v, rfl, rfl, hj, HO, hst⟩ := hrel;have hsz := hst.bel.size;have HST := zh hst;clear hst
  by_cases hlt : j < 128
  ·have t1 : decide ((j : Int) < 128) = true := nT (by omega);have hwr : IntKind.u8.wrap (j : Int) = (j : Int) := by rw [IntKind.wrap_u8]; omega
   obtain ⟨c0, c1⟩ := Zfo ((HST.o.bel.block _ hlt1).trans HP.o);have HHB := zh (Zkl lo hi (j : Int) wr (by omega) (by omega));have hol : o.length ≤ 128 := by rw [HO.o]; exact Nat.le_trans (HCL.o j) hj
   go_wp2_with fail;refine HHB.o.mono ?_;rintro e w2 ⟨rfl, hb2⟩;have HST2 := zh (HST.o.later hb2);have hsz2 := HST2.o.bel.size;clear hb2 c0 c1 HHB
   by_cases hh : hb lo hi (j : Int) = true
   ·have HO2 := zh (show o ++ [UInt8.ofNat j] = Zbp lo hi (j + 1) by rw [HSU.o, if_pos hh, HO.o]);have hcj : ((UInt8.ofNat j).toNat : Int) = (j : Int) := by rw [UInt8.toNat_ofNat', Nat.mod_eq_of_lt (by omega)]
    have HCJ := zh hcj;rw [hh];clear hh hcj
    go_wp2_with (at_builtin; refine wpList_append_own _ rfl _ _ 192 rfl w1.heap.size 5 i0 (.int .u8 0) 1 1 Tryz.underlying192 hi0 hz0 hz1 hz2 rfl (by decide) _ _ _ rfl (HST2.o.row.alloc _) ⟨w2.heap.size, 0, none⟩ 1 1 [.int .u8 (j : Int)] rfl rfl (cell_one_new _ _ _) (by simp [Value.oneCell']) (by unfold maxLen; omega) (by omega) (by simp; omega) ?_; intro v' w3 hown' hgrow hnil)
    have hst3 := HST2.o.push (UInt8.ofNat j) (j : Int) HCJ.o hown' hgrow hnil
    go_roundw
    case rel => exact ⟨j + 1, _, _, by go_num, rfl, by omega, HO2, hst3⟩
    case measure => simp [intOf]; omega
   ·have hh2 : hb lo hi (j : Int) = false := by simpa using hh
    have HO2 := zh (show o = Zbp lo hi (j + 1) by rw [HSU.o, if_neg hh, List.append_nil, HO.o]);rw [hh2];clear hh hh2;go_wp2_with fail
    go_roundw
    case rel => exact ⟨j + 1, o, _, by go_num, rfl, by omega, HO2, HST2.o⟩
    case measure => simp [intOf]; omega
  ·have t1 : decide ((j : Int) < 128) = false := nU (by omega);have hf : o = Zbp lo hi 128 := by rw [HO.o, show j = 128 by omega]
   obtain ⟨g1, cap1, hv⟩ := HST.o.form;subst hv;have e2 := HST.o.text;have HF := zh hf;clear hf;go_wp2_with fail;go_ret;refine ⟨?_, hb1.trans (Below.mono HST.o.bel hb1.size)⟩;rw [HF.o]; rfl
theorem Zpb (n : Nat) (w : World) (F : Nat → Prop) (c : Ze) (A : Option Addr) (k : Nat) (hv : EV n F w c A k) : Calls Tryz.prog 186 #[c.val A k] w fun e w' => e = .returned (.bool (xW c.kind c.text)) ∧ Below w.heap.size w w' := by
 unfold Ze.val;have HV := zh hv;have hks1 := hv.len;obtain ⟨wb, hlwb, HB, hwb⟩ := aN w (.cells #[.int .i64 c.kind, .string c.text, .int .i64 c.aB, .int .i64 c.line, .slice A c.kids.length k] 104);replace HB := zh HB;have HLb := zh hlwb;clear hlwb hv;obtain ⟨c0, c1, c2, c3, c4⟩ := Z1 HB.o;have fc0 := fz HB.o;obtain ⟨kd, hkd⟩ : ∃ z, z = c.kind := ⟨_, rfl⟩;obtain ⟨R, hR⟩ : ∃ z, z = xW c.kind c.text := ⟨_, rfl⟩;rw [← hR];rw [← hkd] at c0 hR hwb ⊢;have HR := zh hR;clear hkd hR;go_enter Tryz.func186, Tryz.ntmps186;go_upto_region 2 with (fail);clear hwb
 by_cases h2 : kd = 2
 ·subst h2;obtain ⟨q, hq⟩ : ∃ b : Bool, decide ((c.text.size : Int) ≤ 120) = b := ⟨_, rfl⟩;obtain rfl : R = q := HR.o.trans hq;go_wp2_with fail;go_ret;exact ⟨rfl, HLb.o⟩
 have e2 : (kd == (2 : Int)) = false := nH.2 h2;have H2 := zh h2;clear h2;go_upto_region 4 with (fail);clear e2
 by_cases h4 : kd = 3
 ·subst h4;have ht : R = Zje (bl c.text) := HR.o;clear HR;go_wp2_with fail;refine (Zkr c.text _ HV.o.tx).mono ?_;rintro e w4 ⟨⟨l2, h2, ok, rfl, hyes, hno⟩, hl4⟩;obtain ⟨w5, hla, hxb, hw5⟩ := aN w4 (.cells #[.int .i64 l2, .int .i64 h2] 180);have HXB := zh hxb;have HB5 := zh ((hla.block _ (Za ((Below.block hl4 _ (Za HB.o)).trans HB.o))).trans ((Below.block hl4 _ (Za HB.o)).trans HB.o));have HLw := zh (HLb.o.trans (Zb.trans hl4 hla));obtain ⟨XB, hXB⟩ : ∃ z, w4.heap.size = z := ⟨_, rfl⟩;rw [hXB] at HXB;have HXE := zh hXB;have HW5 := zh hw5;clear hla hxb hw5 hl4 hXB;go_upto_region 6 with (fail);rw [HW5.o, HXE.o]
  cases ok with
  | false =>
   obtain rfl : R = false := by
    rw [ht];obtain ⟨x, hm, hx⟩ := hno rfl;exact Zof hm hx
   clear ht hyes hno;go_upto_region 6 with (fail);refine Zb8 (fun W9 hW9 => ?_);have hlW : Zb w5 W9 := by rw [hW9]; exact (Zb.refl _).drew
   have HLW := zh hlW;have HXW := yC hlW HXB;have HCW := yC hlW HB5;clear hW9 hlW
   repeat go_big_quiet_step (fail)
   refine wpQuiet_nil ?_;go_wp2_with fail;go_ret;exact ⟨rfl, HLw.o.trans HLW.o⟩
  | true =>
   obtain ⟨h7, hs⟩ := hyes rfl;have htx := Zv5 (bl c.text) l2 h2 h7 hs;rw [← ht] at htx;obtain ⟨z, hz⟩ : ∃ z : ByteArray, (⟨(Zbp l2 h2 128).toArray⟩ : ByteArray) = z := ⟨_, rfl⟩;have hzt : (z.toList == c.text.toList) = R := by
    rw [Bool.eq_iff_iff, beq_iff_eq, ← htx, ← hz]
    constructor
    ·intro h; have := Zdy h; rw [← this]; rfl
    ·intro h; congr 1; apply Zh2; exact h
   have HCT := zh (Zjr l2 h2);rw [hz] at HCT;clear h7 hs htx hz ht hyes hno;go_upto_region 6 with (fail);refine Zx [] [] (by kernel_rfl) (fun W9 hW9 => ?_);have hlW : Zb w5 W9 := by rw [hW9]; exact (Zb.refl _).drew
   have HLW := zh hlW;have HXW := yC hlW HXB;have HCW := yC hlW HB5;clear hW9 hlW;refine uU 0 21 ?_;simp only [yN];refine uU 1 22 ?_;simp only [yN];refine uU 2 23 (hy := fun x hx => by have hxc := (hx.block _ (Za HCW.o)).trans HCW.o; obtain ⟨c0, c1, c2, c3, c4⟩ := Z1 hxc; have fc0 := fz hxc; have hxs := (hx.block _ (Za HXW.o)).trans HXW.o; have z0 := cz2 hxs; have fz0 := fz hxs; go_simp <;> with_reducible rfl) ?_;simp only [yN];refine uU 4 25 ?_;simp only [yN];refine uU 5 26 (hy := fun x hx => by have hxc := (hx.block _ (Za HCW.o)).trans HCW.o; obtain ⟨c0, c1, c2, c3, c4⟩ := Z1 hxc; have fc0 := fz hxc; have hxs := (hx.block _ (Za HXW.o)).trans HXW.o; have z0 := cz2 hxs; have fz0 := fz hxs; go_simp <;> with_reducible rfl) ?_;simp only [yN];refine Z5 3 (by kernel_rfl) rfl rfl ?_;go_wp2_with fail;refine (HCT.o _).mono ?_;rintro e w8 ⟨rfl, hb8⟩;have HL8 := zh hb8;go_wp2_with fail;refine ⟨hb8, ?_⟩;clear hb8;refine uU 6 27 ?_;simp only [yN];refine uU 7 28 ?_;simp only [yN];refine uU 8 2 ?_;simp only [yN];refine Z6 [] (by kernel_rfl) rfl rfl ?_;go_wp2_with fail;go_ret;exact ⟨rfl, HLw.o.trans (HLW.o.trans HL8.o)⟩
 have e4 : (kd == (3 : Int)) = false := nH.2 h4;have H4 := zh h4;clear h4;go_upto_region 7 with (fail);clear e4
 by_cases h7 : kd = 4
 ·subst h7;go_wp2_with fail;refine (Zcx c.text _ HV.o.tx).mono ?_;rintro e w2 ⟨rfl, hb2⟩;have HL2 := zh (HLb.o.trans hb2);clear hb2;go_wp2_with fail;go_ret;exact ⟨by rw [HR.o]; rfl, HL2.o⟩
 have e7 : (kd == (4 : Int)) = false := nH.2 h7;have H7 := zh h7;clear h7;go_upto_region 8 with (fail);clear e7
 by_cases h8 : kd = 13
 ·subst h8;go_wp2_with fail;refine (Zcx c.text _ HV.o.tx).mono ?_;rintro e w2 ⟨rfl, hb2⟩;have HL2 := zh (HLb.o.trans hb2);clear hb2;go_wp2_with fail;go_ret;exact ⟨by rw [HR.o]; rfl, HL2.o⟩
 have e8 : (kd == (13 : Int)) = false := nH.2 h8;have H8 := zh h8;clear h8;go_upto_region 9 with (fail);clear e8
 by_cases h9 : kd = 28
 ·subst h9;go_wp2_with fail;refine (Zcx c.text _ HV.o.tx).mono ?_;rintro e w2 ⟨rfl, hb2⟩;have HL2 := zh (HLb.o.trans hb2);clear hb2;go_wp2_with fail;go_ret;exact ⟨by rw [HR.o]; rfl, HL2.o⟩
 have e9 : (kd == (28 : Int)) = false := nH.2 h9;have H9 := zh h9;clear h9;go_upto_region 11 with (fail);clear e9
 by_cases h11 : kd = 5
 ·subst h11;go_wp2_with fail;refine (Ziz c.text _).mono ?_;rintro e w2 ⟨rfl, hb2⟩;have HL2 := zh (HLb.o.trans hb2);clear hb2;go_wp2_with fail;go_ret;exact ⟨by rw [HR.o]; rfl, HL2.o⟩
 have e11 : (kd == (5 : Int)) = false := nH.2 h11;have H11 := zh h11;clear h11;go_upto_region 13 with (fail);clear e11
 by_cases h13 : kd = 7
 ·subst h13;go_wp2_with fail;refine (Zkq c.text _).mono ?_;rintro e w2 ⟨rfl, hb2⟩;have HL2 := zh (HLb.o.trans hb2);clear hb2;go_wp2_with fail;go_ret;exact ⟨by rw [HR.o]; rfl, HL2.o⟩
 have e13 : (kd == (7 : Int)) = false := nH.2 h13;have H13 := zh h13;clear h13;go_upto_region 15 with (fail);clear e13
 by_cases h15 : kd = 8
 ·subst h15;go_wp2_with fail;refine (Zjp c.text _).mono ?_;rintro e w2 ⟨⟨r, rfl, hr⟩, hb2⟩;have HL2 := zh (HLb.o.trans hb2);obtain rfl : R = decide (0 < r) := HR.o.trans hr.symm;clear hb2 hr HR;go_wp2_with fail;go_ret;exact ⟨rfl, HL2.o⟩
 have e15 : (kd == (8 : Int)) = false := nH.2 h15;have H15 := zh h15;clear h15;obtain ⟨q, hq⟩ : ∃ b : Bool, (c.text.toList == []) = b := ⟨_, rfl⟩;obtain rfl : R = q := HR.o.trans (by have h2 := H2.o; have h4 := H4.o; have h7 := H7.o; have h8 := H8.o; have h9 := H9.o; have h11 := H11.o; have h13 := H13.o; have h15 := H15.o; unfold xW; rw [if_neg h2, if_neg h4, if_neg (by omega), if_neg h11, if_neg h13, if_neg h15]; exact hq);go_wp2_with fail;go_ret;exact ⟨rfl, HLb.o⟩
def Zxl (n : Nat) : Prop := ∀ (w : World) (F : Nat → Prop) (c : Ze) (A : Option Addr) (k : Nat) (d : Nat), EV n F w c A k → d ≤ 41 → Calls Tryz.prog 172 #[c.val A k, .int .i64 (d : Nat)] w fun e w' => e = .returned (.bool (vY (n + 1) c d)) ∧ Below w.heap.size w w'
theorem Zzi {f : Nat → Bool} {m : Nat} (h : ∀ i, i < m → f i = true) : (List.range m).all f = true := List.all_eq_true.2 fun i hi => h i (List.mem_range.1 hi)
theorem Zwl {f : Nat → Bool} {m j : Nat} (hj : j < m) (h : f j = false) : (List.range m).all f = false := by
 rw [← Bool.not_eq_true];intro h2;have := List.all_eq_true.1 h2 j (List.mem_range.2 hj);rw [h] at this
 cases this
theorem Zkf : ∀ n, Zxl n
 | n => fun w F c A k d hv hd => by
  have IH : ∀ n', n = n' + 1 → Zxl n' := fun n' h => by subst h; exact Zkf n'
  unfold Ze.val;have HV := zh hv;have hks1 := hv.len;obtain ⟨wb, hlwb, HB, hwb⟩ := aN w (.cells #[.int .i64 c.kind, .string c.text, .int .i64 c.aB, .int .i64 c.line, .slice A c.kids.length k] 104);replace HB := zh HB;have HLb := zh hlwb;clear hlwb hv;obtain ⟨R, hR⟩ : ∃ z, z = vY (n + 1) c d := ⟨_, rfl⟩;rw [← hR];have HR := zh (show R = (decide (d ≤ 40) && (xHd c && (List.range c.kids.length).all fun i => vY n (c.kid i) (d + 1))) from hR);have HH := zh (show xHd c = (decide (1 ≤ c.kind) && (decide (c.kind ≤ 29) && (decide (0 ≤ c.line) && (decide (xLo c.kind ≤ (c.kids.length : Int)) && (decide ((c.kids.length : Int) ≤ xHi c.kind) && (xW c.kind c.text && xN c.kind c.aB c.kids.length)))))) from rfl);obtain ⟨lo, hlo⟩ : ∃ z, z = xLo c.kind := ⟨_, rfl⟩;obtain ⟨hi, hhi⟩ : ∃ z, z = xHi c.kind := ⟨_, rfl⟩;rw [← hlo, ← hhi] at HH;have HLO := zh hlo;have HHI := zh hhi;clear hR hlo hhi;obtain ⟨b0, hb0⟩ : ∃ b : Bool, decide ((40 : Int) < (d : Int)) = b := ⟨_, rfl⟩;obtain ⟨b1, hb1⟩ : ∃ b : Bool, decide (c.kind < 1) = b := ⟨_, rfl⟩;obtain ⟨b2, hb2⟩ : ∃ b : Bool, decide (29 < c.kind) = b := ⟨_, rfl⟩;obtain ⟨b3, hb3⟩ : ∃ b : Bool, decide (c.line < 0) = b := ⟨_, rfl⟩;obtain ⟨b4, hb4⟩ : ∃ b : Bool, decide ((c.kids.length : Int) < lo) = b := ⟨_, rfl⟩;obtain ⟨b5, hb5⟩ : ∃ b : Bool, decide (hi < (c.kids.length : Int)) = b := ⟨_, rfl⟩;have HD := zh (show (decide (d ≤ 40) && xHd c) = (!b0 && (!b1 && (!b2 && (!b3 && (!b4 && (!b5 && (xW c.kind c.text && xN c.kind c.aB c.kids.length))))))) by
   rw [HH.o, ← hb0, ← hb1, ← hb2, ← hb3, ← hb4, ← hb5, Bool.eq_iff_iff];simp only [Bool.and_eq_true, nJ, Bool.not_eq_true', nI, Int.not_lt]
   constructor
   ·rintro ⟨a0, a⟩; exact ⟨by omega, a⟩
   ·rintro ⟨a0, a⟩; exact ⟨by omega, a⟩)
  have HR2 := zh (show R = ((decide (d ≤ 40) && xHd c) && (List.range c.kids.length).all fun i => vY n (c.kid i) (d + 1)) by rw [HR.o, Bool.and_assoc]);clear HH HR;obtain ⟨c0, c1, c2, c3, c4⟩ := Z1 HB.o;have fc0 := fz HB.o;go_enter Tryz.func172, Tryz.ntmps172;go_wp2_with fail;refine (Znn n _ F c A k (HV.o.later HLb.o)).mono ?_;rintro e w2 ⟨rfl, hb⟩;rw [← HLO.o, ← HHI.o];have HL2 := zh (show Zb wb w2 from hb);clear hb;clear c0 fc0 c1 c2 c3 c4;have HB2 := zB HL2 HB;obtain ⟨c0, c1, c2, c3, c4⟩ := Z1 HB2.o;have fc0 := fz HB2.o
  cases b0 with
  | true => (go_wp2_with fail; go_ret; exact ⟨by rw [HR2.o, HD.o]; rfl, HLb.o.trans HL2.o⟩)
  | false =>
  cases b1 with
  | true => (go_wp2_with fail; go_ret; exact ⟨by rw [HR2.o, HD.o]; rfl, HLb.o.trans HL2.o⟩)
  | false =>
  cases b2 with
  | true => (go_wp2_with fail; go_ret; exact ⟨by rw [HR2.o, HD.o]; rfl, HLb.o.trans HL2.o⟩)
  | false =>
  cases b3 with
  | true => (go_wp2_with fail; go_ret; exact ⟨by rw [HR2.o, HD.o]; rfl, HLb.o.trans HL2.o⟩)
  | false =>
  cases b4 with
  | true => (go_wp2_with fail; go_ret; exact ⟨by rw [HR2.o, HD.o]; rfl, HLb.o.trans HL2.o⟩)
  | false =>
  cases b5 with
  | true => (go_wp2_with fail; go_ret; exact ⟨by rw [HR2.o, HD.o]; rfl, HLb.o.trans HL2.o⟩)
  | false =>
  have hd40 : d ≤ 40 := by have := of_decide_eq_false hb0; omega
  go_wp2_with fail;refine (Zpb n _ F c A k (HV.o.later (HLb.o.trans HL2.o))).mono ?_;rintro e w3 ⟨rfl, hb⟩;have HL3 := zh (HL2.o.trans hb);clear hb;clear c0 fc0 c1 c2 c3 c4;have HB3 := zB HL3 HB;obtain ⟨c0, c1, c2, c3, c4⟩ := Z1 HB3.o;have fc0 := fz HB3.o;obtain ⟨xw, hxw⟩ : ∃ z, z = xW c.kind c.text := ⟨_, rfl⟩;rw [← hxw];rw [← hxw] at HD;clear hxw
  cases xw with
  | false => (go_wp2_with fail; go_ret; exact ⟨by rw [HR2.o, HD.o]; rfl, HLb.o.trans HL3.o⟩)
  | true =>
  clear hb0 hb1 hb2 hb3 hb4 hb5;obtain ⟨k1, hk1⟩ : ∃ z : Bool, (c.kind == (1 : Int)) = z := ⟨_, rfl⟩;have HK1 := zh hk1
  go_upto_if 51 with (fail)
  have HV3 := zh (HV.o.later (HLb.o.trans HL3.o));refine @Zfk _ xyNum ?R1 ?Q1 _ _ _ _ ?h ?k ?k2
  case h =>
   refine Zsn n w3 F c A k w.heap.size d c.kind c.aB HV3 HB3 (zh ?hf)
   case hf => exact (by rw [HK1.o]; exact FyN.mk' rfl rfl rfl rfl rfl)
  case k2 =>
   rintro a' x ⟨hb, hf, rfl⟩;obtain ⟨fr, rfl⟩ := hf.opn;exact bodyPost_ret (v := .bool false) (by simp [results, Tryz.results172, go_sem]) rfl ⟨by rw [HR2.o, HD.o, hb]; rfl, HLb.o.trans HL3.o⟩
  case k =>
  rintro a' w4 ⟨hb, hf, rfl⟩;obtain ⟨fr1, rfl⟩ := hf.opn;have HXN := zh hb;clear hf hb hk1;have td : IntKind.i64.wrap ((d : Int) + 1) = ((d + 1 : Nat) : Int) := by rw [IntWalk.i64_in _ (by omega)]; rfl
  go_wp2_with fail
  go_loopw [7] (fun iv wr => ∃ j : Nat, j ≤ c.kids.length ∧ iv = .int .i64 j ∧ Hd (∀ i, i < j → vY n (c.kid i) (d + 1) = true) ∧ Zb wb wr) (fun iv _ => c.kids.length - (intOf iv).toNat)
  case atStart => exact ⟨0, Nat.zero_le _, rfl, zh (fun i h => by omega), HL3.o⟩
  case round =>
   obtain ⟨j, hj, rfl, HJ, hl⟩ := hrel;have HL := zh hl;clear hl;clear c0 fc0 c1 c2 c3 c4;have HBr := zB HL HB;obtain ⟨c0, c1, c2, c3, c4⟩ := Z1 HBr.o;have fc0 := fz HBr.o
   by_cases hlt : j < c.kids.length
   ·obtain ⟨n', rfl⟩ := HV.o.lev hlt;have hlt' : (j : Int) < (c.kids.length : Int) := by omega
    obtain ⟨kb, ko, Bk, q, eA, hca⟩ := (HV.o.later (HLb.o.trans HL.o)).kid hlt;cases eA;have HKX := zh (Zcv hlt);obtain ⟨x, hx⟩ : ∃ z, z = c.kids[j] := ⟨_, rfl⟩;rw [← hx] at hca HKX;have HX := zh hx;have HCA := zh hca;have d0 := hca.c0;have d1 := hca.c1;have d2 := hca.c2;have d3 := hca.c3;have d4 := hca.c4;clear hca hx;have HXK := zh (show c.kid j = x by rw [Zcr hlt, HX.o]);go_wp2_with fail;refine (IH n' rfl _ F x Bk q (d + 1) HCA.o.ev (by omega)).mono ?_;rintro e w4 ⟨rfl, hb⟩;have HL4 := zh (HL.o.trans hb);clear hb d0 d1 d2 d3 d4;obtain ⟨r, hr⟩ : ∃ z, z = vY (n' + 1) x (d + 1) := ⟨_, rfl⟩;rw [← hr];have HRR := zh hr;clear hr
    cases r with
    | false =>
     go_wp2_with fail;go_ret;exact ⟨by rw [HR2.o, Zwl hlt (by rw [HXK.o, ← HRR.o]), Bool.and_false]; first | done | rfl, HLb.o.trans HL4.o⟩
    | true =>
     go_wp2_with fail
     go_roundw
     case rel => exact ⟨j + 1, by omega, by go_num, zh (fun i hi => by
      by_cases h2 : i < j
      ·exact HJ.o i h2
      ·obtain rfl : i = j := by omega
       rw [HXK.o, ← HRR.o]), HL4.o⟩
     case measure => simp [intOf]; omega
   ·obtain rfl : j = c.kids.length := by omega
    go_wp2_with fail;go_ret;exact ⟨by rw [HR2.o, HD.o, HXN.o, Zzi (fun i hi => HJ.o i hi)]; rfl, HLb.o.trans HL.o⟩
theorem Zln (n : Nat) (w : World) (F : Nat → Prop) (c : Ze) (A : Option Addr) (k : Nat) (hv : EV n F w c A k) (ht : Spc w) (hc : Zc6 c ≤ 4194304) : Calls Tryz.prog 148 #[c.val A k] w fun e w' => e = .returned (.bool (okX (n + 1) c)) ∧ Below w.heap.size w w' := by
 unfold Ze.val;have HV := zh hv;have hks1 := hv.len;obtain ⟨wb, hlwb, HB, hwb⟩ := aN w (.cells #[.int .i64 c.kind, .string c.text, .int .i64 c.aB, .int .i64 c.line, .slice A c.kids.length k] 104);replace HB := zh HB;have HLb := zh hlwb;clear hlwb hv;have HT := zh (ht.below HLb.o);obtain ⟨R, hR⟩ : ∃ z, z = okX (n + 1) c := ⟨_, rfl⟩;rw [← hR];obtain ⟨p, hp⟩ : ∃ b : Bool, decide ((Zc6 c : Int) ≤ 600) = b := ⟨_, rfl⟩;obtain ⟨q, hq⟩ : ∃ b : Bool, decide ((dpX c : Int) ≤ 40) = b := ⟨_, rfl⟩;have HR := zh (show R = (p && (q && vX (n + 1) c)) by rw [hR, ← hp, ← hq]; unfold okX; rw [Bool.eq_iff_iff]; simp only [Bool.and_eq_true, nJ]; constructor <;> (rintro ⟨a1, a2, a3⟩; exact ⟨by omega, by omega, a3⟩));clear hR ht;have c0 := Z1 HB.o;have fc0 := fz HB.o;go_enter Tryz.func148, Tryz.ntmps148;go_wp2_with fail;refine (Zmv n _ F c A k (HV.o.later HLb.o) hc).mono ?_;rintro e w2 ⟨rfl, hb⟩;have HL2 := zh (show Zb wb w2 from hb);clear hb;clear c0 fc0;have HB2 := zB HL2 HB;have c0 := Z1 HB2.o;have fc0 := fz HB2.o
 cases p with
 | false => (go_wp2_with fail; go_ret; exact ⟨by rw [HR.o]; rfl, HLb.o.trans HL2.o⟩)
 | true =>
 go_wp2_with fail;refine (Zmw n _ F c A k (HV.o.later (HLb.o.trans HL2.o)) hc).mono ?_;rintro e w3 ⟨rfl, hb⟩;have HL3 := zh (HL2.o.trans hb);clear hb;clear c0 fc0;have HB3 := zB HL3 HB;have c0 := Z1 HB3.o;have fc0 := fz HB3.o
 cases q with
 | false => (go_wp2_with fail; go_ret; exact ⟨by rw [HR.o]; rfl, HLb.o.trans HL3.o⟩)
 | true =>
 go_wp2_with fail;refine (Zhx n _ F c A k (HV.o.later (HLb.o.trans HL3.o)) (HT.o.below HL3.o)).mono ?_;rintro e w4 ⟨rfl, hb⟩;have HL4 := zh (HL3.o.trans hb);clear hb;go_wp2_with fail;go_ret;exact ⟨by rw [HR.o]; first | rfl | simp, HLb.o.trans HL4.o⟩
theorem Zlo (n : Nat) (w : World) (F : Nat → Prop) (c : Ze) (A : Option Addr) (k : Nat) (hv : EV n F w c A k) : Calls Tryz.prog 143 #[c.val A k] w fun e w' => e = .returned (.bool (okX (n + 1) c)) ∧ Below w.heap.size w w' := by
 unfold Ze.val;have HV := zh hv;have hks1 := hv.len;obtain ⟨wb, hlwb, HB, hwb⟩ := aN w (.cells #[.int .i64 c.kind, .string c.text, .int .i64 c.aB, .int .i64 c.line, .slice A c.kids.length k] 104);replace HB := zh HB;have HLb := zh hlwb;clear hlwb hv;obtain ⟨R, hR⟩ : ∃ z, z = okX (n + 1) c := ⟨_, rfl⟩;rw [← hR];obtain ⟨p, hp⟩ : ∃ b : Bool, decide (0 ≤ lft 600 (Zc6 c)) = b := ⟨_, rfl⟩;have HR := zh (show R = (p && vY (n + 1) c 1) by
   rw [hR, ← hp, Zxc]; unfold okX lft; rw [Bool.eq_iff_iff]; simp only [Bool.and_eq_true, nJ]; constructor
   ·rintro ⟨a1, a2, a3⟩; exact ⟨by omega, a3, by omega⟩
   ·rintro ⟨a1, a3, a2⟩; exact ⟨by omega, by omega, a3⟩)
 clear hR;have c0 := Z1 HB.o;have fc0 := fz HB.o;go_enter Tryz.func143, Tryz.ntmps143;go_wp2_with fail;refine (Zlk n _ F c A k 600 (HV.o.later HLb.o) (by decide) (by decide)).mono ?_;rintro e w2 ⟨rfl, hb⟩;have HL2 := zh (show Zb wb w2 from hb);clear hb;clear c0 fc0;have HB2 := zB HL2 HB;have c0 := Z1 HB2.o;have fc0 := fz HB2.o
 cases p with
 | false => (go_wp2_with fail; go_ret; exact ⟨by rw [HR.o]; rfl, HLb.o.trans HL2.o⟩)
 | true =>
 go_wp2_with fail;refine (Zkf n _ F c A k 1 (HV.o.later (HLb.o.trans HL2.o)) (by decide)).mono ?_;rintro e w3 ⟨rfl, hb⟩;have HL3 := zh (HL2.o.trans hb);clear hb;go_wp2_with fail;go_ret;exact ⟨by rw [HR.o]; first | rfl | simp, HLb.o.trans HL3.o⟩
theorem Zg9 (N : Nat) (F : Nat → Prop) (w : World) (u : Zt) (A1 A2 A3 : Option Addr) (k1 k2 k3 : Nat) (hu : UV N F w u A1 A2 A3 k1 k2 k3) (ht : Spc w) (hc : ∀ q ∈ u.procedures, Zc6 q.body ≤ 4194304) : Calls Tryz.prog 102 #[.agg #[.slice A1 u.aA.length k1, .slice A2 u.globals.length k2, .slice A3 u.procedures.length k3]] w fun e w' => e = .returned (.bool (okU (N + 1) u)) ∧ Below w.heap.size w w' := by
 have HU := zh hu;obtain ⟨hn1, hn2, hn3⟩ := hu.len;obtain ⟨wb, hlwb, HB, hwb⟩ := aN w (.cells #[.slice A1 u.aA.length k1, .slice A2 u.globals.length k2, .slice A3 u.procedures.length k3] 52);replace HB := zh HB;have HLb := zh hlwb;have HT := zh (ht.below hlwb);clear hlwb hu ht;obtain ⟨R, hR⟩ : ∃ z, z = okU (N + 1) u := ⟨_, rfl⟩;rw [← hR];obtain ⟨b1, hb1⟩ : ∃ b : Bool, decide ((8 : Int) < (u.aA.length : Int)) = b := ⟨_, rfl⟩;obtain ⟨b3, hb3⟩ : ∃ b : Bool, decide ((12 : Int) < (u.procedures.length : Int)) = b := ⟨_, rfl⟩;obtain ⟨b2, hb2⟩ : ∃ b : Bool, decide ((12 : Int) < (u.globals.length : Int)) = b := ⟨_, rfl⟩;have HR := zh (show R = (!b1 && (!b2 && (!b3 && (u.globals.all Za8 && (u.aA.all Znb && u.procedures.all (Zjf (N + 1))))))) by
  rw [hR, ← hb1, ← hb2, ← hb3]; unfold okU; rw [Bool.eq_iff_iff];simp only [Bool.and_eq_true, nJ, Bool.not_eq_true', nI, Int.not_lt]
  constructor <;> (rintro ⟨a1, a2, a3, a4⟩; exact ⟨by omega, by omega, by omega, a4⟩))
 clear hR;have g0 := cz3 HB.o;have fg0 := fz HB.o;go_enter Tryz.func102, Tryz.ntmps102
 cases b1 with
 | true => (go_wp2_with fail; go_ret; exact ⟨by rw [HR.o]; rfl, HLb.o⟩)
 | false =>
 cases b2 with
 | true => (go_wp2_with fail; go_ret; exact ⟨by rw [HR.o]; rfl, HLb.o⟩)
 | false =>
 cases b3 with
 | true => (go_wp2_with fail; go_ret; exact ⟨by rw [HR.o]; rfl, HLb.o⟩)
 | false =>
 go_wp2_with fail;refine (Ze7 u.globals _ F _ (HU.o.later HLb.o).gl HT.o).mono ?_;rintro e w2 ⟨rfl, hb⟩;have HL2 := zh (show Zb wb w2 from hb);obtain ⟨q1, hq1⟩ : ∃ z, z = u.globals.all Za8 := ⟨_, rfl⟩;rw [← hq1];rw [← hq1] at HR;clear hb hq1;clear g0 fg0;have HB2 := zB HL2 HB;have g0 := cz3 HB2.o;have fg0 := fz HB2.o
 cases q1 with
 | false => (go_wp2_with fail; go_ret; exact ⟨by rw [HR.o]; rfl, HLb.o.trans HL2.o⟩)
 | true =>
 clear hb1 hb2 hb3;go_wp2_with fail
 go_loopw [4, 32] (fun _ iv wr => ∃ j : Nat, j ≤ u.aA.length ∧ iv = .int .i64 j ∧ Hd (∀ i (hi : i < u.aA.length), i < j → Znb u.aA[i] = true) ∧ Zb wb wr) (fun _ iv _ => u.aA.length - (intOf iv).toNat)
 case atStart => exact ⟨0, Nat.zero_le _, rfl, zh (fun i hi h => by omega), HL2.o⟩
 case round =>
  obtain ⟨j, hj, rfl, HJ1, hl⟩ := hrel;have HL := zh hl;clear hl;clear g0 fg0;have HBk := zB HL HB;have g0 := cz3 HBk.o;have fg0 := fz HBk.o
  by_cases hlt : j < u.aA.length
  ·have hlt' : (j : Int) < (u.aA.length : Int) := by omega
   have HUr := zh (HU.o.later (HLb.o.trans HL.o));obtain ⟨pb, po, As, ks, eA, hat⟩ := HUr.o.rct hlt;cases eA;have hfl := hat.len;obtain ⟨r, hv_⟩ : ∃ z, z = u.aA[j] := ⟨_, rfl⟩;rw [← hv_] at hat;have HV_ := zh hv_;have HAT := zh hat;have d0 := hat.c0;have d1 := hat.c1;have d2 := hat.c2;clear hat hv_;obtain ⟨w4, hla, HRB, hw4⟩ := aN wr (.cells #[.string r.name, .slice As r.fields.length ks, .int .i64 r.line] 101);replace HRB := zh HRB;have HL4 := zh (Zb.trans HL.o hla);have HW4 := zh hw4;obtain ⟨RB, hRB⟩ : ∃ z, wr.heap.size = z := ⟨_, rfl⟩;rw [hRB] at HRB;have HRE := zh hRB;have HA4 := zh hla;clear hla hw4 hRB;go_upto_region 6 with (fail);rw [HW4.o, HRE.o];clear d0 d1 d2;obtain ⟨p1, hp1⟩ : ∃ b : Bool, decide ((6 : Int) < (r.fields.length : Int)) = b := ⟨_, rfl⟩;obtain ⟨p4, hp4⟩ : ∃ b : Bool, decide (r.line < 0) = b := ⟨_, rfl⟩;have HP := zh (show Znb r = ((!p1 && (Za8 r.name && (r.fields.all Za8 && (!p4))))) by
    unfold Znb;rw [← hp1, ← hp4, Bool.eq_iff_iff];simp only [Bool.and_eq_true, nJ, Bool.not_eq_true', nI, Int.not_lt, bne_eq_false_iff_eq]
    constructor
    ·rintro ⟨a1, a2, a3, a4⟩; exact ⟨by omega, a1, a3, a4⟩
    ·rintro ⟨a1, a2, a3, a4⟩; exact ⟨a2, by omega, a3, a4⟩)
   have HRBk := HRB;obtain ⟨r0, r1, r2⟩ := cz3 HRBk.o;have fr0 := fz HRBk.o
   cases p1 with
   | true => (go_wp2_with fail; go_ret; exact ⟨by rw [HR.o, Zbc hlt (by rw [← HV_.o, HP.o]; rfl)]; first | rfl | simp, HLb.o.trans HL4.o⟩)
   | false =>
   go_wp2_with fail;refine (Zcw r.name _ HAT.o.nm (HT.o.below HL4.o)).mono ?_;rintro e w5 ⟨rfl, hb⟩;have HL5 := zh (HL4.o.trans hb);have HA5 := zh (HA4.o.trans hb);obtain ⟨p2, hp2⟩ : ∃ z, z = Za8 r.name := ⟨_, rfl⟩;rw [← hp2];rw [← hp2] at HP;have HRBk := yC hb HRBk;clear hb hp2 r0 fr0 r1 r2;obtain ⟨r0, r1, r2⟩ := cz3 HRBk.o;have fr0 := fz HRBk.o
   cases p2 with
   | false => (go_wp2_with fail; go_ret; exact ⟨by rw [HR.o, Zbc hlt (by rw [← HV_.o, HP.o]; rfl)]; first | rfl | simp, HLb.o.trans HL5.o⟩)
   | true =>
   go_wp2_with fail;refine (Ze7 r.fields _ F _ (HAT.o.fl.keep Zg (fun _ h => h) (Zc.later HA5.o)) (HT.o.below HL5.o)).mono ?_;rintro e w6 ⟨rfl, hb⟩;have HL6 := zh (HL5.o.trans hb);have HA6 := zh (HA5.o.trans hb);obtain ⟨p3, hp3⟩ : ∃ z, z = r.fields.all Za8 := ⟨_, rfl⟩;rw [← hp3];rw [← hp3] at HP;have HRBk := yC hb HRBk;clear hb hp3 r0 fr0 r1 r2;obtain ⟨r0, r1, r2⟩ := cz3 HRBk.o;have fr0 := fz HRBk.o
   cases p3 with
   | false => (go_wp2_with fail; go_ret; exact ⟨by rw [HR.o, Zbc hlt (by rw [← HV_.o, HP.o]; rfl)]; first | rfl | simp, HLb.o.trans HL6.o⟩)
   | true =>
   cases p4 with
   | true => (go_wp2_with fail; go_ret; exact ⟨by rw [HR.o, Zbc hlt (by rw [← HV_.o, HP.o]; rfl)]; first | rfl | simp, HLb.o.trans HL6.o⟩)
   | false =>
   go_wp2_with fail
   go_roundw
   case rel => exact ⟨j + 1, by omega, by go_num, zh (Zhm HJ1.o (fun hi => by rw [← HV_.o, HP.o]; rfl)), HL6.o⟩
   case measure => simp [intOf]; omega
  ·obtain rfl : j = u.aA.length := by omega
   go_wp2_with fail
   go_loopw [6, 61] (fun _ iv wr => ∃ j : Nat, j ≤ u.procedures.length ∧ iv = .int .i64 j ∧ Hd (∀ i (hi : i < u.procedures.length), i < j → Zjf (N + 1) u.procedures[i] = true) ∧ Zb wb wr) (fun _ iv _ => u.procedures.length - (intOf iv).toNat)
   case atStart => exact ⟨0, Nat.zero_le _, rfl, zh (fun i hi h => by omega), HL.o⟩
   case round =>
    obtain ⟨j, hj, rfl, HJ2, hl⟩ := hrel;have HL := zh hl;clear hl;clear g0 fg0;have HBk := zB HL HB;have g0 := cz3 HBk.o;have fg0 := fz HBk.o
    by_cases hlt : j < u.procedures.length
    ·have hlt' : (j : Int) < (u.procedures.length : Int) := by omega
     have HUr := zh (HU.o.later (HLb.o.trans HL.o));obtain ⟨pb, po, Ap, Al, Ab, kp, kl, kb, eA, hat⟩ := HUr.o.proc hlt;cases eA;have hlp := hat.lp;have hll := hat.ll;obtain ⟨q, hv_⟩ : ∃ z, z = u.procedures[j] := ⟨_, rfl⟩;rw [← hv_] at hat;have HV_ := zh hv_;have HAT := zh hat;have d0 := hat.c0;have d1 := hat.c1;have d2 := hat.c2;have d3 := hat.c3;have d4 := hat.c4;have d5 := hat.c5;have d6 := hat.c6;have d7 := hat.c7;have d8 := hat.c8;clear hat hv_;obtain ⟨w4, hla, HRB, hw4⟩ := aN wr (.cells #[.string q.name, .slice Ap q.params.length kp, .slice Al q.locals.length kl, .int .i64 q.body.kind, .string q.body.text, .int .i64 q.body.aB, .int .i64 q.body.line, .slice Ab q.body.kids.length kb, .int .i64 q.line] 106);replace HRB := zh HRB;have HL4 := zh (Zb.trans HL.o hla);have HW4 := zh hw4;obtain ⟨RB, hRB⟩ : ∃ z, wr.heap.size = z := ⟨_, rfl⟩;rw [hRB] at HRB;have HRE := zh hRB;have HA4 := zh hla;clear hla hw4 hRB;go_upto_region 12 with (fail);rw [HW4.o, HRE.o];clear d0 d1 d2 d3 d4 d5 d6 d7 d8;obtain ⟨p1, hp1⟩ : ∃ b : Bool, decide ((6 : Int) < (q.params.length : Int)) = b := ⟨_, rfl⟩;obtain ⟨p2, hp2⟩ : ∃ b : Bool, decide ((8 : Int) < (q.locals.length : Int)) = b := ⟨_, rfl⟩;obtain ⟨p6, hp6⟩ : ∃ b : Bool, decide (q.line < 0) = b := ⟨_, rfl⟩;obtain ⟨p7, hp7⟩ : ∃ b : Bool, (q.body.kind != 14) = b := ⟨_, rfl⟩;have HP := zh (show Zjf (N + 1) q = ((!p1 && (!p2 && (Za8 q.name && (q.params.all Za8 && (q.locals.all Za8 && (!p6 && (!p7 && (okX (N + 1) q.body))))))))) by
      unfold Zjf;rw [← hp1, ← hp2, ← hp6, ← hp7, Bool.eq_iff_iff];simp only [Bool.and_eq_true, nJ, Bool.not_eq_true', nI, Int.not_lt, bne_eq_false_iff_eq]
      constructor
      ·rintro ⟨a1, a2, a3, a4, a5, a6, a7, a8⟩; exact ⟨by omega, by omega, a1, a4, a5, a6, a7, a8⟩
      ·rintro ⟨a1, a2, a3, a4, a5, a6, a7, a8⟩; exact ⟨a3, by omega, by omega, a4, a5, a6, a7, a8⟩)
     have HRBk := HRB;obtain ⟨r0, r1, r2, r3, r4, r5, r6, r7, r8⟩ := cz9 HRBk.o;have fr0 := fz HRBk.o
     cases p1 with
     | true => (go_wp2_with fail; go_ret; exact ⟨by rw [HR.o, Zbc hlt (by rw [← HV_.o, HP.o]; rfl)]; first | rfl | simp, HLb.o.trans HL4.o⟩)
     | false =>
     cases p2 with
     | true => (go_wp2_with fail; go_ret; exact ⟨by rw [HR.o, Zbc hlt (by rw [← HV_.o, HP.o]; rfl)]; first | rfl | simp, HLb.o.trans HL4.o⟩)
     | false =>
     go_wp2_with fail;refine (Zcw q.name _ HAT.o.nm (HT.o.below HL4.o)).mono ?_;rintro e w5 ⟨rfl, hb⟩;have HL5 := zh (HL4.o.trans hb);have HA5 := zh (HA4.o.trans hb);obtain ⟨p3, hp3⟩ : ∃ z, z = Za8 q.name := ⟨_, rfl⟩;rw [← hp3];rw [← hp3] at HP;have HRBk := yC hb HRBk;clear hb hp3 r0 fr0 r1 r2 r3 r4 r5 r6 r7 r8;obtain ⟨r0, r1, r2, r3, r4, r5, r6, r7, r8⟩ := cz9 HRBk.o;have fr0 := fz HRBk.o
     cases p3 with
     | false => (go_wp2_with fail; go_ret; exact ⟨by rw [HR.o, Zbc hlt (by rw [← HV_.o, HP.o]; rfl)]; first | rfl | simp, HLb.o.trans HL5.o⟩)
     | true =>
     go_wp2_with fail;refine (Ze7 q.params _ F _ (HAT.o.ps.keep Zg (fun _ h => h) (Zc.later HA5.o)) (HT.o.below HL5.o)).mono ?_;rintro e w6 ⟨rfl, hb⟩;have HL6 := zh (HL5.o.trans hb);have HA6 := zh (HA5.o.trans hb);obtain ⟨p4, hp4⟩ : ∃ z, z = q.params.all Za8 := ⟨_, rfl⟩;rw [← hp4];rw [← hp4] at HP;have HRBk := yC hb HRBk;clear hb hp4 r0 fr0 r1 r2 r3 r4 r5 r6 r7 r8;obtain ⟨r0, r1, r2, r3, r4, r5, r6, r7, r8⟩ := cz9 HRBk.o;have fr0 := fz HRBk.o
     cases p4 with
     | false => (go_wp2_with fail; go_ret; exact ⟨by rw [HR.o, Zbc hlt (by rw [← HV_.o, HP.o]; rfl)]; first | rfl | simp, HLb.o.trans HL6.o⟩)
     | true =>
     go_wp2_with fail;refine (Ze7 q.locals _ F _ (HAT.o.ls.keep Zg (fun _ h => h) (Zc.later HA6.o)) (HT.o.below HL6.o)).mono ?_;rintro e w7 ⟨rfl, hb⟩;have HL7 := zh (HL6.o.trans hb);have HA7 := zh (HA6.o.trans hb);obtain ⟨p5, hp5⟩ : ∃ z, z = q.locals.all Za8 := ⟨_, rfl⟩;rw [← hp5];rw [← hp5] at HP;have HRBk := yC hb HRBk;clear hb hp5 r0 fr0 r1 r2 r3 r4 r5 r6 r7 r8;obtain ⟨r0, r1, r2, r3, r4, r5, r6, r7, r8⟩ := cz9 HRBk.o;have fr0 := fz HRBk.o
     cases p5 with
     | false => (go_wp2_with fail; go_ret; exact ⟨by rw [HR.o, Zbc hlt (by rw [← HV_.o, HP.o]; rfl)]; first | rfl | simp, HLb.o.trans HL7.o⟩)
     | true =>
     cases p6 with
     | true => (go_wp2_with fail; go_ret; exact ⟨by rw [HR.o, Zbc hlt (by rw [← HV_.o, HP.o]; rfl)]; first | rfl | simp, HLb.o.trans HL7.o⟩)
     | false =>
     cases p7 with
     | true => (go_wp2_with fail; go_ret; exact ⟨by rw [HR.o, Zbc hlt (by rw [← HV_.o, HP.o]; rfl)]; first | rfl | simp, HLb.o.trans HL7.o⟩)
     | false =>
     go_wp2_with fail;refine (Zln N _ F q.body Ab kb (HAT.o.ev.later HA7.o) (HT.o.below HL7.o) (by rw [HV_.o]; exact hc _ (List.getElem_mem hlt))).mono ?_;rintro e w8 ⟨rfl, hb⟩;have HL8 := zh (HL7.o.trans hb);have HA8 := zh (HA7.o.trans hb);obtain ⟨p8, hp8⟩ : ∃ z, z = okX (N + 1) q.body := ⟨_, rfl⟩;rw [← hp8];rw [← hp8] at HP;have HRBk := yC hb HRBk;clear hb hp8 r0 fr0 r1 r2 r3 r4 r5 r6 r7 r8;obtain ⟨r0, r1, r2, r3, r4, r5, r6, r7, r8⟩ := cz9 HRBk.o;have fr0 := fz HRBk.o
     cases p8 with
     | false => (go_wp2_with fail; go_ret; exact ⟨by rw [HR.o, Zbc hlt (by rw [← HV_.o, HP.o]; rfl)]; first | rfl | simp, HLb.o.trans HL8.o⟩)
     | true =>
     go_wp2_with fail
     go_roundw
     case rel => exact ⟨j + 1, by omega, by go_num, zh (Zhm HJ2.o (fun hi => by rw [← HV_.o, HP.o]; rfl)), HL8.o⟩
     case measure => simp [intOf]; omega
    ·obtain rfl : j = u.procedures.length := by omega
     go_wp2_with fail;go_ret;exact ⟨by rw [HR.o, Zk0 (fun i hi => HJ1.o i hi hi), Zk0 (fun i hi => HJ2.o i hi hi)]; rfl, HLb.o.trans HL.o⟩
theorem Zlp (N : Nat) (F : Nat → Prop) (w : World) (u : Zt) (A1 A2 A3 : Option Addr) (k1 k2 k3 : Nat) (hu : UV N F w u A1 A2 A3 k1 k2 k3) (ht : Spc w) (hok : okU (N + 1) u = true) (i : Nat) (hi : i < u.procedures.length) : Calls Tryz.prog 58 #[.agg #[.slice A1 u.aA.length k1, .slice A2 u.globals.length k2, .slice A3 u.procedures.length k3], .int .i64 i] w fun e w' => ∃ v', e = .returned v' ∧ Zax w w' (Zbn u u.procedures[i]) v' ∧ Zb w w' := by
 have hlen0 := hu.len;obtain ⟨iS, hiS, hz0, hz1, hz2⟩ := info_parts Zd2;have HU := zh hu;obtain ⟨hn1, hn2, hn3⟩ := hu.len;obtain ⟨wb, hlwb, HB, hwb⟩ := aN w (.cells #[.slice A1 u.aA.length k1, .slice A2 u.globals.length k2, .slice A3 u.procedures.length k3] 52);replace HB := zh HB;have HLb := zh hlwb;have HT := zh ht;clear ht;clear hlwb hu;have hi' : (i : Int) < (u.procedures.length : Int) := by omega
 have hi64 := (Za9 hok).2.2;have HOK := zh hok;have HOQ := zh (Zcg (Zex hok hi));clear hok;obtain ⟨pb, po, Ap, Al, Ab, kp, kl, kb, eA, hat⟩ := HU.o.proc hi;cases eA;have hlp := hat.lp;have hll := hat.ll;obtain ⟨q, hq⟩ : ∃ z, z = u.procedures[i] := ⟨_, rfl⟩;rw [← hq] at hat HOQ hlp hll ⊢;have HAT := zh hat;clear hq hat;have HUB := HB;have g0 := cz3 HB.o;have fg0 := fz HB.o;go_enter Tryz.func58, Tryz.ntmps58;go_upto_region 1 with (fail);have hpb := Nat.lt_of_lt_of_le HAT.o.lt HLb.o.size;have d0 := (HLb.o.cell ⟨pb, _, none⟩ HAT.o.lt).trans HAT.o.c0;have d1 := (HLb.o.cell ⟨pb, _, none⟩ HAT.o.lt).trans HAT.o.c1;have d2 := (HLb.o.cell ⟨pb, _, none⟩ HAT.o.lt).trans HAT.o.c2;have d3 := (HLb.o.cell ⟨pb, _, none⟩ HAT.o.lt).trans HAT.o.c3;have d4 := (HLb.o.cell ⟨pb, _, none⟩ HAT.o.lt).trans HAT.o.c4;have d5 := (HLb.o.cell ⟨pb, _, none⟩ HAT.o.lt).trans HAT.o.c5;have d6 := (HLb.o.cell ⟨pb, _, none⟩ HAT.o.lt).trans HAT.o.c6;have d7 := (HLb.o.cell ⟨pb, _, none⟩ HAT.o.lt).trans HAT.o.c7;have d8 := (HLb.o.cell ⟨pb, _, none⟩ HAT.o.lt).trans HAT.o.c8;obtain ⟨w4, hla, hrb, hw4⟩ := aN wb (.cells #[.string q.name, .slice Ap q.params.length kp, .slice Al q.locals.length kl, .int .i64 q.body.kind, .string q.body.text, .int .i64 q.body.aB, .int .i64 q.body.line, .slice Ab q.body.kids.length kb, .int .i64 q.line] 106);have HA4 := zh hla;have HL4 := zh (Zb.trans HLb.o hla);have HW4 := zh hw4;have HUB4 := yC hla HB;obtain ⟨QB, hQB⟩ : ∃ z, wb.heap.size = z := ⟨_, rfl⟩;rw [hQB] at hrb
 have HQB := zh hrb;have HQE := zh hQB;clear hla hw4 hQB hrb;go_upto_region 2 with (fail);rw [HW4.o, HQE.o];clear d0 d1 d2 d3 d4 d5 d6 d7 d8;clear g0 fg0;refine Zx [6, 7] [] (by kernel_rfl) (fun W hW => ?_);have hlW : Zb w4 W := by rw [hW]; exact (Zb.refl _).drew
 have HLW := zh (HL4.o.trans hlW);have HQW := yC hlW HQB;have HUW := yC hlW HUB4;have HX1 := zh (show Zb W (W.alloc (.cells #[] Zc3)) from (Zb.refl _).alloc _);have HP6 := zh (show q.params.length ≤ 2097152 by have := HOQ.o.1; omega);clear hlW hW;refine uU 1 13 ?_;simp only [yN];refine uU 2 14 (hy := fun x hx => by have hxq := (hx.block _ (Za HQW.o)).trans HQW.o; have r0 := cz9 hxq; have fr0 := fz hxq; go_simp <;> with_reducible rfl) ?_;simp only [yN];refine uU 4 16 ?_;simp only [yN];refine uU 5 17 (hy := fun x hx => by have hxq := (hx.block _ (Za HQW.o)).trans HQW.o; have r0 := cz9 hxq; have fr0 := fz hxq; go_simp <;> with_reducible rfl) ?_;simp only [yN];refine Z5 0 (by kernel_rfl) rfl rfl ?_;go_wp2_with fail;refine ⟨(Zb.refl _).alloc _, ?_⟩;refine Z5 3 (by kernel_rfl) rfl rfl ?_;simp only [gA, gB, gC]
 go_wp2_with (at_builtin; refine Zdi (w0 := W) rfl _ _ 24 rfl iS Tryz.underlying24 hiS hz0 hz1 hz2 rfl (Zco rfl) (Nat.le_refl _) HX1.o rfl ((HAT.o.ps.later Zg HLW.o).later Zg HX1.o) HP6.o ?_; intro v1 Y1 h1 hl1)
 have HN1 := zh h1;have HY1 := zh hl1;clear h1 hl1;refine ⟨HY1.o, ?_⟩;refine Z6 [_, _] (by kernel_rfl) rfl rfl ?_;simp only [gA, gB, gC];have HWY := zh (HX1.o.trans HY1.o);have HYL := zh (HLW.o.trans HWY.o);have HUY := zB HWY HUW;have HQY := zB HWY HQW;have HNU := zh (show v1.ownBlock ≠ some w.heap.size from fun e => by have := (HN1.o.own e).1; have := Za HUW.o; omega);have HNQ := zh (show v1.ownBlock ≠ some QB from fun e => by have := (HN1.o.own e).1; have := Za HQW.o; omega);have hlen2 : q.params.length + q.locals.length ≤ 2097152 := by have := HOQ.o.1; have := HOQ.o.2.1; omega
 go_wp2_with (at_builtin; refine Zai (w0 := W) rfl _ _ 24 rfl iS Tryz.underlying24 hiS hz0 hz1 hz2 rfl HN1.o HWY.o rfl (HAT.o.ls.later Zg HYL.o) hlen2 ?_; intro v2 Y2 h2 hg2; have HN2 := zh h2; have hl5 := hg2.later0 HWY.o fun b e => (HN1.o.own e).1; have HL5 := zh hl5; have HUY2 := zh (hg2.box HNU.o HUY.o); have HQY2 := zh (hg2.box HNQ.o HQY.o); clear h2 hg2 hl5; have g0 := cz3 HUY2.o; have fg0 := fz HUY2.o; have r0 := cz9 HQY2.o; have fr0 := fz HQY2.o)
 refine (Zpa N N W F u _ _ _ k1 k2 k3 q.body Ab kb Y2 (q.params ++ q.locals) v2 (HU.o.later HLW.o) (HT.o.below HLW.o) (HAT.o.ev.later HLW.o) HL5.o HN2.o (by rw [List.length_append]; have := HOQ.o; omega)).mono ?_;rintro e w6 ⟨v6, rfl, hr6, hg6⟩;have HR6 := zh (hr6.base HLW.o.size);have HL6 := zh (HLW.o.trans (hg6.later0 HL5.o fun b e => (HN2.o.own e).1));clear hr6 hg6;go_wp2_with fail;go_ret;exact ⟨_, rfl, HR6.o, HL6.o⟩
theorem Zpc (N : Nat) (F : Nat → Prop) (w : World) (u : Zt) (A1 A2 A3 : Option Addr) (k1 k2 k3 : Nat) (hu : UV N F w u A1 A2 A3 k1 k2 k3) (ht : Spc w) (hok : okU (N + 1) u = true) (i : Nat) (hi : i < u.procedures.length) (s : ByteArray) : Calls Tryz.prog 152 #[.agg #[.slice A1 u.aA.length k1, .slice A2 u.globals.length k2, .slice A3 u.procedures.length k3], .int .i64 i, .string s] w fun e w' => e = .returned (.tuple #[.int .i64 (Zdb u (Zbn u u.procedures[i]) s).1, .int .i64 (Zdb u (Zbn u u.procedures[i]) s).2]) ∧ Below w.heap.size w w' := by
 have HU := zh hu;obtain ⟨hn1, hn2, hn3⟩ := hu.len;obtain ⟨wb, hlwb, HB, hwb⟩ := aN w (.cells #[.slice A1 u.aA.length k1, .slice A2 u.globals.length k2, .slice A3 u.procedures.length k3] 52);replace HB := zh HB;have HLb := zh hlwb;have HT := zh (ht.below hlwb);clear ht;clear hlwb hu;have hi64 := (Za9 hok).2.2;have HOK := zh hok;have HCN := zh (show ∀ q ∈ u.procedures, Zc6 q.body ≤ 4194304 from fun q hq => by
  obtain ⟨j, hj, rfl⟩ := List.getElem_of_mem hq;have := Zcg (Zex hok hj)
  omega)
 clear hok;obtain ⟨R, hR⟩ : ∃ z, z = (Zdb u (Zbn u u.procedures[i]) s).1 := ⟨_, rfl⟩;obtain ⟨Q, hQ⟩ : ∃ z, z = (Zdb u (Zbn u u.procedures[i]) s).2 := ⟨_, rfl⟩;rw [← hR, ← hQ];have HR := zh hR;have HQ := zh hQ;clear hR hQ;have g0 := cz3 HB.o;have fg0 := fz HB.o;go_enter Tryz.func152, Tryz.ntmps152;go_wp2_with fail;refine (Zg9 N F wb u A1 A2 A3 k1 k2 k3 (HU.o.later HLb.o) HT.o HCN.o).mono ?_;rintro e w2 ⟨rfl, hb⟩;rw [HOK.o];have HL2 := zh (show Zb wb w2 from hb);clear hb;clear g0 fg0;have HB2 := zB HL2 HB;have g0 := cz3 HB2.o;have fg0 := fz HB2.o;have v1 : decide ((i : Int) < 0) = false := nU (by omega);have v2 : decide ((u.procedures.length : Int) ≤ (i : Int)) = false := nU (by omega);go_wp2_with fail;refine (Zlp N F w2 u A1 A2 A3 k1 k2 k3 (HU.o.later (HLb.o.trans HL2.o)) (HT.o.below HL2.o) HOK.o i hi).mono ?_;rintro e w3 ⟨v3, rfl, hr3, hl3⟩;have HR3 := zh hr3;have HL3 := zh (HL2.o.trans hl3);clear hr3 hl3 v1 v2;clear g0 fg0;have HB3 := zB HL3 HB;have g0 := cz3 HB3.o;have fg0 := fz HB3.o;go_wp2_with fail;refine (Zja (Zbn u u.procedures[i]) v3 s _ _ HR3.o.is).mono ?_;rintro e w4 ⟨rfl, hw⟩;obtain rfl : w3 = w4 := hw.symm;obtain ⟨z, hz⟩ : ∃ z, z = Zak (Zbn u u.procedures[i]) s := ⟨_, rfl⟩;rw [← hz];have HZ := zh hz;clear hw hz
 by_cases h0 : 0 ≤ z
 ·have hh := Zqq (u := u) HZ.o.symm h0;obtain rfl : R = _ := HR.o.trans (congrArg Prod.fst hh);obtain rfl : Q = _ := HQ.o.trans (congrArg Prod.snd hh);have v1 : decide (0 ≤ Q) = true := nT h0;clear hh h0;go_wp2_with fail
  go_ret2
  exact ⟨rfl, HLb.o.trans HL3.o⟩
 ·have hh := Zoq (u := u) (show Zak (Zbn u u.procedures[i]) s < 0 by rw [← HZ.o]; omega);have HR2 := zh (show R = (Zb1 u s).1 from HR.o.trans (congrArg Prod.fst hh));have HQ2 := zh (show Q = (Zb1 u s).2 from HQ.o.trans (congrArg Prod.snd hh));have v1 : decide (0 ≤ z) = false := nU h0;clear hh h0;go_wp2_with fail;refine (Zkd N F w3 u A1 A2 A3 k1 k2 k3 s (HU.o.later (HLb.o.trans HL3.o)) (HT.o.below HL3.o)).mono ?_;rintro e w5 ⟨rfl, hb⟩;have HL5 := zh (HL3.o.trans hb);clear hb;rw [← HR2.o, ← HQ2.o];go_wp2_with fail
  go_ret2
  exact ⟨rfl, HLb.o.trans HL5.o⟩
section
open Go.RowKit Go.Maps
def Zy6 : DataW Unit := ((((((DataW.map [] : DataW Unit)).put (.int .i64 1) (.lit (.int .i64 5))).put (.int .i64 2) (.lit (.int .i64 6))).put (.int .i64 3) (.lit (.int .i64 7))).put (.int .i64 4) (.lit (.int .i64 8))).put (.int .i64 5) (.lit (.int .i64 9))
theorem Zwm {r c : Int} (hr : r = 1 ∨ r = 2 ∨ r = 3 ∨ r = 4 ∨ r = 5) (h : Zy6.atKey (.int .i64 r) (.lit (.int .i64 0)) = .lit (.int .i64 c)) : c = r + 4 := by
 rcases hr with rfl | rfl | rfl | rfl | rfl
 ·have h2 : (.lit (.int .i64 5) : DataW Unit) = .lit (.int .i64 c) := h
  cases h2
  rfl
 ·have h2 : (.lit (.int .i64 6) : DataW Unit) = .lit (.int .i64 c) := h
  cases h2
  rfl
 ·have h2 : (.lit (.int .i64 7) : DataW Unit) = .lit (.int .i64 c) := h
  cases h2
  rfl
 ·have h2 : (.lit (.int .i64 8) : DataW Unit) = .lit (.int .i64 c) := h
  cases h2
  rfl
 ·have h2 : (.lit (.int .i64 9) : DataW Unit) = .lit (.int .i64 c) := h
  cases h2
  rfl
theorem Zmz (n : Nat) (E : Zaz) (LB cs : Nat) (w : World) (c : Ze) (A : Option Addr) (k : Nat) (hk : c.kind = 4 ∨ c.kind = 28) (hw : LwI E LB cs w) (hv : EV n E.F w c A k) (hc : LoC E n c cs) : Calls Tryz.prog 108 #[.pointer (some ⟨LB, 0, none⟩), .agg #[.int .i64 c.kind, .string c.text, .int .i64 c.aB, .int .i64 c.line, .slice A c.kids.length k]] w (LoP (LwI E LB) LB w (nmC E.u E.L c.text c.line) cs) := by
 obtain ⟨hpi, hL⟩ := hw.at_;have hu3 := Za9 hw.ok;have hlim := Zlf E.u E.L c.text (by omega) (by omega) (by omega) hc.ln (hc.nm.1 hk);obtain ⟨R, hR⟩ : ∃ z, z = (Zdb E.u E.L c.text).1 := ⟨_, rfl⟩;obtain ⟨Q, hQ⟩ : ∃ z, z = (Zdb E.u E.L c.text).2 := ⟨_, rfl⟩;rw [show nmC E.u E.L c.text c.line = cM (R + 4) Q c.line by rw [hR, hQ]; rfl];rw [← hR, ← hQ] at hlim;have HLL := zh hL;have HR := zh hR;have HQ := zh hQ;have HLIM := zh hlim;have HC64 := zh hv.n2;have hblk := hw.blk;clear hL hR hQ hlim hc hu3 hk;have hks1 := hv.len;have HV := zh hv;have HW := zh hw;obtain ⟨wa, hla, heb, hwa⟩ := aN w (.cells #[.int .i64 c.kind, .string c.text, .int .i64 c.aB, .int .i64 c.line, .slice A c.kids.length k] 104);have hlb : Zb wa (wa.alloc (.cells #[.int .i64 0, .int .i64 0, .int .i64 0, .int .i64 0, .string ⟨#[]⟩, .slice none 0 0] Z7)) := (Zb.refl _).alloc _;have hrb := heap_alloc_new wa (.cells #[.int .i64 0, .int .i64 0, .int .i64 0, .int .i64 0, .string ⟨#[]⟩, .slice none 0 0] Z7);have heb2 := (hlb.block _ (Za heb)).trans heb;obtain ⟨wb, hwb⟩ : ∃ z, wa.alloc (.cells #[.int .i64 0, .int .i64 0, .int .i64 0, .int .i64 0, .string ⟨#[]⟩, .slice none 0 0] Z7) = z := ⟨_, rfl⟩;rw [hwb] at hlb hrb heb2;have HLb := zh (Zb.trans hla hlb);have hsz : w.heap.size ≤ wa.heap.size := hla.size;have hne : w.heap.size ≠ wa.heap.size := fun e => by have := Za heb; omega
 obtain ⟨EB, hEB⟩ : ∃ z, w.heap.size = z := ⟨_, rfl⟩;obtain ⟨RB, hRB⟩ : ∃ z, wa.heap.size = z := ⟨_, rfl⟩;have HGE := zh (show w.heap.size ≤ EB ∧ w.heap.size ≤ RB ∧ EB ≠ RB from ⟨by omega, by omega, by omega⟩);rw [hEB] at heb2;rw [hRB] at hrb;have HEB := zh heb2;have HRB := zh hrb;have HSTART := zh (⟨hwa, hwb, hEB, hRB⟩ : _ ∧ _ ∧ _ ∧ _);clear hla hlb heb hrb heb2 hv hw hsz hne hwa hwb hEB hRB;have HLBb := zh ((HLb.o.block _ (Za hblk)).trans hblk);clear hblk;have c0 := Z1 HEB.o;have fc0 := fz HEB.o;have r0 := cz6 HRB.o;have fr0 := fz HRB.o;have b0 := cz6 HLBb.o;have fb0 := fz HLBb.o;go_enter Tryz.func108, Tryz.ntmps108;obtain ⟨hwa, hwb, hEB, hRB⟩ := HSTART.o;go_upto_region 1 with (fail);clear hwa hwb hEB hRB;clear c0 fc0 r0 fr0 b0 fb0;refine Zx [14, 15] [13] (by kernel_rfl) (fun W hW => ?_);have hlW : Zb wb W := by rw [hW]; exact (Zb.refl _).drew
 have HLW := zh hlW;have HBW := yC hlW HLBb;have HEW := yC hlW HEB;have HRW := yC hlW HRB;clear hlW hW;refine uU 0 9 ?_;simp only [yN];refine uU 1 10 ?_;simp only [yN];refine uU 2 11 ?_;simp only [yN];refine uU 3 12 (hy := fun x hx => by have hxb := (hx.block _ (Za HBW.o)).trans HBW.o; have hxe := (hx.block _ (Za HEW.o)).trans HEW.o; have b0 := cz6 hxb; have fb0 := fz hxb; have c0 := Z1 hxe; have fc0 := fz hxe; go_simp <;> with_reducible rfl) ?_;simp only [yN];refine uU 4 13 ?_;simp only [yN];refine uU 5 14 ?_;simp only [yN];refine uU 6 15 ?_;simp only [yN];refine uU 7 16 (hy := fun x hx => by have hxb := (hx.block _ (Za HBW.o)).trans HBW.o; have hxe := (hx.block _ (Za HEW.o)).trans HEW.o; have b0 := cz6 hxb; have fb0 := fz hxb; have c0 := Z1 hxe; have fc0 := fz hxe; go_simp <;> with_reducible rfl) ?_;simp only [yN];refine uU 8 17 ?_;simp only [yN];refine uU 9 18 (hy := fun x hx => by have hxb := (hx.block _ (Za HBW.o)).trans HBW.o; have hxe := (hx.block _ (Za HEW.o)).trans HEW.o; have b0 := cz6 hxb; have fb0 := fz hxb; have c0 := Z1 hxe; have fc0 := fz hxe; go_simp <;> with_reducible rfl) ?_;simp only [yN];refine Z5 10 (by kernel_rfl) rfl rfl ?_;go_wp2_with fail;refine (Zpc E.N E.F W E.u _ _ _ E.k1 E.k2 E.k3 (HW.o.un.later (HLb.o.trans HLW.o)) (HW.o.sp.below (HLb.o.trans HLW.o)) HW.o.ok E.pi hpi _).mono ?_
 rintro e w2 ⟨rfl, hb⟩;rw [← HLL.o, ← HR.o, ← HQ.o];have HL2 := zh (HLb.o.trans (HLW.o.trans hb));have HWW := zh (show Zb W w2 from hb);have HE2 := yC hb HEW;have HRB2 := yC hb HRW;clear hb;go_wp2_with fail;refine ⟨HWW.o, ?_⟩;refine uU 11 8 ?_;simp only [yN];refine uU 12 20 ?_;simp only [yN];refine Zk9 13 (some 21) (v := ?_) rfl rfl (by kernel_rfl) (fun _ _ _ h => h) rfl (fun x => ?_) ?_;rotate_left
 ·go_simp <;> with_reducible rfl
 simp only [yN];refine Z6 [_, _] (by kernel_rfl) rfl rfl ?_;simp only [gA, gB, gC];have hmm := @run_makeMap Tryz.prog;have hm3 := Zsm.start TI (Zb.refl w2)
 go_upto_region 3 with (first | (refine Zkc Zxg Tryz.underlying199 (by assumption) rfl _ _ _ rfl rfl (by decide) rfl rfl (keyOf_int_mk Tryz.underlying3 (by decide)) (by decide) (by decide) ?_; clear hm3; intro w3 hm3) | (at_lookup; refine wpList_lookup_own_int _ rfl _ _ 199 rfl TI TI .i64 Zxg Tryz.underlying199 Tryz.underlying3 (Zxf _) _ 5 Zy6 rfl hm3.own _ (.int .i64 R) rfl (keyOf_int_mk Tryz.underlying3 (WalkArith.wf_i64 (by have := HLIM.o; omega))) ?_; intro c' hat hwc; have hc' := Zwm HLIM.o.2.2 hat; subst hc'; clear hat hwc))
 rename_i w3;have HL3 := zh hm3.later;have HE3 := zh ((hm3.later.block _ (Za HE2.o)).trans HE2.o);have HRB3 := zh ((hm3.later.block _ (Za HRB2.o)).trans HRB2.o);clear hm3 hmm;have c0 := Z1 HE3.o;have fc0 := fz HE3.o;have r0 := cz6 HRB3.o;have fr0 := fz HRB3.o;go_wp2_with fail;exact LoR.post Tryz.results108 (by rfl) (LoR.put (C := cM (R + 4) Q c.line) (LwI.put (HW.o.later (HL2.o.trans HL3.o)) HW.o HGE.o.2.1) HRB3.o rfl (CV.cm (fun _ => False) _ (by have := HLIM.o; omega) (by have := HLIM.o; omega) (by have := HLIM.o; exact Zbr (by omega) (by omega)) HC64.o) (fun b hb => hb.elim) (Tn.later (HL2.o.trans HL3.o))) HGE.o.2.1
end
theorem Ze0 (op : Int) (w : World) (hi : (op ≤ 0) ∨ (1 ≤ op ∧ op ≤ 11) ∨ (12 ≤ op ∧ op ≤ 19) ∨ (20 ≤ op ∧ op ≤ 25) ∨ (26 ≤ op ∧ op ≤ 29) ∨ (30 ≤ op ∧ op ≤ 35) ∨ (36 ≤ op ∧ op ≤ 39) ∨ (40 ≤ op ∧ op ≤ 47) ∨ (48 ≤ op ∧ op ≤ 49) ∨ (50 ≤ op ∧ op ≤ 54) ∨ (55 ≤ op ∧ op ≤ 59) ∨ (60 ≤ op ∧ op ≤ 63) ∨ (64 ≤ op ∧ op ≤ 69) ∨ (70 ≤ op ∧ op ≤ 79) ∨ (80 ≤ op ∧ op ≤ 80) ∨ (81 ≤ op ∧ op ≤ 81) ∨ (82 ≤ op ∧ op ≤ 219) ∨ (226 ≤ op ∧ op ≤ 249) ∨ (255 ≤ op)) (ht : Spc w) : Calls Tryz.prog 155 #[.int .i64 op] w fun e w' => e = .returned (.string ⟨(opT op).toArray⟩) ∧ Below w.heap.size w w' := by
 obtain ⟨R, hR⟩ : ∃ R, (⟨(opT op).toArray⟩ : ByteArray) = R := ⟨_, rfl⟩;rw [hR];have HR := zh hR;have HT := zh ht;clear hR ht
 rcases hi with hi | hi | hi | hi | hi | hi | hi | hi | hi | hi | hi | hi | hi | hi | hi | hi | hi | hi | hi
 all_goals (first | have : decide ((1 : Int) ≤ op) = true := nT (by omega) | have : decide ((1 : Int) ≤ op) = false := nU (by omega); first | have : decide ((20 : Int) ≤ op) = true := nT (by omega) | have : decide ((20 : Int) ≤ op) = false := nU (by omega); first | have : decide ((30 : Int) ≤ op) = true := nT (by omega) | have : decide ((30 : Int) ≤ op) = false := nU (by omega); first | have : decide ((40 : Int) ≤ op) = true := nT (by omega) | have : decide ((40 : Int) ≤ op) = false := nU (by omega); first | have : decide ((50 : Int) ≤ op) = true := nT (by omega) | have : decide ((50 : Int) ≤ op) = false := nU (by omega); first | have : decide ((60 : Int) ≤ op) = true := nT (by omega) | have : decide ((60 : Int) ≤ op) = false := nU (by omega); first | have : decide ((70 : Int) ≤ op) = true := nT (by omega) | have : decide ((70 : Int) ≤ op) = false := nU (by omega); first | have : decide ((220 : Int) ≤ op) = true := nT (by omega) | have : decide ((220 : Int) ≤ op) = false := nU (by omega); first | have : decide ((250 : Int) ≤ op) = true := nT (by omega) | have : decide ((250 : Int) ≤ op) = false := nU (by omega); first | have : decide (op ≤ (11 : Int)) = true := nT (by omega) | have : decide (op ≤ (11 : Int)) = false := nU (by omega); first | have : decide (op ≤ (25 : Int)) = true := nT (by omega) | have : decide (op ≤ (25 : Int)) = false := nU (by omega); first | have : decide (op ≤ (35 : Int)) = true := nT (by omega) | have : decide (op ≤ (35 : Int)) = false := nU (by omega); first | have : decide (op ≤ (47 : Int)) = true := nT (by omega) | have : decide (op ≤ (47 : Int)) = false := nU (by omega); first | have : decide (op ≤ (54 : Int)) = true := nT (by omega) | have : decide (op ≤ (54 : Int)) = false := nU (by omega); first | have : decide (op ≤ (63 : Int)) = true := nT (by omega) | have : decide (op ≤ (63 : Int)) = false := nU (by omega); first | have : decide (op ≤ (79 : Int)) = true := nT (by omega) | have : decide (op ≤ (79 : Int)) = false := nU (by omega); first | have : decide (op ≤ (225 : Int)) = true := nT (by omega) | have : decide (op ≤ (225 : Int)) = false := nU (by omega); first | have : decide (op ≤ (254 : Int)) = true := nT (by omega) | have : decide (op ≤ (254 : Int)) = false := nU (by omega))
 ·skip
  have : (op == (81 : Int)) = false := by rw [nH]; omega
  have hR0 : R = ⟨#[]⟩ := by rw [← HR.o, Zey (by omega)]
  subst hR0;go_enter Tryz.func155, Tryz.ntmps155;go_wp2_with fail;go_ret;exact ⟨rfl, Below.refl _ _⟩
 ·skip
  have : (op == (81 : Int)) = false := by rw [nH]; omega
  obtain ⟨k, hk⟩ : ∃ k : Nat, op - 1 = (k : Int) := ⟨(op - 1).toNat, by omega⟩;have hk1 : k < 11 := by omega
  have hk2 : (k : Int) < 11 := by omega
  have hR0 : R = ⟨(Zen.getD k []).toArray⟩ := by rw [← HR.o, Zyw hk hk1]
  have e0 := Zdx w Zen k hk1;rw [← hR0] at e0;obtain ⟨w1, hw1⟩ : ∃ w1, w.alloc (Zau Zen) = w1 := ⟨_, rfl⟩;have HW := zh hw1;rw [hw1] at e0;have HB := zh (show Below w.heap.size w w1 by rw [← hw1]; exact (Below.refl _ _).alloc (Nat.le_refl _) _);clear hw1 hR0 HR;go_enter Tryz.func155, Tryz.ntmps155;go_wp2_with fail;refine (Zr0 w HT.o).mono ?_;rintro e w' ⟨rfl, hw'⟩;rw [HW.o] at hw';subst hw';go_wp2_with fail;go_ret;exact ⟨rfl, HB.o⟩
 ·skip
  have : (op == (81 : Int)) = false := by rw [nH]; omega
  have hR0 : R = ⟨#[]⟩ := by rw [← HR.o, Zey (by omega)]
  subst hR0;go_enter Tryz.func155, Tryz.ntmps155;go_wp2_with fail;go_ret;exact ⟨rfl, Below.refl _ _⟩
 ·skip
  have : (op == (81 : Int)) = false := by rw [nH]; omega
  obtain ⟨k, hk⟩ : ∃ k : Nat, op - 20 = (k : Int) := ⟨(op - 20).toNat, by omega⟩;have hk1 : k < 6 := by omega
  have hk2 : (k : Int) < 6 := by omega
  have hR0 : R = ⟨(Ziq.getD k []).toArray⟩ := by rw [← HR.o, Zxw hk hk1]
  have e0 := Zdx w Ziq k hk1;rw [← hR0] at e0;obtain ⟨w1, hw1⟩ : ∃ w1, w.alloc (Zau Ziq) = w1 := ⟨_, rfl⟩;have HW := zh hw1;rw [hw1] at e0;have HB := zh (show Below w.heap.size w w1 by rw [← hw1]; exact (Below.refl _ _).alloc (Nat.le_refl _) _);clear hw1 hR0 HR;go_enter Tryz.func155, Tryz.ntmps155;go_wp2_with fail;refine (Zp0 w HT.o).mono ?_;rintro e w' ⟨rfl, hw'⟩;rw [HW.o] at hw';subst hw';go_wp2_with fail;go_ret;exact ⟨rfl, HB.o⟩
 ·skip
  have : (op == (81 : Int)) = false := by rw [nH]; omega
  have hR0 : R = ⟨#[]⟩ := by rw [← HR.o, Zey (by omega)]
  subst hR0;go_enter Tryz.func155, Tryz.ntmps155;go_wp2_with fail;go_ret;exact ⟨rfl, Below.refl _ _⟩
 ·skip
  have : (op == (81 : Int)) = false := by rw [nH]; omega
  obtain ⟨k, hk⟩ : ∃ k : Nat, op - 30 = (k : Int) := ⟨(op - 30).toNat, by omega⟩;have hk1 : k < 6 := by omega
  have hk2 : (k : Int) < 6 := by omega
  have hR0 : R = ⟨(Zj6.getD k []).toArray⟩ := by rw [← HR.o, Zxx hk hk1]
  have e0 := Zdx w Zj6 k hk1;rw [← hR0] at e0;obtain ⟨w1, hw1⟩ : ∃ w1, w.alloc (Zau Zj6) = w1 := ⟨_, rfl⟩;have HW := zh hw1;rw [hw1] at e0;have HB := zh (show Below w.heap.size w w1 by rw [← hw1]; exact (Below.refl _ _).alloc (Nat.le_refl _) _);clear hw1 hR0 HR;go_enter Tryz.func155, Tryz.ntmps155;go_wp2_with fail;refine (Zp1 w HT.o).mono ?_;rintro e w' ⟨rfl, hw'⟩;rw [HW.o] at hw';subst hw';go_wp2_with fail;go_ret;exact ⟨rfl, HB.o⟩
 ·skip
  have : (op == (81 : Int)) = false := by rw [nH]; omega
  have hR0 : R = ⟨#[]⟩ := by rw [← HR.o, Zey (by omega)]
  subst hR0;go_enter Tryz.func155, Tryz.ntmps155;go_wp2_with fail;go_ret;exact ⟨rfl, Below.refl _ _⟩
 ·skip
  have : (op == (81 : Int)) = false := by rw [nH]; omega
  obtain ⟨k, hk⟩ : ∃ k : Nat, op - 40 = (k : Int) := ⟨(op - 40).toNat, by omega⟩;have hk1 : k < 8 := by omega
  have hk2 : (k : Int) < 8 := by omega
  have hR0 : R = ⟨(Zj7.getD k []).toArray⟩ := by rw [← HR.o, Zxy hk hk1]
  have e0 := Zdx w Zj7 k hk1;rw [← hR0] at e0;obtain ⟨w1, hw1⟩ : ∃ w1, w.alloc (Zau Zj7) = w1 := ⟨_, rfl⟩;have HW := zh hw1;rw [hw1] at e0;have HB := zh (show Below w.heap.size w w1 by rw [← hw1]; exact (Below.refl _ _).alloc (Nat.le_refl _) _);clear hw1 hR0 HR;go_enter Tryz.func155, Tryz.ntmps155;go_wp2_with fail;refine (Zp2 w HT.o).mono ?_;rintro e w' ⟨rfl, hw'⟩;rw [HW.o] at hw';subst hw';go_wp2_with fail;go_ret;exact ⟨rfl, HB.o⟩
 ·skip
  have : (op == (81 : Int)) = false := by rw [nH]; omega
  have hR0 : R = ⟨#[]⟩ := by rw [← HR.o, Zey (by omega)]
  subst hR0;go_enter Tryz.func155, Tryz.ntmps155;go_wp2_with fail;go_ret;exact ⟨rfl, Below.refl _ _⟩
 ·skip
  have : (op == (81 : Int)) = false := by rw [nH]; omega
  obtain ⟨k, hk⟩ : ∃ k : Nat, op - 50 = (k : Int) := ⟨(op - 50).toNat, by omega⟩;have hk1 : k < 5 := by omega
  have hk2 : (k : Int) < 5 := by omega
  have hR0 : R = ⟨(Zir.getD k []).toArray⟩ := by rw [← HR.o, Zxz hk hk1]
  have e0 := Zdx w Zir k hk1;rw [← hR0] at e0;obtain ⟨w1, hw1⟩ : ∃ w1, w.alloc (Zau Zir) = w1 := ⟨_, rfl⟩;have HW := zh hw1;rw [hw1] at e0;have HB := zh (show Below w.heap.size w w1 by rw [← hw1]; exact (Below.refl _ _).alloc (Nat.le_refl _) _);clear hw1 hR0 HR;go_enter Tryz.func155, Tryz.ntmps155;go_wp2_with fail;refine (Zp3 w HT.o).mono ?_;rintro e w' ⟨rfl, hw'⟩;rw [HW.o] at hw';subst hw';go_wp2_with fail;go_ret;exact ⟨rfl, HB.o⟩
 ·skip
  have : (op == (81 : Int)) = false := by rw [nH]; omega
  have hR0 : R = ⟨#[]⟩ := by rw [← HR.o, Zey (by omega)]
  subst hR0;go_enter Tryz.func155, Tryz.ntmps155;go_wp2_with fail;go_ret;exact ⟨rfl, Below.refl _ _⟩
 ·skip
  have : (op == (81 : Int)) = false := by rw [nH]; omega
  obtain ⟨k, hk⟩ : ∃ k : Nat, op - 60 = (k : Int) := ⟨(op - 60).toNat, by omega⟩;have hk1 : k < 4 := by omega
  have hk2 : (k : Int) < 4 := by omega
  have hR0 : R = ⟨(Zj8.getD k []).toArray⟩ := by rw [← HR.o, Zx0 hk hk1]
  have e0 := Zdx w Zj8 k hk1;rw [← hR0] at e0;obtain ⟨w1, hw1⟩ : ∃ w1, w.alloc (Zau Zj8) = w1 := ⟨_, rfl⟩;have HW := zh hw1;rw [hw1] at e0;have HB := zh (show Below w.heap.size w w1 by rw [← hw1]; exact (Below.refl _ _).alloc (Nat.le_refl _) _);clear hw1 hR0 HR;go_enter Tryz.func155, Tryz.ntmps155;go_wp2_with fail;refine (Zp4 w HT.o).mono ?_;rintro e w' ⟨rfl, hw'⟩;rw [HW.o] at hw';subst hw';go_wp2_with fail;go_ret;exact ⟨rfl, HB.o⟩
 ·skip
  have : (op == (81 : Int)) = false := by rw [nH]; omega
  have hR0 : R = ⟨#[]⟩ := by rw [← HR.o, Zey (by omega)]
  subst hR0;go_enter Tryz.func155, Tryz.ntmps155;go_wp2_with fail;go_ret;exact ⟨rfl, Below.refl _ _⟩
 ·skip
  have : (op == (81 : Int)) = false := by rw [nH]; omega
  obtain ⟨k, hk⟩ : ∃ k : Nat, op - 70 = (k : Int) := ⟨(op - 70).toNat, by omega⟩;have hk1 : k < 10 := by omega
  have hk2 : (k : Int) < 10 := by omega
  have hR0 : R = ⟨(Zj9.getD k []).toArray⟩ := by rw [← HR.o, Zx1 hk hk1]
  have e0 := Zdx w Zj9 k hk1;rw [← hR0] at e0;obtain ⟨w1, hw1⟩ : ∃ w1, w.alloc (Zau Zj9) = w1 := ⟨_, rfl⟩;have HW := zh hw1;rw [hw1] at e0;have HB := zh (show Below w.heap.size w w1 by rw [← hw1]; exact (Below.refl _ _).alloc (Nat.le_refl _) _);clear hw1 hR0 HR;go_enter Tryz.func155, Tryz.ntmps155;go_wp2_with fail;refine (Zp5 w HT.o).mono ?_;rintro e w' ⟨rfl, hw'⟩;rw [HW.o] at hw';subst hw';go_wp2_with fail;go_ret;exact ⟨rfl, HB.o⟩
 ·skip
  have : (op == (81 : Int)) = false := by rw [nH]; omega
  have hR0 : R = ⟨#[]⟩ := by rw [← HR.o, Zey (by omega)]
  subst hR0;go_enter Tryz.func155, Tryz.ntmps155;go_wp2_with fail;go_ret;exact ⟨rfl, Below.refl _ _⟩
 ·skip
  have : (op == (81 : Int)) = true := by rw [beq_iff_eq]; omega
  have hR0 : R = ⟨#[100, 101, 102, 101, 114]⟩ := by rw [← HR.o, show op = 81 by omega]; rfl
  subst hR0;go_enter Tryz.func155, Tryz.ntmps155;go_wp2_with fail;go_ret;exact ⟨rfl, Below.refl _ _⟩
 ·skip
  have : (op == (81 : Int)) = false := by rw [nH]; omega
  have hR0 : R = ⟨#[]⟩ := by rw [← HR.o, Zey (by omega)]
  subst hR0;go_enter Tryz.func155, Tryz.ntmps155;go_wp2_with fail;go_ret;exact ⟨rfl, Below.refl _ _⟩
 ·skip
  have : (op == (81 : Int)) = false := by rw [nH]; omega
  have hR0 : R = ⟨#[]⟩ := by rw [← HR.o, Zey (by omega)]
  subst hR0;go_enter Tryz.func155, Tryz.ntmps155;go_wp2_with fail;go_ret;exact ⟨rfl, Below.refl _ _⟩
 ·skip
  have : (op == (81 : Int)) = false := by rw [nH]; omega
  have hR0 : R = ⟨#[]⟩ := by rw [← HR.o, Zey (by omega)]
  subst hR0;go_enter Tryz.func155, Tryz.ntmps155;go_wp2_with fail;go_ret;exact ⟨rfl, Below.refl _ _⟩
theorem Zlq (op : Int) (w : World) (hi : (220 ≤ op ∧ op ≤ 225) ∨ (250 ≤ op ∧ op ≤ 254)) (ht : Spc w) : Calls Tryz.prog 155 #[.int .i64 op] w fun e w' => e = .returned (.string ⟨(opT op).toArray⟩) ∧ Below w.heap.size w w' := by
 obtain ⟨R, hR⟩ : ∃ R, (⟨(opT op).toArray⟩ : ByteArray) = R := ⟨_, rfl⟩;rw [hR];have HR := zh hR;have HT := zh ht;clear hR ht
 rcases hi with hi | hi
 all_goals (first | have : decide ((1 : Int) ≤ op) = true := nT (by omega) | have : decide ((1 : Int) ≤ op) = false := nU (by omega); first | have : decide ((20 : Int) ≤ op) = true := nT (by omega) | have : decide ((20 : Int) ≤ op) = false := nU (by omega); first | have : decide ((30 : Int) ≤ op) = true := nT (by omega) | have : decide ((30 : Int) ≤ op) = false := nU (by omega); first | have : decide ((40 : Int) ≤ op) = true := nT (by omega) | have : decide ((40 : Int) ≤ op) = false := nU (by omega); first | have : decide ((50 : Int) ≤ op) = true := nT (by omega) | have : decide ((50 : Int) ≤ op) = false := nU (by omega); first | have : decide ((60 : Int) ≤ op) = true := nT (by omega) | have : decide ((60 : Int) ≤ op) = false := nU (by omega); first | have : decide ((70 : Int) ≤ op) = true := nT (by omega) | have : decide ((70 : Int) ≤ op) = false := nU (by omega); first | have : decide ((220 : Int) ≤ op) = true := nT (by omega) | have : decide ((220 : Int) ≤ op) = false := nU (by omega); first | have : decide ((250 : Int) ≤ op) = true := nT (by omega) | have : decide ((250 : Int) ≤ op) = false := nU (by omega); first | have : decide (op ≤ (11 : Int)) = true := nT (by omega) | have : decide (op ≤ (11 : Int)) = false := nU (by omega); first | have : decide (op ≤ (25 : Int)) = true := nT (by omega) | have : decide (op ≤ (25 : Int)) = false := nU (by omega); first | have : decide (op ≤ (35 : Int)) = true := nT (by omega) | have : decide (op ≤ (35 : Int)) = false := nU (by omega); first | have : decide (op ≤ (47 : Int)) = true := nT (by omega) | have : decide (op ≤ (47 : Int)) = false := nU (by omega); first | have : decide (op ≤ (54 : Int)) = true := nT (by omega) | have : decide (op ≤ (54 : Int)) = false := nU (by omega); first | have : decide (op ≤ (63 : Int)) = true := nT (by omega) | have : decide (op ≤ (63 : Int)) = false := nU (by omega); first | have : decide (op ≤ (79 : Int)) = true := nT (by omega) | have : decide (op ≤ (79 : Int)) = false := nU (by omega); first | have : decide (op ≤ (225 : Int)) = true := nT (by omega) | have : decide (op ≤ (225 : Int)) = false := nU (by omega); first | have : decide (op ≤ (254 : Int)) = true := nT (by omega) | have : decide (op ≤ (254 : Int)) = false := nU (by omega))
 ·skip
  have : (op == (81 : Int)) = false := by rw [nH]; omega
  obtain ⟨k, hk⟩ : ∃ k : Nat, op - 220 = (k : Int) := ⟨(op - 220).toNat, by omega⟩;have hR0 : R = ⟨(opT (op - 200)).toArray⟩ ++ ⟨#[58, 61]⟩ := by
   rw [← HR.o, (Zk1 hk (by omega)).1, (Zk1 hk (by omega)).2]
   apply Zh2
   simp [bl]
  have HC := zh (Ze0 (op - 200) w (by omega) HT.o);have hsm := Zmr (op - 200);obtain ⟨z, hz⟩ : ∃ z, (⟨(opT (op - 200)).toArray⟩ : ByteArray) = z := ⟨_, rfl⟩;have hzs : z.size ≤ 11 := by rw [← hz]; exact hsm
  have hzs' : ¬ (9223372036854775807 : Int) < (z.size : Int) + 2 := by omega
  have hzs2 : ¬ 9223372036854775807 < z.size + 2 := by omega
  rw [hz] at HC hR0;subst hR0;clear hsm hz hk;go_enter Tryz.func155, Tryz.ntmps155;go_wp2_with fail;refine HC.o.mono ?_;rintro e w1 ⟨rfl, hb1⟩;go_wp2_with fail;go_ret;exact ⟨rfl, hb1⟩
 ·skip
  have : (op == (81 : Int)) = false := by rw [nH]; omega
  obtain ⟨k, hk⟩ : ∃ k : Nat, op - 220 = (k : Int) := ⟨(op - 220).toNat, by omega⟩;have hR0 : R = ⟨(opT (op - 200)).toArray⟩ ++ ⟨#[58, 61]⟩ := by
   rw [← HR.o, (Zk1 hk (by omega)).1, (Zk1 hk (by omega)).2]
   apply Zh2
   simp [bl]
  have HC := zh (Ze0 (op - 200) w (by omega) HT.o);have hsm := Zmr (op - 200);obtain ⟨z, hz⟩ : ∃ z, (⟨(opT (op - 200)).toArray⟩ : ByteArray) = z := ⟨_, rfl⟩;have hzs : z.size ≤ 11 := by rw [← hz]; exact hsm
  have hzs' : ¬ (9223372036854775807 : Int) < (z.size : Int) + 2 := by omega
  have hzs2 : ¬ 9223372036854775807 < z.size + 2 := by omega
  rw [hz] at HC hR0;subst hR0;clear hsm hz hk;go_enter Tryz.func155, Tryz.ntmps155;go_wp2_with fail;refine HC.o.mono ?_;rintro e w1 ⟨rfl, hb1⟩;go_wp2_with fail;go_ret;exact ⟨rfl, hb1⟩
theorem Zha (op : Int) (w : World) (ht : Spc w) : Calls Tryz.prog 155 #[.int .i64 op] w fun e w' => e = .returned (.string ⟨(opT op).toArray⟩) ∧ Below w.heap.size w w' := by
 by_cases h : (220 ≤ op ∧ op ≤ 225) ∨ (250 ≤ op ∧ op ≤ 254)
 ·exact Zlq op w h ht
 ·exact Ze0 op w (by omega) ht
theorem Zwn {s : ByteArray} {op j : Nat} (o1 : 20 ≤ op) (h : opT (op : Nat) = bl s ∧ skO op = false ∧ ∀ k : Nat, 20 ≤ k → k < op → skO k = false → opT (k : Nat) ≠ bl s) (h1 : opT (j : Nat) = bl s) (hj0 : 20 ≤ j) (hs : skO j = false) (hJ : ∀ k : Nat, 20 ≤ k → k < j → skO k = false → opT (k : Nat) ≠ bl s) : (op : Int) = j := by
 by_cases e : j = op
 ·rw [e]
 ·by_cases e2 : j < op
  ·exact absurd h1 (h.2.2 j hj0 e2 hs)
  ·exact absurd h.1 (hJ op o1 (by omega) h.2.1)
theorem Zqc (s : ByteArray) (w : World) (ht : Spc w) : Calls Tryz.prog 112 #[.string s] w fun e w' => e = .returned (.int .i64 (unN s)) ∧ Zb w w' := by
 have HT := zh ht;clear ht;go_enter Tryz.func112, Tryz.ntmps112;go_wp2_with fail
 go_loopw [3] (fun iv wr => ∃ j : Nat, 1 ≤ j ∧ j ≤ 12 ∧ iv = .int .i64 j ∧ Hd (∀ k : Nat, 1 ≤ k → k < j → opT (k : Nat) ≠ bl s) ∧ Zb w wr) (fun iv _ => 12 - (intOf iv).toNat)
 case atStart => exact ⟨1, Nat.le_refl _, by decide, rfl, zh (fun k h1 h2 => by omega), Zb.refl _⟩
 case round =>
  obtain ⟨j, hj0, hj, rfl, HJ, hl⟩ := hrel;have HL := zh hl;clear hl
  by_cases hlt : j < 12
  ·have hlt' : (j : Int) ≤ 11 := by omega
   obtain ⟨S, hS⟩ : ∃ z, z = opT (j : Nat) := ⟨_, rfl⟩;have HS := zh hS;obtain ⟨t, ht⟩ : ∃ t : Bool, (S == s.toList) = t := ⟨_, rfl⟩;have HTT := zh (show (opT (j : Nat) = bl s) ↔ t = true by rw [← ht, beq_iff_eq, Zas, hS]);go_wp2_with fail;refine (Zha _ _ (HT.o.below HL.o)).mono ?_;rintro e w2 ⟨rfl, hb⟩;rw [← HS.o];have HL2 := zh (HL.o.trans hb);clear hb hS
   cases t with
   | true =>
    go_wp2_with fail;go_ret;exact ⟨Zu ((Zyy hj0 hlt (HTT.o.2 (by simp)) HJ.o).symm), HL2.o⟩
   | false =>
    go_wp2_with fail
    go_roundw
    case rel =>
     exact ⟨j + 1, by omega, by omega, by go_num, zh (fun k h1 h2 => by
      by_cases e : k = j
      ·subst e;exact fun he => by have := HTT.o.1 he; cases this
      ·exact HJ.o k h1 (by omega)), HL2.o⟩
    case measure => simp [intOf]; omega
  ·obtain rfl : j = 12 := by omega
   go_wp2_with fail;go_ret;exact ⟨Zu (Zyz (fun k h1 h2 => HJ.o k h1 h2)).symm, HL.o⟩
theorem Zpd (s : ByteArray) (w : World) (ht : Spc w) (h1 : Zd7 s = true) (h2 : bl s ≠ [124]) (h3 : bl s ≠ [92]) (h4 : bl s ≠ [63]) : Calls Tryz.prog 113 #[.string s] w fun e w' => e = .returned (.int .i64 (bnN s)) ∧ Zb w w' := by
 have HT := zh ht;clear ht;obtain ⟨op, hop, o1, o2, o3, o4, o5⟩ := Zne h1 h2 h3 h4;rw [hop];have HOP := zh (⟨o3, o4, o5⟩ : _ ∧ _ ∧ _);clear h1 h2 h3 h4 hop o3 o4 o5;go_enter Tryz.func113, Tryz.ntmps113;go_wp2_with fail
 go_loopw [3] (fun iv wr => ∃ j : Nat, 20 ≤ j ∧ j ≤ 255 ∧ iv = .int .i64 j ∧ Hd (∀ k : Nat, 20 ≤ k → k < j → skO k = false → opT (k : Nat) ≠ bl s) ∧ Zb w wr) (fun iv _ => 255 - (intOf iv).toNat)
 case atStart => exact ⟨20, Nat.le_refl _, by decide, rfl, zh (fun k h1 h2 => by omega), Zb.refl _⟩
 case round =>
  obtain ⟨j, hj0, hj, rfl, HJ, hl⟩ := hrel;have HL := zh hl;clear hl
  by_cases hlt : j < 255
  ·have hlt' : (j : Int) ≤ 254 := by omega
   cases hsk : skO j with
   | true =>
    have hsk2 := hsk;simp only [skO, Bool.or_eq_true, beq_iff_eq] at hsk2;have HSK := zh hsk;clear hsk hlt';have HNX := zh (show ∀ k : Nat, 20 ≤ k → k < j + 1 → skO k = false → opT (k : Nat) ≠ bl s from fun k h1 h2 h3 => by
     by_cases e : k = j
     ·subst e;rw [HSK.o] at h3
      cases h3
     ·exact HJ.o k h1 (by omega) h3)
    clear HSK
    rcases hsk2 with rfl | rfl | rfl | rfl | rfl | rfl
    all_goals (go_wp2_with fail; go_roundw)
    all_goals first
     | exact ⟨_, by decide, by decide, rfl, zh HNX.o, HL.o⟩
     | (simp [intOf]; try omega)
   | false =>
    have hsk2 := hsk;simp only [skO, Bool.or_eq_false_iff, nH] at hsk2;have HSK := zh hsk;have n79 : ((j : Int) != 79) = true := by simp; omega
    have n81 : ((j : Int) != 81) = true := by simp; omega
    have n70 : ((j : Int) != 70) = true := by simp; omega
    have n71 : ((j : Int) != 71) = true := by simp; omega
    have n72 : ((j : Int) != 72) = true := by simp; omega
    have n74 : ((j : Int) != 74) = true := by simp; omega
    clear hsk hsk2;obtain ⟨S, hS⟩ : ∃ z, z = opT (j : Nat) := ⟨_, rfl⟩;have HS := zh hS;obtain ⟨t, ht⟩ : ∃ t : Bool, (S == s.toList) = t := ⟨_, rfl⟩;have HTT := zh (show (opT (j : Nat) = bl s) ↔ t = true by rw [← ht, beq_iff_eq, Zas, hS]);go_wp2_with fail;refine (Zha _ _ (HT.o.below HL.o)).mono ?_;rintro e w2 ⟨rfl, hb⟩;rw [← HS.o];have HL2 := zh (HL.o.trans hb);clear hb hS n79 n81 n70 n71 n72 n74
    cases t with
    | true =>
     go_wp2_with fail;go_ret;exact ⟨Zu ((Zwn o1 HOP.o (HTT.o.2 (by simp)) hj0 HSK.o HJ.o).symm), HL2.o⟩
    | false =>
     go_wp2_with fail
     go_roundw
     case rel =>
      exact ⟨j + 1, by omega, by omega, by go_num, zh (fun k h1 h2 h3 => by
       by_cases e : k = j
       ·subst e;exact fun he => by have := HTT.o.1 he; cases this
       ·exact HJ.o k h1 (by omega) h3), HL2.o⟩
     case measure => simp [intOf]; omega
  ·obtain rfl : j = 255 := by omega
   exact absurd HOP.o.1 (HJ.o op o1 (by omega) HOP.o.2.1)
theorem Zks (lo hi b : Int) (w : World) (h0 : 0 ≤ b) (h1 : b < 256) :
  Calls Tryz.prog 192 #[.agg #[.int .i64 lo, .int .i64 hi], .int .u8 b] w fun e w' => e = .returned (.bool (hb lo hi b)) ∧ Below w.heap.size w w' := by
 by_cases h2 : 127 < b
 ·rw [Zty lo hi b h2];go_enter Tryz.func192, Tryz.ntmps192
  go_wp2
  go_ret;exact ⟨rfl, (Below.refl _ _).alloc (Nat.le_refl _) _⟩
 ·by_cases h3 : b < 64
  ·have hv := zh (Zmo lo hi b h0 h3);go_enter Tryz.func192, Tryz.ntmps192
   go_wp2
   go_ret;exact ⟨by rw [hv.o]; rfl, (Below.refl _ _).alloc (Nat.le_refl _) _⟩
  ·have hv := zh (Zmp lo hi b (by omega) (by omega));go_enter Tryz.func192, Tryz.ntmps192
   go_wp2
   go_ret;exact ⟨by rw [hv.o]; rfl, (Below.refl _ _).alloc (Nat.le_refl _) _⟩
theorem Zef (lo hi : Int) (w : World) :
  Calls Tryz.prog 180 #[.agg #[.int .i64 lo, .int .i64 hi]] w fun e w' => e = .returned (.string ⟨(Zbp lo hi 128).toArray⟩) ∧ Below w.heap.size w w' := by
 obtain ⟨i0, hi0, hz0, hz1, hz2⟩ := info_parts Zmy;have HCL := zh (Zj4 lo hi);have HSU := zh (Zik lo hi);obtain ⟨w1, hw1⟩ : ∃ w1, w1 = w.alloc (.cells #[.int .i64 lo, .int .i64 hi] 180) := ⟨_, rfl⟩;have HP := zh (show w1.heap[w.heap.size]? = some (.cells #[.int .i64 lo, .int .i64 hi] 180 (0, 0)) by rw [hw1]; exact heap_alloc_new w _);have hb1 : Below w.heap.size w w1 := by rw [hw1]; exact (Below.refl _ _).alloc (Nat.le_refl _) _
 have hlt1 : w.heap.size < w1.heap.size := by rw [hw1]; simp
 have hst0 := Zgt.start w1;rw [show w1.heap.size = w.heap.size + 1 by rw [hw1]; simp] at hst0;have HST0 := zh (show Zgt w1 [] (.slice (some ⟨w.heap.size + 1, 0, none⟩) 0 0) ((w.alloc (.cells #[.int .i64 lo, .int .i64 hi] 180)).alloc (.cells #[] 5)) by rw [← hw1]; exact hst0);clear hst0 hw1;go_enter Tryz.func180, Tryz.ntmps180;go_wp2_with fail
 go_loopw [3, 4] (fun v i wr => ∃ (j : Nat) (o : List UInt8) (v' : Value), i = .int .i64 j ∧ v' = v ∧ j ≤ 128 ∧ Hd (o = Zbp lo hi j) ∧ Zgt w1 o v' wr) (fun _ i _ => 128 - (intOf i).toNat)
 case atStart => exact ⟨0, [], _, rfl, rfl, by omega, zh rfl, HST0.o⟩
 case round =>
  obtain ⟨j, o, v, rfl, rfl, hj, HO, hst⟩ := hrel;have hsz := hst.bel.size;have HST := zh hst;clear hst
  by_cases hlt : j < 128
  ·have t1 : decide ((j : Int) < 128) = true := nT (by omega);have hwr : IntKind.u8.wrap (j : Int) = (j : Int) := by rw [IntKind.wrap_u8]; omega
   obtain ⟨c0, c1⟩ := Zfo ((HST.o.bel.block _ hlt1).trans HP.o);have HHB := zh (Zks lo hi (j : Int) wr (by omega) (by omega));have hol : o.length ≤ 128 := by rw [HO.o]; exact Nat.le_trans (HCL.o j) hj
   go_wp2_with fail;refine HHB.o.mono ?_;rintro e w2 ⟨rfl, hb2⟩;have HST2 := zh (HST.o.later hb2);have hsz2 := HST2.o.bel.size;clear hb2 c0 c1 HHB
   by_cases hh : hb lo hi (j : Int) = true
   ·have HO2 := zh (show o ++ [UInt8.ofNat j] = Zbp lo hi (j + 1) by rw [HSU.o, if_pos hh, HO.o]);have hcj : ((UInt8.ofNat j).toNat : Int) = (j : Int) := by rw [UInt8.toNat_ofNat', Nat.mod_eq_of_lt (by omega)]
    have HCJ := zh hcj;rw [hh];clear hh hcj
    go_wp2_with (at_builtin; refine wpList_append_own _ rfl _ _ 192 rfl w1.heap.size 5 i0 (.int .u8 0) 1 1 Tryz.underlying192 hi0 hz0 hz1 hz2 rfl (by decide) _ _ _ rfl (HST2.o.row.alloc _) ⟨w2.heap.size, 0, none⟩ 1 1 [.int .u8 (j : Int)] rfl rfl (cell_one_new _ _ _) (by simp [Value.oneCell']) (by unfold maxLen; omega) (by omega) (by simp; omega) ?_; intro v' w3 hown' hgrow hnil)
    have hst3 := HST2.o.push (UInt8.ofNat j) (j : Int) HCJ.o hown' hgrow hnil
    go_roundw
    case rel => exact ⟨j + 1, _, _, by go_num, rfl, by omega, HO2, hst3⟩
    case measure => simp [intOf]; omega
   ·have hh2 : hb lo hi (j : Int) = false := by simpa using hh
    have HO2 := zh (show o = Zbp lo hi (j + 1) by rw [HSU.o, if_neg hh, List.append_nil, HO.o]);rw [hh2];clear hh hh2;go_wp2_with fail
    go_roundw
    case rel => exact ⟨j + 1, o, _, by go_num, rfl, by omega, HO2, HST2.o⟩
    case measure => simp [intOf]; omega
  ·have t1 : decide ((j : Int) < 128) = false := nU (by omega);have hf : o = Zbp lo hi 128 := by rw [HO.o, show j = 128 by omega]
   obtain ⟨g1, cap1, hv⟩ := HST.o.form;subst hv;have e2 := HST.o.text;have HF := zh hf;clear hf;go_wp2_with fail;go_ret;refine ⟨?_, hb1.trans (Below.mono HST.o.bel hb1.size)⟩;rw [HF.o]; rfl
def orH (h b : Int) : Int := wrap64 (bits .or .u64 (IntKind.u64.wrap h) (IntKind.u64.wrap (2 ^ (b - 64).toNat)))
theorem Zmi (lo h b : Int) (w : World) (h0 : 64 ≤ b) (h1 : b < 128) : Calls Tryz.prog 191 #[.agg #[.int .i64 lo, .int .i64 h], .int .u8 b] w fun e w' => e = .returned (.agg #[.int .i64 lo, .int .i64 (orH h b)]) ∧ Zb w w' := by
 have HV := zh (show orH h b = wrap64 (bits .or .u64 (IntKind.u64.wrap h) (IntKind.u64.wrap (2 ^ (b - 64).toNat))) from rfl);have t1 : decide (b < 64) = false := by simp; omega
 go_enter Tryz.func191, Tryz.ntmps191;go_wp2_with fail;exact bodyPost_ret (v := .agg #[.int .i64 lo, .int .i64 (orH h b)]) (by rw [HV.o]; simp [results, Tryz.results191, go_sem]) rfl ⟨rfl, ((Zb.refl _).alloc _).alloc _⟩
def Zkt (f : Nat) : Nat → Int
 | 0 => 0
 | n + 1 => orH (Zkt f n) ((f + n : Nat) : Int)
theorem Zlr (f t : Nat) (w : World) (h0 : 64 ≤ f) (h1 : f ≤ t) (h2 : t ≤ 126) : Calls Tryz.prog 179 #[.int .u8 f, .int .u8 t] w fun e w' => e = .returned (.tuple #[.agg #[.int .i64 0, .int .i64 (Zkt f (t + 1 - f))], .bool true]) ∧ Zb w w' := by
 obtain ⟨wa, hla, hra, hwa⟩ := aN w (.cells #[.int .i64 0, .int .i64 0] 180);have hlb : Zb wa (wa.alloc (.cells #[.int .i64 0, .int .i64 0] 180)) := (Zb.refl _).alloc _;have hcb := heap_alloc_new wa (.cells #[.int .i64 0, .int .i64 0] 180);have hrb := (hlb.block _ (Za hra)).trans hra;obtain ⟨wb, hwb⟩ : ∃ z, wa.alloc (.cells #[.int .i64 0, .int .i64 0] 180) = z := ⟨_, rfl⟩;rw [hwb] at hlb hcb hrb;have hne : w.heap.size ≠ wa.heap.size := fun e => by have := Za hra; omega
 have hle := hla.size;obtain ⟨RB, hRB⟩ : ∃ z, w.heap.size = z := ⟨_, rfl⟩;obtain ⟨CB, hCB⟩ : ∃ z, wa.heap.size = z := ⟨_, rfl⟩;have HGE := zh (show w.heap.size ≤ RB ∧ w.heap.size ≤ CB ∧ RB ≠ CB from ⟨by omega, by omega, by omega⟩);rw [hRB] at hrb;rw [hCB] at hcb;have HCB := zh hcb;have HRB := zh hrb;have HLb := zh (hla.trans hlb);have HSTART := zh (⟨hwa, hRB⟩ : _ ∧ _);have HMID := zh (⟨hwb, hCB⟩ : _ ∧ _);clear hla hlb hra hcb hrb hne hle hwa hwb hRB hCB;have t1 : decide (t < f) = false := by simp; omega
 have t2 : decide (127 < (t : Int)) = false := by simp; omega
 have t3 : IntKind.i64.wrap (f : Int) = (f : Int) := by rw [IntWalk.i64_in _ (by omega)]
 have t4 : IntKind.i64.wrap (t : Int) = (t : Int) := by rw [IntWalk.i64_in _ (by omega)]
 go_enter Tryz.func179, Tryz.ntmps179;obtain ⟨hwa, hRB⟩ := HSTART.o;go_upto_region 4 with (fail);rw [HMID.o.1, HMID.o.2];clear hwa hRB;go_wp2_with fail
 go_loopw [7] (fun iv wr => ∃ (j : Nat) (X : Int), j ≤ t + 1 - f ∧ iv = .int .i64 X ∧ Hd (X = ((f + j : Nat) : Int)) ∧ wr.heap[CB]? = some (.cells #[.int .i64 0, .int .i64 (Zkt f j)] 180 (0, 0)) ∧ wr.heap[RB]? = some (.cells #[.int .i64 0, .int .i64 0] 180 (0, 0)) ∧ Zb w wr) (fun iv _ => t + 1 - (intOf iv).toNat)
 case atStart => exact ⟨0, _, Nat.zero_le _, rfl, zh rfl, HCB.o, HRB.o, HLb.o⟩
 case round =>
  obtain ⟨j, X, hj, rfl, HX, hc, hr, hl⟩ := hrel;have HC := zh hc;have HR := zh hr;have HL := zh hl;clear hr hl;obtain ⟨b0, b1⟩ := cz2 hc;have fb0 := fz hc;clear hc
  by_cases hlt : j < t + 1 - f
  ·have hlt' : X ≤ (t : Int) := by have := HX.o; omega
   have hx1 : 64 ≤ X ∧ X < 127 := by have := HX.o; omega
   have t5 : IntKind.u8.wrap X = X := by rw [IntKind.wrap_u8]; omega
   have HX1 := zh hx1;go_wp2_with fail;refine (Zmi 0 _ X wr HX1.o.1 (by have := HX1.o; omega)).mono ?_;rintro e w2 ⟨rfl, hb⟩;have HC2 := yC hb HC;have HR2 := yC hb HR;have HL2 := zh (HL.o.trans hb);clear hb b0 b1 fb0;have e1 := HC2.o;obtain ⟨b0, b1⟩ := cz2 e1;have fb0 := fz e1;clear e1;go_wp2_with fail
   go_roundw
   case rel => exact ⟨j + 1, _, by omega, rfl, zh (by rw [HX.o]; push_cast; omega), by rw [show Zkt f (j + 1) = orH (Zkt f j) X by rw [HX.o]; rfl]; exact Z0 (Z0 HC2.o _) _, (Below.heap_setCell _ _ _ _ HGE.o.2.2).trans ((Below.heap_setCell _ _ _ _ HGE.o.2.2).trans HR2.o), (HL2.o.setCell HGE.o.2.1 _).setCell HGE.o.2.1 _⟩
   case measure => have := HX.o; simp [intOf]; omega
  ·obtain rfl : j = t + 1 - f := by omega
   have hnle : ¬ X ≤ (t : Int) := by have := HX.o; omega
   have e1 := HR.o;have r0 := cz2 e1;have fr0 := fz e1;clear e1;obtain ⟨H, hH⟩ : ∃ z, z = Zkt f (t + 1 - f) := ⟨_, rfl⟩;rw [← hH] at b1;have HH := zh hH;clear hH;go_wp2_with fail;have e2 : ((wr.setCell ⟨RB, 0, none⟩ (.int .i64 0)).setCell ⟨RB, 1, none⟩ (.int .i64 H)).heap[RB]? = some (.cells #[.int .i64 0, .int .i64 H] 180 (0, 0)) := Z0 (Z0 HR.o _) _;have q0 := cz2 e2;have fq0 := fz e2;exact bodyPost_ret (v := .tuple #[.agg #[.int .i64 0, .int .i64 H], .bool true]) (by simp [results, Tryz.results179, go_sem, q0]) rfl ⟨by rw [HH.o], (HL.o.setCell HGE.o.1 _).setCell HGE.o.1 _⟩
theorem Zqd (a b c d : Int) (w : World) : Calls Tryz.prog 181 #[.agg #[.int .i64 a, .int .i64 b], .agg #[.int .i64 c, .int .i64 d]] w fun e w' => e = .returned (.agg #[.int .i64 (bits .or .i64 a c), .int .i64 (bits .or .i64 b d)]) ∧ Zb w w' := by
 go_enter Tryz.func181, Tryz.ntmps181;go_wp2_with fail;exact bodyPost_ret (v := .agg #[.int .i64 (bits .or .i64 a c), .int .i64 (bits .or .i64 b d)]) (by simp [results, Tryz.results181, go_sem]) rfl ⟨rfl, ((Zb.refl _).alloc _).alloc _ |>.alloc _⟩
theorem Zy8 : Zbp 0 (Zkt 97 26) 128 = kwT.getD 0 [] ∧ Zbp 0 (Zkt 65 26) 128 = kwT.getD 1 [] ∧ Zbp (bits .or .i64 0 0) (bits .or .i64 (Zkt 65 26) (Zkt 97 26)) 128 = kwT.getD 2 [] := by decide +kernel
def kwX (s : ByteArray) : List UInt8 := if bl s = [108, 99, 97, 115, 101] then kwT.getD 0 [] else if bl s = [117, 99, 97, 115, 101] then kwT.getD 1 [] else if bl s = [108, 101, 116, 116, 101, 114, 115] then kwT.getD 2 [] else kwT.getD 3 []
theorem Zku (s : ByteArray) (w : World) : Calls Tryz.prog 154 #[.string s] w fun e w' => e = .returned (.string ⟨(kwX s).toArray⟩) ∧ Zb w w' := by
 obtain ⟨R, hR⟩ : ∃ z, z = kwX s := ⟨_, rfl⟩;rw [← hR];have HR := zh hR;obtain ⟨H1, h1⟩ : ∃ z, z = Zkt 65 26 := ⟨_, rfl⟩;obtain ⟨H2, h2⟩ : ∃ z, z = Zkt 97 26 := ⟨_, rfl⟩;have htab := Zy8;rw [← h1, ← h2] at htab;have HTAB := zh htab;have HA := zh (Zlr 65 90 w (by decide) (by decide) (by decide));rw [show 90 + 1 - 65 = 26 from rfl, ← h1] at HA;have HB := zh (fun w => Zlr 97 122 w (by decide) (by decide) (by decide));rw [show 122 + 1 - 97 = 26 from rfl, ← h2] at HB;clear hR h1 h2 htab;go_enter Tryz.func154, Tryz.ntmps154;go_wp2_with fail;refine HA.o.mono ?_;rintro e w2 ⟨rfl, hb⟩;have HL2 := zh (show Zb w w2 from hb);clear hb;go_wp2_with fail;have hub := heap_alloc_new w2 (.cells #[.int .i64 0, .int .i64 H1] 180);have hl3 : Zb w2 (w2.alloc (.cells #[.int .i64 0, .int .i64 H1] 180)) := (Zb.refl _).alloc _;obtain ⟨w3, h3⟩ : ∃ z, w2.alloc (.cells #[.int .i64 0, .int .i64 H1] 180) = z := ⟨_, rfl⟩;rw [h3] at hub hl3 ⊢;obtain ⟨UB, hUB⟩ : ∃ z, w2.heap.size = z := ⟨_, rfl⟩;rw [hUB] at hub ⊢;have HUB := zh hub;have HL3 := zh (HL2.o.trans hl3);clear h3 hub hl3 hUB;refine (HB.o w3).mono ?_;rintro e w4 ⟨rfl, hb⟩;have HUB4 := yC hb HUB;have HL4 := zh (HL3.o.trans hb);clear hb;go_upto_region 3 with (fail);have hub := heap_alloc_new w4 (.cells #[.int .i64 0, .int .i64 H2] 180);have hl3 : Zb w4 (w4.alloc (.cells #[.int .i64 0, .int .i64 H2] 180)) := (Zb.refl _).alloc _;have hu5 := (hl3.block _ (Za HUB4.o)).trans HUB4.o;obtain ⟨w5, h3⟩ : ∃ z, w4.alloc (.cells #[.int .i64 0, .int .i64 H2] 180) = z := ⟨_, rfl⟩
 rw [h3] at hub hl3 hu5 ⊢;obtain ⟨LB, hUB⟩ : ∃ z, w4.heap.size = z := ⟨_, rfl⟩;rw [hUB] at hub ⊢;have HL5 := zh (HL4.o.trans hl3);have u0 := cz2 hu5;have fu0 := fz hu5;have l0 := cz2 hub;have fl0 := fz hub;clear h3 hl3 hUB hub hu5;obtain ⟨b1, e1⟩ : ∃ t : Bool, (s.toList == [108, 99, 97, 115, 101]) = t := ⟨_, rfl⟩;obtain ⟨b2, e2⟩ : ∃ t : Bool, (s.toList == [117, 99, 97, 115, 101]) = t := ⟨_, rfl⟩;obtain ⟨b3, e3⟩ : ∃ t : Bool, (s.toList == [108, 101, 116, 116, 101, 114, 115]) = t := ⟨_, rfl⟩;have HKW := zh (show R = if b1 = true then kwT.getD 0 [] else if b2 = true then kwT.getD 1 [] else if b3 = true then kwT.getD 2 [] else kwT.getD 3 [] by
  rw [HR.o, ← e1, ← e2, ← e3];simp only [beq_iff_eq, Zas]
  rfl)
 cases b1 with
 | true =>
  go_wp2_with fail;refine (Zef 0 H2 w5).mono ?_;rintro e w6 ⟨rfl, hb⟩;have HL6 := zh (HL5.o.trans hb);clear hb;go_wp2_with fail;go_ret;exact ⟨by rw [HKW.o, HTAB.o.1]; rfl, HL6.o⟩
 | false =>
 cases b2 with
 | true =>
  go_wp2_with fail;refine (Zef 0 H1 w5).mono ?_;rintro e w6 ⟨rfl, hb⟩;have HL6 := zh (HL5.o.trans hb);clear hb;go_wp2_with fail;go_ret;exact ⟨by rw [HKW.o, HTAB.o.2.1]; rfl, HL6.o⟩
 | false =>
 cases b3 with
 | true =>
  go_wp2_with fail;refine (Zqd 0 H1 0 H2 w5).mono ?_;rintro e w6 ⟨rfl, hb⟩;have HL6 := zh (HL5.o.trans hb);clear hb;go_wp2_with fail;refine (Zef _ _ w6).mono ?_;rintro e w7 ⟨rfl, hb⟩;have HL7 := zh (HL6.o.trans hb);clear hb;go_wp2_with fail;go_ret;exact ⟨by rw [HKW.o, HTAB.o.2.2]; rfl, HL7.o⟩
 | false =>
  go_wp2_with fail;go_ret;exact ⟨by rw [HKW.o]; rfl, HL5.o⟩
theorem Zwo {s : ByteArray} {line : Int} (h1 : bl s ≠ [110, 117, 108, 108]) (h2 : bl s ≠ [102, 97, 105, 108]) (h3 : bl s ≠ [115, 117, 98, 106, 101, 99, 116]) (h4 : bl s ≠ [112, 111, 115]) : kwC s line = tC 3 line ⟨(kwX s).toArray⟩ := by
 unfold kwC kwX;rw [if_neg h1, if_neg h2, if_neg h3, if_neg h4]
 repeat' split
 all_goals rfl
theorem Zwp (s : ByteArray) : (kwX s).length ≤ 1000 := by
 unfold kwX
 repeat' split
 all_goals decide
theorem Znp (n : Nat) (E : Zaz) (LB cs : Nat) (w : World) (c : Ze) (A : Option Addr) (k : Nat) (hw : LwI E LB cs w) (hv : EV n E.F w c A k) : Calls Tryz.prog 109 #[.pointer (some ⟨LB, 0, none⟩), .agg #[.int .i64 c.kind, .string c.text, .int .i64 c.aB, .int .i64 c.line, .slice A c.kids.length k]] w (LoP (LwI E LB) LB w (kwC c.text c.line) cs) := by
 have HC64 := zh hv.n2;obtain ⟨b0, e0⟩ : ∃ t : Bool, (c.text.toList == [110, 117, 108, 108]) = t := ⟨_, rfl⟩;have H0 := zh (show b0 = true ↔ bl c.text = [110, 117, 108, 108] by rw [← e0, beq_iff_eq, Zas]);obtain ⟨b1, e1⟩ : ∃ t : Bool, (c.text.toList == [102, 97, 105, 108]) = t := ⟨_, rfl⟩;have H1 := zh (show b1 = true ↔ bl c.text = [102, 97, 105, 108] by rw [← e1, beq_iff_eq, Zas]);obtain ⟨b2, e2⟩ : ∃ t : Bool, (c.text.toList == [115, 117, 98, 106, 101, 99, 116]) = t := ⟨_, rfl⟩;have H2 := zh (show b2 = true ↔ bl c.text = [115, 117, 98, 106, 101, 99, 116] by rw [← e2, beq_iff_eq, Zas]);obtain ⟨b3, e3⟩ : ∃ t : Bool, (c.text.toList == [112, 111, 115]) = t := ⟨_, rfl⟩;have H3 := zh (show b3 = true ↔ bl c.text = [112, 111, 115] by rw [← e3, beq_iff_eq, Zas]);have hks1 := hv.len;have HV := zh hv;have HW := zh hw;obtain ⟨wa, hla, heb, hwa⟩ := aN w (.cells #[.int .i64 c.kind, .string c.text, .int .i64 c.aB, .int .i64 c.line, .slice A c.kids.length k] 104);have hlb : Zb wa (wa.alloc (.cells #[.int .i64 0, .int .i64 0, .int .i64 0, .int .i64 0, .string ⟨#[]⟩, .slice none 0 0] Z7)) := (Zb.refl _).alloc _;have hrb := heap_alloc_new wa (.cells #[.int .i64 0, .int .i64 0, .int .i64 0, .int .i64 0, .string ⟨#[]⟩, .slice none 0 0] Z7);have heb2 := (hlb.block _ (Za heb)).trans heb;obtain ⟨wb, hwb⟩ : ∃ z, wa.alloc (.cells #[.int .i64 0, .int .i64 0, .int .i64 0, .int .i64 0, .string ⟨#[]⟩, .slice none 0 0] Z7) = z := ⟨_, rfl⟩;rw [hwb] at hlb hrb heb2
 have HLb := zh (Zb.trans hla hlb);have hsz : w.heap.size ≤ wa.heap.size := hla.size;have hne : w.heap.size ≠ wa.heap.size := fun e => by have := Za heb; omega
 obtain ⟨EB, hEB⟩ : ∃ z, w.heap.size = z := ⟨_, rfl⟩;obtain ⟨RB, hRB⟩ : ∃ z, wa.heap.size = z := ⟨_, rfl⟩;have HGE := zh (show w.heap.size ≤ EB ∧ w.heap.size ≤ RB ∧ EB ≠ RB from ⟨by omega, by omega, by omega⟩);rw [hEB] at heb2;rw [hRB] at hrb;have HEB := zh heb2;have HRB := zh hrb;have HSTART := zh (⟨hwa, hwb, hEB, hRB⟩ : _ ∧ _ ∧ _ ∧ _);clear hla hlb heb hrb heb2 hv hw hsz hne hwa hwb hEB hRB;have c0 := Z1 HEB.o;have fc0 := fz HEB.o;have r0 := cz6 HRB.o;have fr0 := fz HRB.o
 cases b0 with
 | true =>
  rw [show kwC c.text c.line = cN 4 c.line by unfold kwC; rw [if_pos (H0.o.1 rfl)]];go_enter Tryz.func109, Tryz.ntmps109;obtain ⟨hwa, hwb, hEB, hRB⟩ := HSTART.o;go_upto_region 1 with (fail);clear hwa hwb hEB hRB;go_wp2_with fail;exact LoR.post Tryz.results109 (by rfl) (LoR.put (C := cN 4 c.line) (LwI.put (HW.o.later HLb.o) HW.o HGE.o.2.1) HRB.o rfl (CV.cn (fun _ => False) _ (by decide) (by decide) HC64.o) (fun b hb => hb.elim) (Tn.later HLb.o)) HGE.o.2.1
 | false =>
 cases b1 with
 | true =>
  rw [show kwC c.text c.line = cN 28 c.line by unfold kwC; rw [if_neg (fun h => by have := H0.o.2 h; cases this), if_pos (H1.o.1 rfl)]];go_enter Tryz.func109, Tryz.ntmps109;obtain ⟨hwa, hwb, hEB, hRB⟩ := HSTART.o;go_upto_region 1 with (fail);clear hwa hwb hEB hRB;go_wp2_with fail;exact LoR.post Tryz.results109 (by rfl) (LoR.put (C := cN 28 c.line) (LwI.put (HW.o.later HLb.o) HW.o HGE.o.2.1) HRB.o rfl (CV.cn (fun _ => False) _ (by decide) (by decide) HC64.o) (fun b hb => hb.elim) (Tn.later HLb.o)) HGE.o.2.1
 | false =>
 cases b2 with
 | true =>
  rw [show kwC c.text c.line = cM 10 1 c.line by unfold kwC; rw [if_neg (fun h => by have := H0.o.2 h; cases this), if_neg (fun h => by have := H1.o.2 h; cases this), if_pos (H2.o.1 rfl)]];go_enter Tryz.func109, Tryz.ntmps109;obtain ⟨hwa, hwb, hEB, hRB⟩ := HSTART.o;go_upto_region 1 with (fail);clear hwa hwb hEB hRB;go_wp2_with fail;exact LoR.post Tryz.results109 (by rfl) (LoR.put (C := cM 10 1 c.line) (LwI.put (HW.o.later HLb.o) HW.o HGE.o.2.1) HRB.o rfl (CV.cm (fun _ => False) _ (by decide) (by decide) (Zbr (by decide) (by decide)) HC64.o) (fun b hb => hb.elim) (Tn.later HLb.o)) HGE.o.2.1
 | false =>
 cases b3 with
 | true =>
  rw [show kwC c.text c.line = cM 10 2 c.line by unfold kwC; rw [if_neg (fun h => by have := H0.o.2 h; cases this), if_neg (fun h => by have := H1.o.2 h; cases this), if_neg (fun h => by have := H2.o.2 h; cases this), if_pos (H3.o.1 rfl)]];go_enter Tryz.func109, Tryz.ntmps109;obtain ⟨hwa, hwb, hEB, hRB⟩ := HSTART.o;go_upto_region 1 with (fail);clear hwa hwb hEB hRB;go_wp2_with fail;exact LoR.post Tryz.results109 (by rfl) (LoR.put (C := cM 10 2 c.line) (LwI.put (HW.o.later HLb.o) HW.o HGE.o.2.1) HRB.o rfl (CV.cm (fun _ => False) _ (by decide) (by decide) (Zbr (by decide) (by decide)) HC64.o) (fun b hb => hb.elim) (Tn.later HLb.o)) HGE.o.2.1
 | false =>
 rw [Zwo (fun h => by have := H0.o.2 h; cases this) (fun h => by have := H1.o.2 h; cases this) (fun h => by have := H2.o.2 h; cases this) (fun h => by have := H3.o.2 h; cases this)];have hkl := Zwp c.text;obtain ⟨T, hT⟩ : ∃ z : ByteArray, z = ⟨(kwX c.text).toArray⟩ := ⟨_, rfl⟩;rw [← hT];have HTS := zh (show T.size ≤ maxLen by rw [hT]; show (kwX c.text).toArray.size ≤ maxLen; rw [List.size_toArray]; unfold maxLen; omega);have HT := zh hT;clear hT hkl;go_enter Tryz.func109, Tryz.ntmps109;obtain ⟨hwa, hwb, hEB, hRB⟩ := HSTART.o;go_upto_region 10 with (fail);clear hwa hwb hEB hRB;clear c0 fc0 r0 fr0;refine Zx [5, 6] [] (by kernel_rfl) (fun W hW => ?_);have hlW : Zb wb W := by rw [hW]; exact (Zb.refl _).drew
 have HLW := zh hlW;have HEW := yC hlW HEB;have HRW := yC hlW HRB;clear hlW hW;refine uU 0 27 ?_;simp only [yN];refine uU 1 28 (hy := fun x hx => by have hxe := (hx.block _ (Za HEW.o)).trans HEW.o; have c0 := Z1 hxe; have fc0 := fz hxe; go_simp <;> with_reducible rfl) ?_;simp only [yN];refine uU 3 30 ?_;simp only [yN];refine uU 4 31 (hy := fun x hx => by have hxe := (hx.block _ (Za HEW.o)).trans HEW.o; have c0 := Z1 hxe; have fc0 := fz hxe; go_simp <;> with_reducible rfl) ?_;simp only [yN];refine Z5 2 (by kernel_rfl) rfl rfl ?_;go_wp2_with fail;refine (Zku c.text W).mono ?_;rintro e w2 ⟨rfl, hb⟩;rw [← HT.o];have HL2 := zh (HLb.o.trans (HLW.o.trans hb));have HWW := zh hb;have HRB2 := yC hb HRW;clear hb;go_wp2_with fail;refine ⟨HWW.o, ?_⟩;refine Z6 [_, _] (by kernel_rfl) rfl rfl ?_;simp only [gA, gB, gC];have r0 := cz6 HRB2.o;have fr0 := fz HRB2.o;go_wp2_with fail;exact LoR.post Tryz.results109 (by rfl) (LoR.put (C := tC 3 c.line T) (LwI.put (HW.o.later HL2.o) HW.o HGE.o.2.1) HRB2.o rfl (CV.ct (fun _ => False) _ (by decide) (by decide) HC64.o HTS.o) (fun b hb => hb.elim) (Tn.later HL2.o)) HGE.o.2.1
section
def FrL (LB EB RB NB ZB : Nat) (a : Act) : Prop := Fr 344 [(0, .pointer (some ⟨LB, 0, none⟩)), (3, .pointer (some ⟨EB, 0, none⟩)), (4, .pointer (some ⟨RB, 0, none⟩)), (5, .pointer (some ⟨NB, 0, none⟩)), (6, .pointer (some ⟨ZB, 0, none⟩))] a
section
variable {LB EB RB NB ZB : Nat} {a : Act}
theorem FrL.opn (h : FrL LB EB RB NB ZB a) : ∃ f : Nat → Value, a = ⟨#[.pointer (some ⟨LB, 0, none⟩), f 1, f 2, .pointer (some ⟨EB, 0, none⟩), .pointer (some ⟨RB, 0, none⟩), .pointer (some ⟨NB, 0, none⟩), .pointer (some ⟨ZB, 0, none⟩), f 7, f 8, f 9, f 10, f 11, f 12, f 13, f 14, f 15, f 16, f 17, f 18, f 19, f 20, f 21, f 22, f 23, f 24, f 25, f 26, f 27, f 28, f 29, f 30, f 31, f 32, f 33, f 34, f 35, f 36, f 37, f 38, f 39, f 40, f 41, f 42, f 43, f 44, f 45, f 46, f 47, f 48, f 49, f 50, f 51, f 52, f 53, f 54, f 55, f 56, f 57, f 58, f 59, f 60, f 61, f 62, f 63, f 64, f 65, f 66, f 67, f 68, f 69, f 70, f 71, f 72, f 73, f 74, f 75, f 76, f 77, f 78, f 79, f 80, f 81, f 82, f 83, f 84, f 85, f 86, f 87, f 88, f 89, f 90, f 91, f 92, f 93, f 94, f 95, f 96, f 97, f 98, f 99, f 100, f 101, f 102, f 103, f 104, f 105, f 106, f 107, f 108, f 109, f 110, f 111, f 112, f 113, f 114, f 115, f 116, f 117, f 118, f 119, f 120, f 121, f 122, f 123, f 124, f 125, f 126, f 127, f 128, f 129, f 130, f 131, f 132, f 133, f 134, f 135, f 136, f 137, f 138, f 139, f 140, f 141, f 142, f 143, f 144, f 145, f 146, f 147, f 148, f 149, f 150, f 151, f 152, f 153, f 154, f 155, f 156, f 157, f 158, f 159, f 160, f 161, f 162, f 163, f 164, f 165, f 166, f 167, f 168, f 169, f 170, f 171, f 172, f 173, f 174, f 175, f 176, f 177, f 178, f 179, f 180, f 181, f 182, f 183, f 184, f 185, f 186, f 187, f 188, f 189, f 190, f 191, f 192, f 193, f 194, f 195, f 196, f 197, f 198, f 199, f 200, f 201, f 202, f 203, f 204, f 205, f 206, f 207, f 208, f 209, f 210, f 211, f 212, f 213, f 214, f 215, f 216, f 217, f 218, f 219, f 220, f 221, f 222, f 223, f 224, f 225, f 226, f 227, f 228, f 229, f 230, f 231, f 232, f 233, f 234, f 235, f 236, f 237, f 238, f 239, f 240, f 241, f 242, f 243, f 244, f 245, f 246, f 247, f 248, f 249, f 250, f 251, f 252, f 253, f 254, f 255, f 256, f 257, f 258, f 259, f 260, f 261, f 262, f 263, f 264, f 265, f 266, f 267, f 268, f 269, f 270, f 271, f 272, f 273, f 274, f 275, f 276, f 277, f 278, f 279, f 280, f 281, f 282, f 283, f 284, f 285, f 286, f 287, f 288, f 289, f 290, f 291, f 292, f 293, f 294, f 295, f 296, f 297, f 298, f 299, f 300, f 301, f 302, f 303, f 304, f 305, f 306, f 307, f 308, f 309, f 310, f 311, f 312, f 313, f 314, f 315, f 316, f 317, f 318, f 319, f 320, f 321, f 322, f 323, f 324, f 325, f 326, f 327, f 328, f 329, f 330, f 331, f 332, f 333, f 334, f 335, f 336, f 337, f 338, f 339, f 340, f 341, f 342, f 343], []⟩ := by
 obtain ⟨f, e, hf⟩ := Fr.lit h;obtain ⟨h0, h3, h4, h5, h6, -⟩ := h.has;refine ⟨f, e.trans ?_⟩;have k0 := Zi h0 (hf 0 (by omega));have k3 := Zi h3 (hf 3 (by omega));have k4 := Zi h4 (hf 4 (by omega));have k5 := Zi h5 (hf 5 (by omega));have k6 := Zi h6 (hf 6 (by omega));rw [← k0];rw [← k3];rw [← k4];rw [← k5];rw [← k6]
 rfl
theorem FrL.mk' {A : Array Value} (hs : A.size = 344) (h0 : A[0]? = some (.pointer (some ⟨LB, 0, none⟩))) (h3 : A[3]? = some (.pointer (some ⟨EB, 0, none⟩))) (h4 : A[4]? = some (.pointer (some ⟨RB, 0, none⟩))) (h5 : A[5]? = some (.pointer (some ⟨NB, 0, none⟩))) (h6 : A[6]? = some (.pointer (some ⟨ZB, 0, none⟩))) : FrL LB EB RB NB ZB ⟨A, []⟩ := ⟨hs, rfl, h0, h3, h4, h5, h6, trivial⟩
end
def Zce (RB : Nat) (a : Act) : Prop := Fr 344 [(4, .pointer (some ⟨RB, 0, none⟩))] a
section
variable {RB : Nat} {a : Act}
theorem Zce.opn (h : Zce RB a) : ∃ f : Nat → Value, a = ⟨#[f 0, f 1, f 2, f 3, .pointer (some ⟨RB, 0, none⟩), f 5, f 6, f 7, f 8, f 9, f 10, f 11, f 12, f 13, f 14, f 15, f 16, f 17, f 18, f 19, f 20, f 21, f 22, f 23, f 24, f 25, f 26, f 27, f 28, f 29, f 30, f 31, f 32, f 33, f 34, f 35, f 36, f 37, f 38, f 39, f 40, f 41, f 42, f 43, f 44, f 45, f 46, f 47, f 48, f 49, f 50, f 51, f 52, f 53, f 54, f 55, f 56, f 57, f 58, f 59, f 60, f 61, f 62, f 63, f 64, f 65, f 66, f 67, f 68, f 69, f 70, f 71, f 72, f 73, f 74, f 75, f 76, f 77, f 78, f 79, f 80, f 81, f 82, f 83, f 84, f 85, f 86, f 87, f 88, f 89, f 90, f 91, f 92, f 93, f 94, f 95, f 96, f 97, f 98, f 99, f 100, f 101, f 102, f 103, f 104, f 105, f 106, f 107, f 108, f 109, f 110, f 111, f 112, f 113, f 114, f 115, f 116, f 117, f 118, f 119, f 120, f 121, f 122, f 123, f 124, f 125, f 126, f 127, f 128, f 129, f 130, f 131, f 132, f 133, f 134, f 135, f 136, f 137, f 138, f 139, f 140, f 141, f 142, f 143, f 144, f 145, f 146, f 147, f 148, f 149, f 150, f 151, f 152, f 153, f 154, f 155, f 156, f 157, f 158, f 159, f 160, f 161, f 162, f 163, f 164, f 165, f 166, f 167, f 168, f 169, f 170, f 171, f 172, f 173, f 174, f 175, f 176, f 177, f 178, f 179, f 180, f 181, f 182, f 183, f 184, f 185, f 186, f 187, f 188, f 189, f 190, f 191, f 192, f 193, f 194, f 195, f 196, f 197, f 198, f 199, f 200, f 201, f 202, f 203, f 204, f 205, f 206, f 207, f 208, f 209, f 210, f 211, f 212, f 213, f 214, f 215, f 216, f 217, f 218, f 219, f 220, f 221, f 222, f 223, f 224, f 225, f 226, f 227, f 228, f 229, f 230, f 231, f 232, f 233, f 234, f 235, f 236, f 237, f 238, f 239, f 240, f 241, f 242, f 243, f 244, f 245, f 246, f 247, f 248, f 249, f 250, f 251, f 252, f 253, f 254, f 255, f 256, f 257, f 258, f 259, f 260, f 261, f 262, f 263, f 264, f 265, f 266, f 267, f 268, f 269, f 270, f 271, f 272, f 273, f 274, f 275, f 276, f 277, f 278, f 279, f 280, f 281, f 282, f 283, f 284, f 285, f 286, f 287, f 288, f 289, f 290, f 291, f 292, f 293, f 294, f 295, f 296, f 297, f 298, f 299, f 300, f 301, f 302, f 303, f 304, f 305, f 306, f 307, f 308, f 309, f 310, f 311, f 312, f 313, f 314, f 315, f 316, f 317, f 318, f 319, f 320, f 321, f 322, f 323, f 324, f 325, f 326, f 327, f 328, f 329, f 330, f 331, f 332, f 333, f 334, f 335, f 336, f 337, f 338, f 339, f 340, f 341, f 342, f 343], []⟩ := by
 obtain ⟨f, e, hf⟩ := Fr.lit h;obtain ⟨h4, -⟩ := h.has;refine ⟨f, e.trans ?_⟩;have k4 := Zi h4 (hf 4 (by omega));rw [← k4]
 rfl
theorem Zce.mk' {A : Array Value} (hs : A.size = 344) (h4 : A[4]? = some (.pointer (some ⟨RB, 0, none⟩))) : Zce RB ⟨A, []⟩ := ⟨hs, rfl, h4, trivial⟩
end
def Zpe (LB EB RB NB ZB : Nat) (kd : Int) (a : Act) : Prop := Fr 344 [(0, .pointer (some ⟨LB, 0, none⟩)), (3, .pointer (some ⟨EB, 0, none⟩)), (4, .pointer (some ⟨RB, 0, none⟩)), (5, .pointer (some ⟨NB, 0, none⟩)), (6, .pointer (some ⟨ZB, 0, none⟩)), (7, .int .i64 kd)] a
section
variable {LB EB RB NB ZB : Nat} {kd : Int} {a : Act}
theorem Zpe.opn (h : Zpe LB EB RB NB ZB kd a) : ∃ f : Nat → Value, a = ⟨#[.pointer (some ⟨LB, 0, none⟩), f 1, f 2, .pointer (some ⟨EB, 0, none⟩), .pointer (some ⟨RB, 0, none⟩), .pointer (some ⟨NB, 0, none⟩), .pointer (some ⟨ZB, 0, none⟩), .int .i64 kd, f 8, f 9, f 10, f 11, f 12, f 13, f 14, f 15, f 16, f 17, f 18, f 19, f 20, f 21, f 22, f 23, f 24, f 25, f 26, f 27, f 28, f 29, f 30, f 31, f 32, f 33, f 34, f 35, f 36, f 37, f 38, f 39, f 40, f 41, f 42, f 43, f 44, f 45, f 46, f 47, f 48, f 49, f 50, f 51, f 52, f 53, f 54, f 55, f 56, f 57, f 58, f 59, f 60, f 61, f 62, f 63, f 64, f 65, f 66, f 67, f 68, f 69, f 70, f 71, f 72, f 73, f 74, f 75, f 76, f 77, f 78, f 79, f 80, f 81, f 82, f 83, f 84, f 85, f 86, f 87, f 88, f 89, f 90, f 91, f 92, f 93, f 94, f 95, f 96, f 97, f 98, f 99, f 100, f 101, f 102, f 103, f 104, f 105, f 106, f 107, f 108, f 109, f 110, f 111, f 112, f 113, f 114, f 115, f 116, f 117, f 118, f 119, f 120, f 121, f 122, f 123, f 124, f 125, f 126, f 127, f 128, f 129, f 130, f 131, f 132, f 133, f 134, f 135, f 136, f 137, f 138, f 139, f 140, f 141, f 142, f 143, f 144, f 145, f 146, f 147, f 148, f 149, f 150, f 151, f 152, f 153, f 154, f 155, f 156, f 157, f 158, f 159, f 160, f 161, f 162, f 163, f 164, f 165, f 166, f 167, f 168, f 169, f 170, f 171, f 172, f 173, f 174, f 175, f 176, f 177, f 178, f 179, f 180, f 181, f 182, f 183, f 184, f 185, f 186, f 187, f 188, f 189, f 190, f 191, f 192, f 193, f 194, f 195, f 196, f 197, f 198, f 199, f 200, f 201, f 202, f 203, f 204, f 205, f 206, f 207, f 208, f 209, f 210, f 211, f 212, f 213, f 214, f 215, f 216, f 217, f 218, f 219, f 220, f 221, f 222, f 223, f 224, f 225, f 226, f 227, f 228, f 229, f 230, f 231, f 232, f 233, f 234, f 235, f 236, f 237, f 238, f 239, f 240, f 241, f 242, f 243, f 244, f 245, f 246, f 247, f 248, f 249, f 250, f 251, f 252, f 253, f 254, f 255, f 256, f 257, f 258, f 259, f 260, f 261, f 262, f 263, f 264, f 265, f 266, f 267, f 268, f 269, f 270, f 271, f 272, f 273, f 274, f 275, f 276, f 277, f 278, f 279, f 280, f 281, f 282, f 283, f 284, f 285, f 286, f 287, f 288, f 289, f 290, f 291, f 292, f 293, f 294, f 295, f 296, f 297, f 298, f 299, f 300, f 301, f 302, f 303, f 304, f 305, f 306, f 307, f 308, f 309, f 310, f 311, f 312, f 313, f 314, f 315, f 316, f 317, f 318, f 319, f 320, f 321, f 322, f 323, f 324, f 325, f 326, f 327, f 328, f 329, f 330, f 331, f 332, f 333, f 334, f 335, f 336, f 337, f 338, f 339, f 340, f 341, f 342, f 343], []⟩ := by
 obtain ⟨f, e, hf⟩ := Fr.lit h;obtain ⟨h0, h3, h4, h5, h6, h7, -⟩ := h.has;refine ⟨f, e.trans ?_⟩;have k0 := Zi h0 (hf 0 (by omega));have k3 := Zi h3 (hf 3 (by omega));have k4 := Zi h4 (hf 4 (by omega));have k5 := Zi h5 (hf 5 (by omega));have k6 := Zi h6 (hf 6 (by omega));have k7 := Zi h7 (hf 7 (by omega));rw [← k0];rw [← k3];rw [← k4];rw [← k5];rw [← k6];rw [← k7]
 rfl
theorem Zpe.mk' {A : Array Value} (hs : A.size = 344) (h0 : A[0]? = some (.pointer (some ⟨LB, 0, none⟩))) (h3 : A[3]? = some (.pointer (some ⟨EB, 0, none⟩))) (h4 : A[4]? = some (.pointer (some ⟨RB, 0, none⟩))) (h5 : A[5]? = some (.pointer (some ⟨NB, 0, none⟩))) (h6 : A[6]? = some (.pointer (some ⟨ZB, 0, none⟩))) (h7 : A[7]? = some (.int .i64 kd)) : Zpe LB EB RB NB ZB kd ⟨A, []⟩ := ⟨hs, rfl, h0, h3, h4, h5, h6, h7, trivial⟩
end
noncomputable def lwA15 : Code := cL (cT (cR (cE (cR (cE (cR (cE (cR (cE (cR (cE (cR (cB (cR (cL (cR (cR (cR (Zal Tryz.f59)))))))))))))))))))
noncomputable def lwA19 : Code := cL (cT (cR (cB (cR (cL (cT (cR (cE (cR (cE (cR (cE (cR (cE (cR (cE (cR (cE (cR (cB (cR (cL (cR (cR (cR (Zal Tryz.f59))))))))))))))))))))))))))
noncomputable def lwA21 : Code := cL (cT (cR (cE (cR (cB (cR (cL (cT (cR (cE (cR (cE (cR (cE (cR (cE (cR (cE (cR (cE (cR (cB (cR (cL (cR (cR (cR (Zal Tryz.f59))))))))))))))))))))))))))))
noncomputable def lwA22 : Code := cL (cR (cT (cR (cE (cR (cE (cR (cE (cR (cE (cR (cE (cR (cE (cR (cB (cR (cL (cR (cR (cR (Zal Tryz.f59))))))))))))))))))))))
noncomputable def lwA26 : Code := cL (cT (cR (cL (cR (cT (cR (cE (cR (cE (cR (cE (cR (cE (cR (cE (cR (cE (cR (cE (cR (cB (cR (cL (cR (cR (cR (Zal Tryz.f59)))))))))))))))))))))))))))
noncomputable def lwA27 : Code := cL (cR (cR (cT (cR (cE (cR (cE (cR (cE (cR (cE (cR (cE (cR (cE (cR (cE (cR (cB (cR (cL (cR (cR (cR (Zal Tryz.f59)))))))))))))))))))))))))
noncomputable def lwA34 : Code := cL (cT (cR (cE (cR (cE (cR (cE (cR (cE (cR (cE (cR (cE (cR (cE (cR (cE (cR (cE (cR (cB (cR (cL (cR (cR (cR (Zal Tryz.f59)))))))))))))))))))))))))))
noncomputable def lwA36 : Code := cL (cT (cR (cE (cR (cE (cR (cE (cR (cE (cR (cE (cR (cE (cR (cE (cR (cE (cR (cE (cR (cE (cR (cB (cR (cL (cR (cR (cR (Zal Tryz.f59)))))))))))))))))))))))))))))
noncomputable def lwA38 : Code := cL (cT (cR (cE (cR (cE (cR (cE (cR (cE (cR (cE (cR (cE (cR (cE (cR (cE (cR (cE (cR (cE (cR (cE (cR (cB (cR (cL (cR (cR (cR (Zal Tryz.f59)))))))))))))))))))))))))))))))
noncomputable def lwA40 : Code := cL (cT (cR (cE (cR (cE (cR (cE (cR (cE (cR (cE (cR (cE (cR (cE (cR (cE (cR (cE (cR (cE (cR (cE (cR (cE (cR (cB (cR (cL (cR (cR (cR (Zal Tryz.f59)))))))))))))))))))))))))))))))))
noncomputable def lwA42 : Code := cL (cT (cR (cE (cR (cE (cR (cE (cR (cE (cR (cE (cR (cE (cR (cE (cR (cE (cR (cE (cR (cE (cR (cE (cR (cE (cR (cE (cR (cB (cR (cL (cR (cR (cR (Zal Tryz.f59)))))))))))))))))))))))))))))))))))
noncomputable def lwA44 : Code := cL (cT (cR (cE (cR (cE (cR (cE (cR (cE (cR (cE (cR (cE (cR (cE (cR (cE (cR (cE (cR (cE (cR (cE (cR (cE (cR (cE (cR (cE (cR (cB (cR (cL (cR (cR (cR (Zal Tryz.f59)))))))))))))))))))))))))))))))))))))
noncomputable def lwA48 : Code := cL (cR (cT (cR (cE (cR (cE (cR (cE (cR (cE (cR (cE (cR (cE (cR (cE (cR (cE (cR (cE (cR (cE (cR (cE (cR (cE (cR (cE (cR (cE (cR (cE (cR (cB (cR (cL (cR (cR (cR (Zal Tryz.f59))))))))))))))))))))))))))))))))))))))))
noncomputable def lwA55 : Code := cL (cT (cR (cE (cR (cE (cR (cE (cR (cE (cR (cE (cR (cE (cR (cE (cR (cE (cR (cE (cR (cE (cR (cE (cR (cE (cR (cE (cR (cE (cR (cE (cR (cE (cR (cE (cR (cB (cR (cL (cR (cR (cR (Zal Tryz.f59)))))))))))))))))))))))))))))))))))))))))))
noncomputable def lwA57 : Code := cL (cT (cR (cE (cR (cE (cR (cE (cR (cE (cR (cE (cR (cE (cR (cE (cR (cE (cR (cE (cR (cE (cR (cE (cR (cE (cR (cE (cR (cE (cR (cE (cR (cE (cR (cE (cR (cE (cR (cB (cR (cL (cR (cR (cR (Zal Tryz.f59)))))))))))))))))))))))))))))))))))))))))))))
noncomputable def lwA59 : Code := cL (cT (cR (cE (cR (cE (cR (cE (cR (cE (cR (cE (cR (cE (cR (cE (cR (cE (cR (cE (cR (cE (cR (cE (cR (cE (cR (cE (cR (cE (cR (cE (cR (cE (cR (cE (cR (cE (cR (cE (cR (cB (cR (cL (cR (cR (cR (Zal Tryz.f59)))))))))))))))))))))))))))))))))))))))))))))))
noncomputable def lwA61 : Code := cL (cT (cR (cE (cR (cE (cR (cE (cR (cE (cR (cE (cR (cE (cR (cE (cR (cE (cR (cE (cR (cE (cR (cE (cR (cE (cR (cE (cR (cE (cR (cE (cR (cE (cR (cE (cR (cE (cR (cE (cR (cE (cR (cB (cR (cL (cR (cR (cR (Zal Tryz.f59)))))))))))))))))))))))))))))))))))))))))))))))))
noncomputable def lwA63 : Code := cL (cT (cR (cE (cR (cE (cR (cE (cR (cE (cR (cE (cR (cE (cR (cE (cR (cE (cR (cE (cR (cE (cR (cE (cR (cE (cR (cE (cR (cE (cR (cE (cR (cE (cR (cE (cR (cE (cR (cE (cR (cE (cR (cE (cR (cB (cR (cL (cR (cR (cR (Zal Tryz.f59)))))))))))))))))))))))))))))))))))))))))))))))))))
noncomputable def lwA67 : Code := cL (cT (cR (cE (cR (cE (cR (cE (cR (cE (cR (cE (cR (cE (cR (cE (cR (cE (cR (cE (cR (cE (cR (cE (cR (cE (cR (cE (cR (cE (cR (cE (cR (cE (cR (cE (cR (cE (cR (cE (cR (cE (cR (cE (cR (cE (cR (cE (cR (cB (cR (cL (cR (cR (cR (Zal Tryz.f59)))))))))))))))))))))))))))))))))))))))))))))))))))))))
noncomputable def lwA69 : Code := cL (cT (cR (cE (cR (cE (cR (cE (cR (cE (cR (cE (cR (cE (cR (cE (cR (cE (cR (cE (cR (cE (cR (cE (cR (cE (cR (cE (cR (cE (cR (cE (cR (cE (cR (cE (cR (cE (cR (cE (cR (cE (cR (cE (cR (cE (cR (cE (cR (cE (cR (cB (cR (cL (cR (cR (cR (Zal Tryz.f59)))))))))))))))))))))))))))))))))))))))))))))))))))))))))
noncomputable def lwA73 : Code := cL (cT (cR (cE (cR (cE (cR (cE (cR (cE (cR (cE (cR (cE (cR (cE (cR (cE (cR (cE (cR (cE (cR (cE (cR (cE (cR (cE (cR (cE (cR (cE (cR (cE (cR (cE (cR (cE (cR (cE (cR (cE (cR (cE (cR (cE (cR (cE (cR (cE (cR (cE (cR (cE (cR (cB (cR (cL (cR (cR (cR (Zal Tryz.f59)))))))))))))))))))))))))))))))))))))))))))))))))))))))))))))
noncomputable def lwA76 : Code := cL (cR (cR (cR (cR (Zal Tryz.f59)))))
structure LxB (E : Zaz) (LB cs : Nat) (c : Ze) (A : Option Addr) (k : Nat) (EB RB NB ZB : Nat) (w x : World) : Prop where
 eb : x.heap[EB]? = some (.cells #[.int .i64 c.kind, .string c.text, .int .i64 c.aB, .int .i64 c.line, .slice A c.kids.length k] 104 (0, 0))
 rb : x.heap[RB]? = some (.cells #[.int .i64 0, .int .i64 0, .int .i64 0, .int .i64 0, .string ⟨#[]⟩, .slice none 0 0] Z7 (0, 0))
 nb : x.heap[NB]? = some (.cells #[.int .i64 28, .int .i64 0, .int .i64 0, .int .i64 c.line, .string ⟨#[]⟩, .slice none 0 0] Z7 (0, 0))
 zb : x.heap[ZB]? = some (.cells #[.int .i64 4, .int .i64 0, .int .i64 0, .int .i64 c.line, .string ⟨#[]⟩, .slice none 0 0] Z7 (0, 0))
 tn : Tn (fun b => b = LB) w x
 bs : LwI E LB cs w
 ge : w.heap.size ≤ EB ∧ w.heap.size ≤ RB ∧ w.heap.size ≤ NB ∧ w.heap.size ≤ ZB
theorem LxB.keep {E : Zaz} {LB cs : Nat} {c : Ze} {A : Option Addr} {k : Nat} {EB RB NB ZB : Nat} {w x y : World} (h : LxB E LB cs c A k EB RB NB ZB w x) (hk : Tn (fun b => b = LB) x y) : LxB E LB cs c A k EB RB NB ZB w y := by
 have h0 := Za h.bs.blk;have hg := h.ge;exact ⟨hk.has h.eb (by omega), hk.has h.rb (by omega), hk.has h.nb (by omega), hk.has h.zb (by omega), h.tn.tr hk, h.bs, h.ge⟩
theorem LxB.later {E : Zaz} {LB cs : Nat} {c : Ze} {A : Option Addr} {k : Nat} {EB RB NB ZB : Nat} {w x y : World} (h : LxB E LB cs c A k EB RB NB ZB w x) (hk : Zb x y) : LxB E LB cs c A k EB RB NB ZB w y := h.keep (Tn.later hk)
theorem LxB.ev {E : Zaz} {LB cs : Nat} {c : Ze} {A : Option Addr} {k : Nat} {EB RB NB ZB : Nat} {w x : World} {n : Nat} (h : LxB E LB cs c A k EB RB NB ZB w x) (hv : EV n E.F w c A k) : EV n E.F x c A k := hv.keep (fun _ h => h) (h.tn.keeps h.bs.nF)
def Iv (a b : Nat) : Nat → Prop := fun y => a ≤ y ∧ y < b
theorem LxB.fin {E : Zaz} {LB cs : Nat} {c : Ze} {A : Option Addr} {k : Nat} {EB RB NB ZB : Nat} {w w5 x : World} {C : Zf} {A' : Option Addr} {q j a b : Nat} (h5 : LxB E LB cs c A k EB RB NB ZB w w5) (h : LxB E LB cs c A k EB RB NB ZB w x) (hst : LwI E LB j x) (hC : CV (Iv a b) x C (.slice A' C.kids.length q)) (ha : w5.heap.size ≤ a) :
  LoR (LwI E LB) LB RB w C j ((((((x.setCell ⟨RB, 0, none⟩ (.int .i64 C.kind)).setCell ⟨RB, 1, none⟩ (.int .i64 C.op)).setCell ⟨RB, 2, none⟩ (.int .i64 C.aB)).setCell ⟨RB, 3, none⟩ (.int .i64 C.line)).setCell ⟨RB, 4, none⟩ (.string C.text)).setCell ⟨RB, 5, none⟩ (.slice A' C.kids.length q)) :=
 LoR.put (LwI.put hst h.bs h.ge.2.1) h.rb rfl hC (fun b hb => by have := hb.1; have := Za h5.rb; have := h.tn.size; have := h5.tn.size; omega) (h.tn.mono fun b _ hb => .inl hb)
theorem LxB.own {E : Zaz} {LB cs : Nat} {c : Ze} {A : Option Addr} {k : Nat} {EB RB NB ZB : Nat} {w w5 x y : World} (h : LxB E LB cs c A k EB RB NB ZB w x) (h5 : LxB E LB cs c A k EB RB NB ZB w w5) (hk : Tn (fun b => w5.heap.size ≤ b) x y) : LxB E LB cs c A k EB RB NB ZB w y := by
 have e1 := Za h5.eb;have e2 := Za h5.rb;have e3 := Za h5.nb;have e4 := Za h5.zb;exact ⟨hk.has h.eb (by omega), hk.has h.rb (by omega), hk.has h.nb (by omega), hk.has h.zb (by omega), h.tn.trans hk (fun _ h => h) (fun b hb hq => by have := h5.tn.size; omega), h.bs, h.ge⟩
theorem LxB.state {E : Zaz} {LB cs : Nat} {c : Ze} {A : Option Addr} {k : Nat} {EB RB NB ZB : Nat} {w w5 x y : World} {j : Nat} (h : LxB E LB cs c A k EB RB NB ZB w x) (h5 : LxB E LB cs c A k EB RB NB ZB w w5) (hs : LwI E LB j x) (hk : Tn (fun b => w5.heap.size ≤ b) x y) : LwI E LB j y := hs.keep hk fun b hb => by
 have h0 := Za h.bs.blk;have h1 := h5.tn.size;have hg := World.block_lt_of_cell? w _ (h.bs.sp.cell Zfh 0 (by decide +kernel));exact ⟨by omega, fun hF => by have := h.bs.un.flt b hF; omega, fun e => by omega⟩
theorem LoC.all {E : Zaz} {n cs : Nat} {c : Ze} (h : LoC E n c cs) {j : Nat} (hj : c.kids.length ≤ j) : cs + Zbu c.kind + Za3 (c.kids.take j) = cs + csX c := by rw [List.take_of_length_le hj, Zg3]; omega
theorem CV.tn {LB a b : Nat} {w x : World} {C : Zf} {v : Value} (h : CV (Iv a b) w C v) (hk : Tn (fun b => b = LB) w x) (ha : LB < a) : CV (Iv a b) x C v := h.keep (fun _ h => h) (hk.keeps fun y hy e => by have := hy.1; omega)
theorem Zaw {k : Int} (h : k ≠ 20) : Zbu k = 0 := by unfold Zbu; rw [if_neg h]
theorem LoP.core {I : Nat → World → Prop} {LB : Nat} {w : World} {C : Zf} {j : Nat} {e : Ending} {w' : World} (h : LoP I LB w C j e w') : ∃ A q, e = .returned (.agg #[.int .i64 C.kind, .int .i64 C.op, .int .i64 C.aB, .int .i64 C.line, .string C.text, .slice A C.kids.length q]) ∧ CV (Iv w.heap.size w'.heap.size) w' C (.slice A C.kids.length q) := by
 obtain ⟨v, rfl, hcv⟩ := h.o;obtain ⟨A, q, rfl, -, -⟩ := hcv.form;exact ⟨A, q, rfl, hcv.trim.keep (fun b hb => hb) (Zc.refl _ _)⟩
section
variable {w : World} {B a0 b0 a1 b1 a2 b2 : Nat} {c0 c1 c2 : Zf} {v0 v1 v2 : Value}
theorem Zq2 (hb : w.heap[B]? = some (.cells (c0.cells v0).toArray Z7 (0, 0))) (h0 : CV (Iv a0 b0) w c0 v0) (q0 : b0 ≤ B) (q : a0 ≤ b0) : Zz Zbe 6 Z7 (Iv a0 (B + 1)) w [c0] (.slice (some ⟨B, 0, none⟩) 1 1) :=
 Zx2 hb h0 ⟨by omega, by omega⟩ fun y hy => ⟨⟨hy.1, by have := hy.2; omega⟩, by have := hy.2; omega⟩
theorem Zm0 (hb : w.heap[B]? = some (.cells (c0.cells v0 ++ c1.cells v1).toArray Z7 (0, 0))) (h0 : CV (Iv a0 b0) w c0 v0) (h1 : CV (Iv a1 b1) w c1 v1) (q : a0 ≤ b0 ∧ b0 ≤ a1 ∧ a1 ≤ b1 ∧ b1 ≤ B) : Zz Zbe 6 Z7 (Iv a0 (B + 1)) w [c0, c1] (.slice (some ⟨B, 0, none⟩) 2 2) :=
 Znf hb h0 h1 ⟨by omega, by omega⟩ (fun y hy => ⟨⟨hy.1, by have := hy.2; omega⟩, by have := hy.2; omega⟩) (fun y hy => ⟨⟨by have := hy.1; omega, by have := hy.2; omega⟩, by have := hy.2; omega⟩) fun y hy hz => by have := hy.2; have := hz.1; omega
theorem Zxn (hb : w.heap[B]? = some (.cells (c0.cells v0 ++ (c1.cells v1 ++ c2.cells v2)).toArray Z7 (0, 0))) (h0 : CV (Iv a0 b0) w c0 v0) (h1 : CV (Iv a1 b1) w c1 v1) (h2 : CV (Iv a2 b2) w c2 v2) (q : a0 ≤ b0 ∧ b0 ≤ a1 ∧ a1 ≤ b1 ∧ b1 ≤ a2 ∧ a2 ≤ b2 ∧ b2 ≤ B) : Zz Zbe 6 Z7 (Iv a0 (B + 1)) w [c0, c1, c2] (.slice (some ⟨B, 0, none⟩) 3 3) :=
 Zsf hb h0 h1 h2 ⟨by omega, by omega⟩ (fun y hy => ⟨⟨hy.1, by have := hy.2; omega⟩, by have := hy.2; omega⟩) (fun y hy => ⟨⟨by have := hy.1; omega, by have := hy.2; omega⟩, by have := hy.2; omega⟩) (fun y hy => ⟨⟨by have := hy.1; omega, by have := hy.2; omega⟩, by have := hy.2; omega⟩) (fun y hy hz => by have := hy.2; have := hz.1; omega) (fun y hy hz => by have := hy.2; have := hz.1; omega) fun y hy hz => by have := hy.2; have := hz.1; omega
end
end
section
section
variable {P : Program} {ops : Array Oper} {Q : Exit → Act → World → Prop} {S : World → Prop}
def wpV (P : Program) (ops : Array Oper) (Q : Exit → Act → World → Prop) (L U : List Nat) (S : World → Prop) (fuel : Nat) (listed : Array Bool) (a : Act) (w : World) : Prop :=
 Zdg P .any ops Q (Zgf L U) (Zgz U) S fuel listed a w
theorem Zap (L U : List Nat) (S : World → Prop) {id : Nat} {a : Act} {w : World} (hm : P.follows .mixedOrders = true)
  (h : ∀ w1, w1 = w.drew → wpV P ops Q L U S ops.size (Array.replicate ops.size false) a w1) : (Code.region id ops true).wp P Q a w :=
 wp_region_any hm (Zge _ _ _ _ (h w.drew rfl))
theorem Zu2 (i : Nat) (d : Option Tmp) {L U : List Nat} {oi : Oper} {v : Value} {fuel : Nat} {listed : Array Bool} {a : Act} {w : World} (hi : ops[i]? = some oi) (hd : oi.dst = d)
  (hB : Zhv ops L listed i = true)
  (hQ : ∀ c a w, Q (.panic c) (a.put d v) w → Q (.panic c) a w)
  (hw : Region.wanted oi (yielded ops a.tmps) = true) (hS : S w) (hy : ∀ x, S x → (execOp a.eval oi).run P x = .ok (.value v) x)
  (h : wpV P ops Q L U S fuel (listed.setIfInBounds i true) (a.put d v) w) : wpV P ops Q L U S (fuel + 1) listed a w := by
 subst hd;simp only [Zhv, Bool.and_eq_true] at hB;obtain ⟨⟨⟨⟨hs, hf⟩, hr⟩, hc⟩, ht⟩ := hB;refine Ze6 hi (Region.noSelect_spec hs) hQ (fun j _ htj => ?_) fuel listed a w (Region.free_spec hi hf) (Zhi hc) (by simpa using hr) (.inl ⟨hw, hy⟩) hS h;simp only [Zgf, Bool.or_eq_true] at htj
 rcases htj with h1 | h1
 ·exact .inr (List.all_eq_true.1 ht j (by simpa using h1))
 ·exact .inl h1
theorem uV {P : Program} {ops : Array Oper} {Q : Exit → Act → World → Prop} {S : World → Prop} (i d : Nat) {L U : List Nat} {oi : Oper} {v : Value} {fuel : Nat} {listed : Array Bool} {a : Act} {w : World} (hS : S w) (h : wpV P ops Q L U S fuel (listed.setIfInBounds i true) (a.put (some d) v) w) (hi : ops[i]? = some oi := by exact rfl) (hd : oi.dst = some d := by exact rfl) (hy : ∀ x, S x → (execOp a.eval oi).run P x = .ok (.value v) x := by intro x hx; go_simp <;> first | with_reducible rfl | rw [if_neg (by omega)] | rw [if_pos (by omega)]) (hB : Zhv ops L listed i = true := by kernel_rfl) (hQ : ∀ c a w, Q (.panic c) (a.put (some d) v) w → Q (.panic c) a w := by exact fun _ _ _ h => h) (hw : Region.wanted oi (yielded ops a.tmps) = true := by rfl) : wpV P ops Q L U S (fuel + 1) listed a w := Zu2 i (some d) hi hd hB hQ hw hS hy h
def Zgo (Q : Exit → Act → World → Prop) (S : World → Prop) (K : Act → World → Prop) : Exit → Act → World → Prop
 | .normal, a', w' => S w' ∧ K a' w'
 | e, a', w' => Q e a' w'
theorem Zv (i : Nat) {L U : List Nat} {o : Oper} {fuel : Nat} {listed : Array Bool} {a : Act} {w : World} (hr : Region.ready .any ops listed = [i]) (hu : U.contains i = false) (ho : ops[i]? = some o)
  (h : wpList P ops (Zgo Q S (fun a' w' => wpV P ops Q L U S fuel (listed.setIfInBounds i true) a' w')) [o] a w) : wpV P ops Q L U S (fuel + 1) listed a w := by
 refine ⟨fun h0 => (by rw [hr] at h0; cases h0), fun j hj => ?_⟩;rw [hr] at hj;obtain rfl : j = i := by simpa using hj
 unfold wpList at h;unfold wpOp;rw [ho];have hK : ∀ a' w', wpList P ops (Zgo Q S (fun a' w' => wpV P ops Q L U S fuel (listed.setIfInBounds j true) a' w')) [] a' w' →
   (((Zgf L U j = false → S w') ∧ (Zgz U j = true → w' = w)) ∧ Zdg P .any ops Q (Zgf L U) (Zgz U) S fuel (listed.setIfInBounds j true) a' w') := fun a' w' h' =>
  ⟨⟨fun _ => h'.1, fun h0 => (by unfold Zgz at h0; rw [hu] at h0; cases h0)⟩, h'.2⟩
 have hup : o.wp P a w (wpList P ops (Zgo Q S (fun a' w' => wpV P ops Q L U S fuel (listed.setIfInBounds j true) a' w')) []) (Zgo Q S (fun a' w' => wpV P ops Q L U S fuel (listed.setIfInBounds j true) a' w')) →
   o.wp P a w (wpList P ops (Zgo Q S (fun a' w' => wpV P ops Q L U S fuel (listed.setIfInBounds j true) a' w')) []) Q := fun h' => by
  unfold Oper.wp at *
  generalize (execOp a.eval o).run P w = r at *
  cases r with
  | ok n w' => cases n <;> exact h'
  | halt x w' => cases x <;> exact h'
 show if Region.wanted o (yielded ops a.tmps) = true then _ else _
 split
 ·rename_i hw;rw [if_pos hw] at h
  rcases h with h | ⟨h1, h2⟩
  ·exact .inl (Oper.wp_mono hK (hup h))
  ·exact .inr ⟨h1, h2⟩
 ·rename_i hw;rw [if_neg hw] at h;exact hK _ _ h
theorem Zay {L U : List Nat} (os : List Oper) {n : Nat} {listed : Array Bool} {a : Act} {w : World} (hB : Zqm ops L U listed = true) (hn : L.length = n) (hos : L.map (ops[·]?) = os.map some)
  (h : wpList P ops Q os a w) : wpV P ops Q L U S n listed a w := by
 subst hn;simp only [Zqm, Bool.and_eq_true] at hB;exact Zjd L L os listed a w hB.1 (fun i hi => ⟨by simpa using hi, by simpa using List.all_eq_true.1 hB.2 i hi⟩) hos h
end
end
theorem Zes {P : Program} {ops : Array Oper} {Q : Exit → Act → World → Prop} {S : World → Prop} (i : Nat) (d : Option Tmp) {L U : List Nat} {oi : Oper} {fuel : Nat} {listed : Array Bool} {a : Act} {w : World} (hi : ops[i]? = some oi) (hd : oi.dst = d)
  (hB : Zhv ops L listed i = true)
  (hQ : ∀ c a w, Q (.panic c) (a.put d undef) w → Q (.panic c) a w)
  (hw : Region.wanted oi (yielded ops a.tmps) = false) (hS : S w)
  (h : wpV P ops Q L U S fuel (listed.setIfInBounds i true) (a.put d undef) w) : wpV P ops Q L U S (fuel + 1) listed a w := by
 subst hd;simp only [Zhv, Bool.and_eq_true] at hB;obtain ⟨⟨⟨⟨hs, hf⟩, hr⟩, hc⟩, ht⟩ := hB;refine Ze6 hi (Region.noSelect_spec hs) hQ (fun j _ htj => ?_) fuel listed a w (Region.free_spec hi hf) (Zhi hc) (by simpa using hr) (.inr ⟨hw, rfl⟩) hS h;simp only [Zgf, Bool.or_eq_true] at htj
 rcases htj with h1 | h1
 ·exact .inr (List.all_eq_true.1 ht j (by simpa using h1))
 ·exact .inl h1
theorem Zsq {a : Act} (n : Nat) (IH : ∀ m, n = m + 1 → Zd6 m) (E : Zaz) (LB cs : Nat) (c : Ze) (A : Option Addr) (k : Nat) (EB RB NB ZB : Nat) (m : Int) (K : List Zf) (w w5 : World) (HB : Hd (LxB E LB cs c A k EB RB NB ZB w w5)) (HS5 : Hd (LwI E LB cs w5)) (HV : Hd (EV n E.F w c A k)) (HLC : Hd (LoC E n c cs)) (HM : Hd (m = ((E.L.length + cs : Nat) : Int))) (HK : Hd (K = Zch E.u E.L n c m c.kids.length)) (HK20 : Hd (c.kind ≠ 20)) (HC64 : Hd (Zy c.line)) (HF : Hd (FrL LB EB RB NB ZB a)) :
  lwA15.wp Tryz.prog (Zc0 fun a' x => Zce RB a' ∧ LoR (LwI E LB) LB RB w (cO 74 c.line K) (cs + csX c) x) a w5 := by
 obtain ⟨fr, rfl⟩ := HF.o.opn;clear HF
 conv => arg 2; whnf
 refine Zap [6, 7] [] (fun z => LxB E LB cs c A k EB RB NB ZB w z) (by kernel_rfl) (fun W hW => ?_);have hlW : Zb w5 W := by rw [hW]; exact (Zb.refl _).drew
 have HXW := zh (HB.o.later hlW);have HSW := zh (HS5.o.later hlW);have HZW := zh hlW.size;clear hlW hW;refine uV 0 51 HXW.o ?_;simp only [yN];refine uV 1 52 HXW.o (hy := fun x hx => by have hxe := hx.eb; have c0 := Z1 hxe; have fc0 := fz hxe; go_simp <;> with_reducible rfl) ?_;simp only [yN];refine uV 2 53 HXW.o ?_;simp only [yN];refine uV 3 54 HXW.o ?_;simp only [yN];refine uV 4 55 HXW.o (hy := fun x hx => by have hxe := hx.eb; have c0 := Z1 hxe; have fc0 := fz hxe; go_simp <;> with_reducible rfl) ?_;simp only [yN];refine Zv 5 (by kernel_rfl) rfl rfl ?_;go_wp2_with fail;refine (Zb6 n IH E LB cs W c A k m HM.o (by rw [Zaw HK20.o]; exact HSW.o) (HXW.o.ev HV.o) HLC.o).mono ?_;rintro e y1 hp;obtain ⟨v, rfl, hrow⟩ := hp.o;rw [← HK.o] at hrow;obtain ⟨Ak, qk, rfl, -⟩ := id hrow;have HROW := zh (show Zz Zbe 6 Z7 (Iv W.heap.size y1.heap.size) y1 K (.slice Ak K.length qk) from hrow.trim Zs);have HSy1 := zh (hp.st);have HTy1 := zh (show Tn (fun b => b = LB) W y1 from hp.tn);have HXy1 := zh (HXW.o.keep HTy1.o);have HZy1 := zh HTy1.o.size;clear hp hrow;go_wp2_with fail;refine ⟨HXy1.o, ?_⟩;refine Zay [_, _] (by kernel_rfl) rfl rfl ?_;simp only [gA, gB, gC];go_wp2_with fail;refine (Zck LB c A k 74 Ak K.length qk y1).mono ?_;rintro e yz ⟨rfl, hb⟩;have HSyz := zh (HSy1.o.later hb);have HTyz := zh (show Tn (fun b => b = LB) y1 yz from Tn.later hb);have HXyz := zh (HXy1.o.keep HTyz.o);have HZyz := zh HTyz.o.size;clear hb
 have e1 := HXyz.o.rb;have r0 := cz6 e1;have fr0 := fz e1;clear e1;go_wp2_with fail;have hzW := HZW.o;have h5 := HB.o.tn.size;have hzy1 := HZy1.o;have hlb := Za HB.o.bs.blk;have hc2 := CV.co (line := c.line) (op := 74) HROW.o (by decide) (by decide) HC64.o;exact ⟨Zce.mk' rfl rfl, HB.o.fin (C := (cO 74 c.line K)) HXyz.o HSyz.o ((hc2).tn HTyz.o (by omega)) (by omega)⟩
theorem Zsr {a : Act} (n : Nat) (IH : ∀ m, n = m + 1 → Zd6 m) (E : Zaz) (LB cs : Nat) (c : Ze) (A : Option Addr) (k : Nat) (EB RB NB ZB : Nat) (m : Int) (K : List Zf) (w w5 : World) (HB : Hd (LxB E LB cs c A k EB RB NB ZB w w5)) (HS5 : Hd (LwI E LB cs w5)) (HV : Hd (EV n E.F w c A k)) (HLC : Hd (LoC E n c cs)) (HM : Hd (m = ((E.L.length + cs : Nat) : Int))) (HK : Hd (K = Zch E.u E.L n c m c.kids.length)) (HK20 : Hd (c.kind ≠ 20)) (HC64 : Hd (Zy c.line)) (HF : Hd (FrL LB EB RB NB ZB a)) :
  lwA19.wp Tryz.prog (Zc0 fun a' x => Zce RB a' ∧ LoR (LwI E LB) LB RB w (cK 14 c.line K) (cs + csX c) x) a w5 := by
 obtain ⟨fr, rfl⟩ := HF.o.opn;clear HF
 conv => arg 2; whnf
 refine Zap [6, 7] [] (fun z => LxB E LB cs c A k EB RB NB ZB w z) (by kernel_rfl) (fun W hW => ?_);have hlW : Zb w5 W := by rw [hW]; exact (Zb.refl _).drew
 have HXW := zh (HB.o.later hlW);have HSW := zh (HS5.o.later hlW);have HZW := zh hlW.size;clear hlW hW;refine uV 0 64 HXW.o ?_;simp only [yN];refine uV 1 65 HXW.o (hy := fun x hx => by have hxe := hx.eb; have c0 := Z1 hxe; have fc0 := fz hxe; go_simp <;> with_reducible rfl) ?_;simp only [yN];refine uV 2 66 HXW.o ?_;simp only [yN];refine uV 3 67 HXW.o ?_;simp only [yN];refine uV 4 68 HXW.o (hy := fun x hx => by have hxe := hx.eb; have c0 := Z1 hxe; have fc0 := fz hxe; go_simp <;> with_reducible rfl) ?_;simp only [yN];refine Zv 5 (by kernel_rfl) rfl rfl ?_;go_wp2_with fail;refine (Zb6 n IH E LB cs W c A k m HM.o (by rw [Zaw HK20.o]; exact HSW.o) (HXW.o.ev HV.o) HLC.o).mono ?_;rintro e y1 hp;obtain ⟨v, rfl, hrow⟩ := hp.o;rw [← HK.o] at hrow;obtain ⟨Ak, qk, rfl, -⟩ := id hrow;have HROW := zh (show Zz Zbe 6 Z7 (Iv W.heap.size y1.heap.size) y1 K (.slice Ak K.length qk) from hrow.trim Zs);have HSy1 := zh (hp.st);have HTy1 := zh (show Tn (fun b => b = LB) W y1 from hp.tn);have HXy1 := zh (HXW.o.keep HTy1.o);have HZy1 := zh HTy1.o.size;clear hp hrow;go_wp2_with fail;refine ⟨HXy1.o, ?_⟩;refine Zay [_, _] (by kernel_rfl) rfl rfl ?_;simp only [gA, gB, gC];go_wp2_with fail;refine (Zao LB c A k 14 Ak K.length qk y1).mono ?_;rintro e yz ⟨rfl, hb⟩;have HSyz := zh (HSy1.o.later hb);have HTyz := zh (show Tn (fun b => b = LB) y1 yz from Tn.later hb);have HXyz := zh (HXy1.o.keep HTyz.o);have HZyz := zh HTyz.o.size;clear hb
 have e1 := HXyz.o.rb;have r0 := cz6 e1;have fr0 := fz e1;clear e1;go_wp2_with fail;have hzW := HZW.o;have h5 := HB.o.tn.size;have hzy1 := HZy1.o;have hlb := Za HB.o.bs.blk;have hc2 := CV.ck (line := c.line) (k := 14) HROW.o (by decide) (by decide) HC64.o;exact ⟨Zce.mk' rfl rfl, HB.o.fin (C := (cK 14 c.line K)) HXyz.o HSyz.o ((hc2).tn HTyz.o (by omega)) (by omega)⟩
theorem Zss {a : Act} (n : Nat) (IH : ∀ m, n = m + 1 → Zd6 m) (E : Zaz) (LB cs : Nat) (c : Ze) (A : Option Addr) (k : Nat) (EB RB NB ZB : Nat) (m : Int) (K : List Zf) (w w5 : World) (HB : Hd (LxB E LB cs c A k EB RB NB ZB w w5)) (HS5 : Hd (LwI E LB cs w5)) (HV : Hd (EV n E.F w c A k)) (HLC : Hd (LoC E n c cs)) (HM : Hd (m = ((E.L.length + cs : Nat) : Int))) (HK : Hd (K = Zch E.u E.L n c m c.kids.length)) (HK20 : Hd (c.kind ≠ 20)) (HC64 : Hd (Zy c.line)) (HF : Hd (FrL LB EB RB NB ZB a)) :
  lwA21.wp Tryz.prog (Zc0 fun a' x => Zce RB a' ∧ LoR (LwI E LB) LB RB w (cK 27 c.line K) (cs + csX c) x) a w5 := by
 obtain ⟨fr, rfl⟩ := HF.o.opn;clear HF
 conv => arg 2; whnf
 refine Zap [6, 7] [] (fun z => LxB E LB cs c A k EB RB NB ZB w z) (by kernel_rfl) (fun W hW => ?_);have hlW : Zb w5 W := by rw [hW]; exact (Zb.refl _).drew
 have HXW := zh (HB.o.later hlW);have HSW := zh (HS5.o.later hlW);have HZW := zh hlW.size;clear hlW hW;refine uV 0 73 HXW.o ?_;simp only [yN];refine uV 1 74 HXW.o (hy := fun x hx => by have hxe := hx.eb; have c0 := Z1 hxe; have fc0 := fz hxe; go_simp <;> with_reducible rfl) ?_;simp only [yN];refine uV 2 75 HXW.o ?_;simp only [yN];refine uV 3 76 HXW.o ?_;simp only [yN];refine uV 4 77 HXW.o (hy := fun x hx => by have hxe := hx.eb; have c0 := Z1 hxe; have fc0 := fz hxe; go_simp <;> with_reducible rfl) ?_;simp only [yN];refine Zv 5 (by kernel_rfl) rfl rfl ?_;go_wp2_with fail;refine (Zb6 n IH E LB cs W c A k m HM.o (by rw [Zaw HK20.o]; exact HSW.o) (HXW.o.ev HV.o) HLC.o).mono ?_;rintro e y1 hp;obtain ⟨v, rfl, hrow⟩ := hp.o;rw [← HK.o] at hrow;obtain ⟨Ak, qk, rfl, -⟩ := id hrow;have HROW := zh (show Zz Zbe 6 Z7 (Iv W.heap.size y1.heap.size) y1 K (.slice Ak K.length qk) from hrow.trim Zs);have HSy1 := zh (hp.st);have HTy1 := zh (show Tn (fun b => b = LB) W y1 from hp.tn);have HXy1 := zh (HXW.o.keep HTy1.o);have HZy1 := zh HTy1.o.size;clear hp hrow;go_wp2_with fail;refine ⟨HXy1.o, ?_⟩;refine Zay [_, _] (by kernel_rfl) rfl rfl ?_;simp only [gA, gB, gC];go_wp2_with fail;refine (Zao LB c A k 27 Ak K.length qk y1).mono ?_;rintro e yz ⟨rfl, hb⟩;have HSyz := zh (HSy1.o.later hb);have HTyz := zh (show Tn (fun b => b = LB) y1 yz from Tn.later hb);have HXyz := zh (HXy1.o.keep HTyz.o);have HZyz := zh HTyz.o.size;clear hb
 have e1 := HXyz.o.rb;have r0 := cz6 e1;have fr0 := fz e1;clear e1;go_wp2_with fail;have hzW := HZW.o;have h5 := HB.o.tn.size;have hzy1 := HZy1.o;have hlb := Za HB.o.bs.blk;have hc2 := CV.ck (line := c.line) (k := 27) HROW.o (by decide) (by decide) HC64.o;exact ⟨Zce.mk' rfl rfl, HB.o.fin (C := (cK 27 c.line K)) HXyz.o HSyz.o ((hc2).tn HTyz.o (by omega)) (by omega)⟩
theorem Zst {a : Act} (n : Nat) (IH : ∀ m, n = m + 1 → Zd6 m) (E : Zaz) (LB cs : Nat) (c : Ze) (A : Option Addr) (k : Nat) (EB RB NB ZB : Nat) (m : Int) (K : List Zf) (w w5 : World) (HB : Hd (LxB E LB cs c A k EB RB NB ZB w w5)) (HS5 : Hd (LwI E LB cs w5)) (HV : Hd (EV n E.F w c A k)) (HLC : Hd (LoC E n c cs)) (HM : Hd (m = ((E.L.length + cs : Nat) : Int))) (HK : Hd (K = Zch E.u E.L n c m c.kids.length)) (HK20 : Hd (c.kind ≠ 20)) (HC64 : Hd (Zy c.line)) (HF : Hd (FrL LB EB RB NB ZB a)) :
  lwA34.wp Tryz.prog (Zc0 fun a' x => Zce RB a' ∧ LoR (LwI E LB) LB RB w (cK 12 c.line K) (cs + csX c) x) a w5 := by
 obtain ⟨fr, rfl⟩ := HF.o.opn;clear HF
 conv => arg 2; whnf
 refine Zap [6, 7] [] (fun z => LxB E LB cs c A k EB RB NB ZB w z) (by kernel_rfl) (fun W hW => ?_);have hlW : Zb w5 W := by rw [hW]; exact (Zb.refl _).drew
 have HXW := zh (HB.o.later hlW);have HSW := zh (HS5.o.later hlW);have HZW := zh hlW.size;clear hlW hW;refine uV 0 138 HXW.o ?_;simp only [yN];refine uV 1 139 HXW.o (hy := fun x hx => by have hxe := hx.eb; have c0 := Z1 hxe; have fc0 := fz hxe; go_simp <;> with_reducible rfl) ?_;simp only [yN];refine uV 2 140 HXW.o ?_;simp only [yN];refine uV 3 141 HXW.o ?_;simp only [yN];refine uV 4 142 HXW.o (hy := fun x hx => by have hxe := hx.eb; have c0 := Z1 hxe; have fc0 := fz hxe; go_simp <;> with_reducible rfl) ?_;simp only [yN];refine Zv 5 (by kernel_rfl) rfl rfl ?_;go_wp2_with fail;refine (Zb6 n IH E LB cs W c A k m HM.o (by rw [Zaw HK20.o]; exact HSW.o) (HXW.o.ev HV.o) HLC.o).mono ?_;rintro e y1 hp;obtain ⟨v, rfl, hrow⟩ := hp.o;rw [← HK.o] at hrow;obtain ⟨Ak, qk, rfl, -⟩ := id hrow;have HROW := zh (show Zz Zbe 6 Z7 (Iv W.heap.size y1.heap.size) y1 K (.slice Ak K.length qk) from hrow.trim Zs);have HSy1 := zh (hp.st);have HTy1 := zh (show Tn (fun b => b = LB) W y1 from hp.tn);have HXy1 := zh (HXW.o.keep HTy1.o);have HZy1 := zh HTy1.o.size;clear hp hrow;go_wp2_with fail;refine ⟨HXy1.o, ?_⟩;refine Zay [_, _] (by kernel_rfl) rfl rfl ?_;simp only [gA, gB, gC];go_wp2_with fail;refine (Zao LB c A k 12 Ak K.length qk y1).mono ?_;rintro e yz ⟨rfl, hb⟩;have HSyz := zh (HSy1.o.later hb);have HTyz := zh (show Tn (fun b => b = LB) y1 yz from Tn.later hb);have HXyz := zh (HXy1.o.keep HTyz.o);have HZyz := zh HTyz.o.size
 clear hb;have e1 := HXyz.o.rb;have r0 := cz6 e1;have fr0 := fz e1;clear e1;go_wp2_with fail;have hzW := HZW.o;have h5 := HB.o.tn.size;have hzy1 := HZy1.o;have hlb := Za HB.o.bs.blk;have hc2 := CV.ck (line := c.line) (k := 12) HROW.o (by decide) (by decide) HC64.o;exact ⟨Zce.mk' rfl rfl, HB.o.fin (C := (cK 12 c.line K)) HXyz.o HSyz.o ((hc2).tn HTyz.o (by omega)) (by omega)⟩
theorem Zsu {a : Act} (n : Nat) (IH : ∀ m, n = m + 1 → Zd6 m) (E : Zaz) (LB cs : Nat) (c : Ze) (A : Option Addr) (k : Nat) (EB RB NB ZB : Nat) (m : Int) (K : List Zf) (w w5 : World) (HB : Hd (LxB E LB cs c A k EB RB NB ZB w w5)) (HS5 : Hd (LwI E LB cs w5)) (HV : Hd (EV n E.F w c A k)) (HLC : Hd (LoC E n c cs)) (HM : Hd (m = ((E.L.length + cs : Nat) : Int))) (HK : Hd (K = Zch E.u E.L n c m c.kids.length)) (HK20 : Hd (c.kind ≠ 20)) (HC64 : Hd (Zy c.line)) (HF : Hd (FrL LB EB RB NB ZB a)) :
  lwA36.wp Tryz.prog (Zc0 fun a' x => Zce RB a' ∧ LoR (LwI E LB) LB RB w (cO 70 c.line K) (cs + csX c) x) a w5 := by
 obtain ⟨fr, rfl⟩ := HF.o.opn;clear HF
 conv => arg 2; whnf
 refine Zap [6, 7] [] (fun z => LxB E LB cs c A k EB RB NB ZB w z) (by kernel_rfl) (fun W hW => ?_);have hlW : Zb w5 W := by rw [hW]; exact (Zb.refl _).drew
 have HXW := zh (HB.o.later hlW);have HSW := zh (HS5.o.later hlW);have HZW := zh hlW.size;clear hlW hW;refine uV 0 147 HXW.o ?_;simp only [yN];refine uV 1 148 HXW.o (hy := fun x hx => by have hxe := hx.eb; have c0 := Z1 hxe; have fc0 := fz hxe; go_simp <;> with_reducible rfl) ?_;simp only [yN];refine uV 2 149 HXW.o ?_;simp only [yN];refine uV 3 150 HXW.o ?_;simp only [yN];refine uV 4 151 HXW.o (hy := fun x hx => by have hxe := hx.eb; have c0 := Z1 hxe; have fc0 := fz hxe; go_simp <;> with_reducible rfl) ?_;simp only [yN];refine Zv 5 (by kernel_rfl) rfl rfl ?_;go_wp2_with fail;refine (Zb6 n IH E LB cs W c A k m HM.o (by rw [Zaw HK20.o]; exact HSW.o) (HXW.o.ev HV.o) HLC.o).mono ?_;rintro e y1 hp;obtain ⟨v, rfl, hrow⟩ := hp.o;rw [← HK.o] at hrow;obtain ⟨Ak, qk, rfl, -⟩ := id hrow;have HROW := zh (show Zz Zbe 6 Z7 (Iv W.heap.size y1.heap.size) y1 K (.slice Ak K.length qk) from hrow.trim Zs);have HSy1 := zh (hp.st);have HTy1 := zh (show Tn (fun b => b = LB) W y1 from hp.tn);have HXy1 := zh (HXW.o.keep HTy1.o);have HZy1 := zh HTy1.o.size;clear hp hrow;go_wp2_with fail;refine ⟨HXy1.o, ?_⟩;refine Zay [_, _] (by kernel_rfl) rfl rfl ?_;simp only [gA, gB, gC];go_wp2_with fail;refine (Zck LB c A k 70 Ak K.length qk y1).mono ?_;rintro e yz ⟨rfl, hb⟩;have HSyz := zh (HSy1.o.later hb);have HTyz := zh (show Tn (fun b => b = LB) y1 yz from Tn.later hb);have HXyz := zh (HXy1.o.keep HTyz.o);have HZyz := zh HTyz.o.size
 clear hb;have e1 := HXyz.o.rb;have r0 := cz6 e1;have fr0 := fz e1;clear e1;go_wp2_with fail;have hzW := HZW.o;have h5 := HB.o.tn.size;have hzy1 := HZy1.o;have hlb := Za HB.o.bs.blk;have hc2 := CV.co (line := c.line) (op := 70) HROW.o (by decide) (by decide) HC64.o;exact ⟨Zce.mk' rfl rfl, HB.o.fin (C := (cO 70 c.line K)) HXyz.o HSyz.o ((hc2).tn HTyz.o (by omega)) (by omega)⟩
theorem Zsv {a : Act} (n : Nat) (IH : ∀ m, n = m + 1 → Zd6 m) (E : Zaz) (LB cs : Nat) (c : Ze) (A : Option Addr) (k : Nat) (EB RB NB ZB : Nat) (m : Int) (K : List Zf) (w w5 : World) (HB : Hd (LxB E LB cs c A k EB RB NB ZB w w5)) (HS5 : Hd (LwI E LB cs w5)) (HV : Hd (EV n E.F w c A k)) (HLC : Hd (LoC E n c cs)) (HM : Hd (m = ((E.L.length + cs : Nat) : Int))) (HK : Hd (K = Zch E.u E.L n c m c.kids.length)) (HK20 : Hd (c.kind ≠ 20)) (HC64 : Hd (Zy c.line)) (HF : Hd (FrL LB EB RB NB ZB a)) :
  lwA38.wp Tryz.prog (Zc0 fun a' x => Zce RB a' ∧ LoR (LwI E LB) LB RB w (cO 71 c.line K) (cs + csX c) x) a w5 := by
 obtain ⟨fr, rfl⟩ := HF.o.opn;clear HF
 conv => arg 2; whnf
 refine Zap [6, 7] [] (fun z => LxB E LB cs c A k EB RB NB ZB w z) (by kernel_rfl) (fun W hW => ?_);have hlW : Zb w5 W := by rw [hW]; exact (Zb.refl _).drew
 have HXW := zh (HB.o.later hlW);have HSW := zh (HS5.o.later hlW);have HZW := zh hlW.size;clear hlW hW;refine uV 0 156 HXW.o ?_;simp only [yN];refine uV 1 157 HXW.o (hy := fun x hx => by have hxe := hx.eb; have c0 := Z1 hxe; have fc0 := fz hxe; go_simp <;> with_reducible rfl) ?_;simp only [yN];refine uV 2 158 HXW.o ?_;simp only [yN];refine uV 3 159 HXW.o ?_;simp only [yN];refine uV 4 160 HXW.o (hy := fun x hx => by have hxe := hx.eb; have c0 := Z1 hxe; have fc0 := fz hxe; go_simp <;> with_reducible rfl) ?_;simp only [yN];refine Zv 5 (by kernel_rfl) rfl rfl ?_;go_wp2_with fail;refine (Zb6 n IH E LB cs W c A k m HM.o (by rw [Zaw HK20.o]; exact HSW.o) (HXW.o.ev HV.o) HLC.o).mono ?_;rintro e y1 hp;obtain ⟨v, rfl, hrow⟩ := hp.o;rw [← HK.o] at hrow;obtain ⟨Ak, qk, rfl, -⟩ := id hrow;have HROW := zh (show Zz Zbe 6 Z7 (Iv W.heap.size y1.heap.size) y1 K (.slice Ak K.length qk) from hrow.trim Zs);have HSy1 := zh (hp.st);have HTy1 := zh (show Tn (fun b => b = LB) W y1 from hp.tn);have HXy1 := zh (HXW.o.keep HTy1.o);have HZy1 := zh HTy1.o.size;clear hp hrow;go_wp2_with fail;refine ⟨HXy1.o, ?_⟩;refine Zay [_, _] (by kernel_rfl) rfl rfl ?_;simp only [gA, gB, gC];go_wp2_with fail;refine (Zck LB c A k 71 Ak K.length qk y1).mono ?_;rintro e yz ⟨rfl, hb⟩;have HSyz := zh (HSy1.o.later hb);have HTyz := zh (show Tn (fun b => b = LB) y1 yz from Tn.later hb);have HXyz := zh (HXy1.o.keep HTyz.o);have HZyz := zh HTyz.o.size
 clear hb;have e1 := HXyz.o.rb;have r0 := cz6 e1;have fr0 := fz e1;clear e1;go_wp2_with fail;have hzW := HZW.o;have h5 := HB.o.tn.size;have hzy1 := HZy1.o;have hlb := Za HB.o.bs.blk;have hc2 := CV.co (line := c.line) (op := 71) HROW.o (by decide) (by decide) HC64.o;exact ⟨Zce.mk' rfl rfl, HB.o.fin (C := (cO 71 c.line K)) HXyz.o HSyz.o ((hc2).tn HTyz.o (by omega)) (by omega)⟩
theorem Zsw {a : Act} (n : Nat) (IH : ∀ m, n = m + 1 → Zd6 m) (E : Zaz) (LB cs : Nat) (c : Ze) (A : Option Addr) (k : Nat) (EB RB NB ZB : Nat) (m : Int) (K : List Zf) (w w5 : World) (HB : Hd (LxB E LB cs c A k EB RB NB ZB w w5)) (HS5 : Hd (LwI E LB cs w5)) (HV : Hd (EV n E.F w c A k)) (HLC : Hd (LoC E n c cs)) (HM : Hd (m = ((E.L.length + cs : Nat) : Int))) (HK : Hd (K = Zch E.u E.L n c m c.kids.length)) (HK20 : Hd (c.kind ≠ 20)) (HC64 : Hd (Zy c.line)) (HF : Hd (FrL LB EB RB NB ZB a)) :
  lwA42.wp Tryz.prog (Zc0 fun a' x => Zce RB a' ∧ LoR (LwI E LB) LB RB w (cO 73 c.line K) (cs + csX c) x) a w5 := by
 obtain ⟨fr, rfl⟩ := HF.o.opn;clear HF
 conv => arg 2; whnf
 refine Zap [6, 7] [] (fun z => LxB E LB cs c A k EB RB NB ZB w z) (by kernel_rfl) (fun W hW => ?_);have hlW : Zb w5 W := by rw [hW]; exact (Zb.refl _).drew
 have HXW := zh (HB.o.later hlW);have HSW := zh (HS5.o.later hlW);have HZW := zh hlW.size;clear hlW hW;refine uV 0 182 HXW.o ?_;simp only [yN];refine uV 1 183 HXW.o (hy := fun x hx => by have hxe := hx.eb; have c0 := Z1 hxe; have fc0 := fz hxe; go_simp <;> with_reducible rfl) ?_;simp only [yN];refine uV 2 184 HXW.o ?_;simp only [yN];refine uV 3 185 HXW.o ?_;simp only [yN];refine uV 4 186 HXW.o (hy := fun x hx => by have hxe := hx.eb; have c0 := Z1 hxe; have fc0 := fz hxe; go_simp <;> with_reducible rfl) ?_;simp only [yN];refine Zv 5 (by kernel_rfl) rfl rfl ?_;go_wp2_with fail;refine (Zb6 n IH E LB cs W c A k m HM.o (by rw [Zaw HK20.o]; exact HSW.o) (HXW.o.ev HV.o) HLC.o).mono ?_;rintro e y1 hp;obtain ⟨v, rfl, hrow⟩ := hp.o;rw [← HK.o] at hrow;obtain ⟨Ak, qk, rfl, -⟩ := id hrow;have HROW := zh (show Zz Zbe 6 Z7 (Iv W.heap.size y1.heap.size) y1 K (.slice Ak K.length qk) from hrow.trim Zs);have HSy1 := zh (hp.st);have HTy1 := zh (show Tn (fun b => b = LB) W y1 from hp.tn);have HXy1 := zh (HXW.o.keep HTy1.o);have HZy1 := zh HTy1.o.size;clear hp hrow;go_wp2_with fail;refine ⟨HXy1.o, ?_⟩;refine Zay [_, _] (by kernel_rfl) rfl rfl ?_;simp only [gA, gB, gC];go_wp2_with fail;refine (Zck LB c A k 73 Ak K.length qk y1).mono ?_;rintro e yz ⟨rfl, hb⟩;have HSyz := zh (HSy1.o.later hb);have HTyz := zh (show Tn (fun b => b = LB) y1 yz from Tn.later hb);have HXyz := zh (HXy1.o.keep HTyz.o);have HZyz := zh HTyz.o.size
 clear hb;have e1 := HXyz.o.rb;have r0 := cz6 e1;have fr0 := fz e1;clear e1;go_wp2_with fail;have hzW := HZW.o;have h5 := HB.o.tn.size;have hzy1 := HZy1.o;have hlb := Za HB.o.bs.blk;have hc2 := CV.co (line := c.line) (op := 73) HROW.o (by decide) (by decide) HC64.o;exact ⟨Zce.mk' rfl rfl, HB.o.fin (C := (cO 73 c.line K)) HXyz.o HSyz.o ((hc2).tn HTyz.o (by omega)) (by omega)⟩
theorem Zsx {a : Act} (n : Nat) (IH : ∀ m, n = m + 1 → Zd6 m) (E : Zaz) (LB cs : Nat) (c : Ze) (A : Option Addr) (k : Nat) (EB RB NB ZB : Nat) (m : Int) (K : List Zf) (w w5 : World) (HB : Hd (LxB E LB cs c A k EB RB NB ZB w w5)) (HS5 : Hd (LwI E LB cs w5)) (HV : Hd (EV n E.F w c A k)) (HLC : Hd (LoC E n c cs)) (HM : Hd (m = ((E.L.length + cs : Nat) : Int))) (HK : Hd (K = Zch E.u E.L n c m c.kids.length)) (HK20 : Hd (c.kind ≠ 20)) (HC64 : Hd (Zy c.line)) (HF : Hd (FrL LB EB RB NB ZB a)) :
  lwA48.wp Tryz.prog (Zc0 fun a' x => Zce RB a' ∧ LoR (LwI E LB) LB RB w (cK 16 c.line K) (cs + csX c) x) a w5 := by
 obtain ⟨fr, rfl⟩ := HF.o.opn;clear HF
 conv => arg 2; whnf
 refine Zap [6, 7] [] (fun z => LxB E LB cs c A k EB RB NB ZB w z) (by kernel_rfl) (fun W hW => ?_);have hlW : Zb w5 W := by rw [hW]; exact (Zb.refl _).drew
 have HXW := zh (HB.o.later hlW);have HSW := zh (HS5.o.later hlW);have HZW := zh hlW.size;clear hlW hW;refine uV 0 205 HXW.o ?_;simp only [yN];refine uV 1 206 HXW.o (hy := fun x hx => by have hxe := hx.eb; have c0 := Z1 hxe; have fc0 := fz hxe; go_simp <;> with_reducible rfl) ?_;simp only [yN];refine uV 2 207 HXW.o ?_;simp only [yN];refine uV 3 208 HXW.o ?_;simp only [yN];refine uV 4 209 HXW.o (hy := fun x hx => by have hxe := hx.eb; have c0 := Z1 hxe; have fc0 := fz hxe; go_simp <;> with_reducible rfl) ?_;simp only [yN];refine Zv 5 (by kernel_rfl) rfl rfl ?_;go_wp2_with fail;refine (Zb6 n IH E LB cs W c A k m HM.o (by rw [Zaw HK20.o]; exact HSW.o) (HXW.o.ev HV.o) HLC.o).mono ?_;rintro e y1 hp;obtain ⟨v, rfl, hrow⟩ := hp.o;rw [← HK.o] at hrow;obtain ⟨Ak, qk, rfl, -⟩ := id hrow;have HROW := zh (show Zz Zbe 6 Z7 (Iv W.heap.size y1.heap.size) y1 K (.slice Ak K.length qk) from hrow.trim Zs);have HSy1 := zh (hp.st);have HTy1 := zh (show Tn (fun b => b = LB) W y1 from hp.tn);have HXy1 := zh (HXW.o.keep HTy1.o);have HZy1 := zh HTy1.o.size;clear hp hrow;go_wp2_with fail;refine ⟨HXy1.o, ?_⟩;refine Zay [_, _] (by kernel_rfl) rfl rfl ?_;simp only [gA, gB, gC];go_wp2_with fail;refine (Zao LB c A k 16 Ak K.length qk y1).mono ?_;rintro e yz ⟨rfl, hb⟩;have HSyz := zh (HSy1.o.later hb);have HTyz := zh (show Tn (fun b => b = LB) y1 yz from Tn.later hb);have HXyz := zh (HXy1.o.keep HTyz.o);have HZyz := zh HTyz.o.size
 clear hb;have e1 := HXyz.o.rb;have r0 := cz6 e1;have fr0 := fz e1;clear e1;go_wp2_with fail;have hzW := HZW.o;have h5 := HB.o.tn.size;have hzy1 := HZy1.o;have hlb := Za HB.o.bs.blk;have hc2 := CV.ck (line := c.line) (k := 16) HROW.o (by decide) (by decide) HC64.o;exact ⟨Zce.mk' rfl rfl, HB.o.fin (C := (cK 16 c.line K)) HXyz.o HSyz.o ((hc2).tn HTyz.o (by omega)) (by omega)⟩
theorem Zsy {a : Act} (n : Nat) (IH : ∀ m, n = m + 1 → Zd6 m) (E : Zaz) (LB cs : Nat) (c : Ze) (A : Option Addr) (k : Nat) (EB RB NB ZB : Nat) (m : Int) (K : List Zf) (w w5 : World) (HB : Hd (LxB E LB cs c A k EB RB NB ZB w w5)) (HS5 : Hd (LwI E LB cs w5)) (HV : Hd (EV n E.F w c A k)) (HLC : Hd (LoC E n c cs)) (HM : Hd (m = ((E.L.length + cs : Nat) : Int))) (HK : Hd (K = Zch E.u E.L n c m c.kids.length)) (HK20 : Hd (c.kind ≠ 20)) (HC64 : Hd (Zy c.line)) (HLEN : Hd (c.kids.length ≤ 1)) (HF : Hd (FrL LB EB RB NB ZB a)) :
  lwA67.wp Tryz.prog (Zc0 fun a' x => Zce RB a' ∧ LoR (LwI E LB) LB RB w (cK 23 c.line [kdC K c.line 0]) (cs + csX c) x) a w5 := by
 obtain ⟨C0, hC0⟩ : ∃ z, z = kdC K c.line 0 := ⟨_, rfl⟩;rw [← hC0];have HC0 := zh hC0;clear hC0;obtain ⟨fr, rfl⟩ := HF.o.opn;clear HF
 conv => arg 2; whnf
 refine Zap [6, 7] [] (fun z => LxB E LB cs c A k EB RB NB ZB w z) (by kernel_rfl) (fun W hW => ?_);have hlW : Zb w5 W := by rw [hW]; exact (Zb.refl _).drew
 have HXW := zh (HB.o.later hlW);have HSW := zh (HS5.o.later hlW);have HZW := zh hlW.size;clear hlW hW;refine uV 0 299 HXW.o ?_;simp only [yN];refine uV 1 300 HXW.o (hy := fun x hx => by have hxe := hx.eb; have c0 := Z1 hxe; have fc0 := fz hxe; go_simp <;> with_reducible rfl) ?_;simp only [yN];refine uV 2 301 HXW.o ?_;simp only [yN];refine uV 3 302 HXW.o (hy := fun x hx => by have hxe := hx.eb; have c0 := Z1 hxe; have fc0 := fz hxe; go_simp <;> with_reducible rfl) ?_;simp only [yN];refine Zv 4 (by kernel_rfl) rfl rfl ?_;go_wp2_with fail;refine (Zc1 n IH E LB cs W c A k m HM.o 0 (by decide) (show LwI E LB (cs + Zbu c.kind + Za3 (c.kids.take 0)) W by simpa [Za3, Zaw HK20.o] using HSW.o) (HXW.o.ev HV.o) HLC.o).mono ?_;rintro e y1 hp;obtain ⟨AC0, qC0, rfl, hcv⟩ := hp.core;rw [← HK.o, ← HC0.o] at hcv;rw [← HK.o, ← HC0.o];have HVC0 := zh hcv;have HSy1 := zh (hp.st);have HTy1 := zh (show Tn (fun b => b = LB) W y1 from hp.tn);have HXy1 := zh (HXW.o.keep HTy1.o);have HZy1 := zh HTy1.o.size;clear hp hcv;go_wp2_with fail;refine ⟨HXy1.o, ?_⟩;refine Zv 5 (by kernel_rfl) rfl rfl ?_;go_wp2_with fail;obtain ⟨y2, By2, hl, hn, h1, h2⟩ := al y1 (.cells #[.int .i64 C0.kind, .int .i64 C0.op, .int .i64 C0.aB, .int .i64 C0.line, .string C0.text, .slice AC0 C0.kids.length qC0] Z7);rw [h1, h2];have HNy2 := zh hn;have HEy2 := zh h2;have HMy2 := zh (Za hn);have HSy2 := zh (HSy1.o.later hl);have HTy2 := zh (show Tn (fun b => b = LB) y1 y2 from Tn.later hl)
 have HXy2 := zh (HXy1.o.keep HTy2.o);have HZy2 := zh HTy2.o.size;clear hl hn h1 h2;refine ⟨HXy2.o, ?_⟩;refine Zay [_, _] (by kernel_rfl) rfl rfl ?_;simp only [gA, gB, gC];go_wp2_with fail;refine (Zao LB c A k 23 (some ⟨By2, 0, none⟩) 1 1 y2).mono ?_;rintro e yz ⟨rfl, hb⟩;have HSyz := zh ((HLC.o.all HLEN.o ▸ HSy2.o).later hb);have HTyz := zh (show Tn (fun b => b = LB) y2 yz from Tn.later hb);have HXyz := zh (HXy2.o.keep HTyz.o);have HZyz := zh HTyz.o.size;clear hb;have e1 := HXyz.o.rb;have r0 := cz6 e1;have fr0 := fz e1;clear e1;go_wp2_with fail;have hzW := HZW.o;have h5 := HB.o.tn.size;have hzy1 := HZy1.o;have hzy2 := HZy2.o;have hey2 := HEy2.o;have hmy2 := HMy2.o;have hlb := Za HB.o.bs.blk;have hry2 := Zq2 (B := By2) HNy2.o ((HVC0.o).tn HTy2.o (by omega)) (by omega) (by omega);have hc3 := CV.ck (line := c.line) (k := 23) hry2 (by decide) (by decide) HC64.o;exact ⟨Zce.mk' rfl rfl, HB.o.fin (C := (cK 23 c.line [C0])) HXyz.o HSyz.o ((hc3).tn HTyz.o (by omega)) (by omega)⟩
theorem Zsz {a : Act} (n : Nat) (IH : ∀ m, n = m + 1 → Zd6 m) (E : Zaz) (LB cs : Nat) (c : Ze) (A : Option Addr) (k : Nat) (EB RB NB ZB : Nat) (m : Int) (K : List Zf) (w w5 : World) (HB : Hd (LxB E LB cs c A k EB RB NB ZB w w5)) (HS5 : Hd (LwI E LB cs w5)) (HV : Hd (EV n E.F w c A k)) (HLC : Hd (LoC E n c cs)) (HM : Hd (m = ((E.L.length + cs : Nat) : Int))) (HK : Hd (K = Zch E.u E.L n c m c.kids.length)) (HK20 : Hd (c.kind ≠ 20)) (HC64 : Hd (Zy c.line)) (HLEN : Hd (c.kids.length ≤ 1)) (HF : Hd (FrL LB EB RB NB ZB a)) :
  lwA73.wp Tryz.prog (Zc0 fun a' x => Zce RB a' ∧ LoR (LwI E LB) LB RB w (cK 20 c.line [kdC K c.line 0]) (cs + csX c) x) a w5 := by
 obtain ⟨C0, hC0⟩ : ∃ z, z = kdC K c.line 0 := ⟨_, rfl⟩;rw [← hC0];have HC0 := zh hC0;clear hC0;obtain ⟨fr, rfl⟩ := HF.o.opn;clear HF
 conv => arg 2; whnf
 refine Zap [6, 7] [] (fun z => LxB E LB cs c A k EB RB NB ZB w z) (by kernel_rfl) (fun W hW => ?_);have hlW : Zb w5 W := by rw [hW]; exact (Zb.refl _).drew
 have HXW := zh (HB.o.later hlW);have HSW := zh (HS5.o.later hlW);have HZW := zh hlW.size;clear hlW hW;refine uV 0 325 HXW.o ?_;simp only [yN];refine uV 1 326 HXW.o (hy := fun x hx => by have hxe := hx.eb; have c0 := Z1 hxe; have fc0 := fz hxe; go_simp <;> with_reducible rfl) ?_;simp only [yN];refine uV 2 327 HXW.o ?_;simp only [yN];refine uV 3 328 HXW.o (hy := fun x hx => by have hxe := hx.eb; have c0 := Z1 hxe; have fc0 := fz hxe; go_simp <;> with_reducible rfl) ?_;simp only [yN];refine Zv 4 (by kernel_rfl) rfl rfl ?_;go_wp2_with fail;refine (Zc1 n IH E LB cs W c A k m HM.o 0 (by decide) (show LwI E LB (cs + Zbu c.kind + Za3 (c.kids.take 0)) W by simpa [Za3, Zaw HK20.o] using HSW.o) (HXW.o.ev HV.o) HLC.o).mono ?_;rintro e y1 hp;obtain ⟨AC0, qC0, rfl, hcv⟩ := hp.core;rw [← HK.o, ← HC0.o] at hcv;rw [← HK.o, ← HC0.o];have HVC0 := zh hcv;have HSy1 := zh (hp.st);have HTy1 := zh (show Tn (fun b => b = LB) W y1 from hp.tn);have HXy1 := zh (HXW.o.keep HTy1.o);have HZy1 := zh HTy1.o.size;clear hp hcv;go_wp2_with fail;refine ⟨HXy1.o, ?_⟩;refine Zv 5 (by kernel_rfl) rfl rfl ?_;go_wp2_with fail;obtain ⟨y2, By2, hl, hn, h1, h2⟩ := al y1 (.cells #[.int .i64 C0.kind, .int .i64 C0.op, .int .i64 C0.aB, .int .i64 C0.line, .string C0.text, .slice AC0 C0.kids.length qC0] Z7);rw [h1, h2];have HNy2 := zh hn;have HEy2 := zh h2;have HMy2 := zh (Za hn);have HSy2 := zh (HSy1.o.later hl);have HTy2 := zh (show Tn (fun b => b = LB) y1 y2 from Tn.later hl)
 have HXy2 := zh (HXy1.o.keep HTy2.o);have HZy2 := zh HTy2.o.size;clear hl hn h1 h2;refine ⟨HXy2.o, ?_⟩;refine Zay [_, _] (by kernel_rfl) rfl rfl ?_;simp only [gA, gB, gC];go_wp2_with fail;refine (Zao LB c A k 20 (some ⟨By2, 0, none⟩) 1 1 y2).mono ?_;rintro e yz ⟨rfl, hb⟩;have HSyz := zh ((HLC.o.all HLEN.o ▸ HSy2.o).later hb);have HTyz := zh (show Tn (fun b => b = LB) y2 yz from Tn.later hb);have HXyz := zh (HXy2.o.keep HTyz.o);have HZyz := zh HTyz.o.size;clear hb;have e1 := HXyz.o.rb;have r0 := cz6 e1;have fr0 := fz e1;clear e1;go_wp2_with fail;have hzW := HZW.o;have h5 := HB.o.tn.size;have hzy1 := HZy1.o;have hzy2 := HZy2.o;have hey2 := HEy2.o;have hmy2 := HMy2.o;have hlb := Za HB.o.bs.blk;have hry2 := Zq2 (B := By2) HNy2.o ((HVC0.o).tn HTy2.o (by omega)) (by omega) (by omega);have hc3 := CV.ck (line := c.line) (k := 20) hry2 (by decide) (by decide) HC64.o;exact ⟨Zce.mk' rfl rfl, HB.o.fin (C := (cK 20 c.line [C0])) HXyz.o HSyz.o ((hc3).tn HTyz.o (by omega)) (by omega)⟩
theorem Zs0 {a : Act} (n : Nat) (IH : ∀ m, n = m + 1 → Zd6 m) (E : Zaz) (LB cs : Nat) (c : Ze) (A : Option Addr) (k : Nat) (EB RB NB ZB : Nat) (m : Int) (K : List Zf) (w w5 : World) (HB : Hd (LxB E LB cs c A k EB RB NB ZB w w5)) (HS5 : Hd (LwI E LB cs w5)) (HV : Hd (EV n E.F w c A k)) (HLC : Hd (LoC E n c cs)) (HM : Hd (m = ((E.L.length + cs : Nat) : Int))) (HK : Hd (K = Zch E.u E.L n c m c.kids.length)) (HK20 : Hd (c.kind ≠ 20)) (HC64 : Hd (Zy c.line)) (HLEN : Hd (c.kids.length ≤ 1)) (HF : Hd (FrL LB EB RB NB ZB a)) :
  lwA76.wp Tryz.prog (Zc0 fun a' x => Zce RB a' ∧ LoR (LwI E LB) LB RB w (cK 26 c.line [kdC K c.line 0]) (cs + csX c) x) a w5 := by
 obtain ⟨C0, hC0⟩ : ∃ z, z = kdC K c.line 0 := ⟨_, rfl⟩;rw [← hC0];have HC0 := zh hC0;clear hC0;obtain ⟨fr, rfl⟩ := HF.o.opn;clear HF
 conv => arg 2; whnf
 refine Zap [6, 7] [] (fun z => LxB E LB cs c A k EB RB NB ZB w z) (by kernel_rfl) (fun W hW => ?_);have hlW : Zb w5 W := by rw [hW]; exact (Zb.refl _).drew
 have HXW := zh (HB.o.later hlW);have HSW := zh (HS5.o.later hlW);have HZW := zh hlW.size;clear hlW hW;refine uV 0 337 HXW.o ?_;simp only [yN];refine uV 1 338 HXW.o (hy := fun x hx => by have hxe := hx.eb; have c0 := Z1 hxe; have fc0 := fz hxe; go_simp <;> with_reducible rfl) ?_;simp only [yN];refine uV 2 339 HXW.o ?_;simp only [yN];refine uV 3 340 HXW.o (hy := fun x hx => by have hxe := hx.eb; have c0 := Z1 hxe; have fc0 := fz hxe; go_simp <;> with_reducible rfl) ?_;simp only [yN];refine Zv 4 (by kernel_rfl) rfl rfl ?_;go_wp2_with fail;refine (Zc1 n IH E LB cs W c A k m HM.o 0 (by decide) (show LwI E LB (cs + Zbu c.kind + Za3 (c.kids.take 0)) W by simpa [Za3, Zaw HK20.o] using HSW.o) (HXW.o.ev HV.o) HLC.o).mono ?_;rintro e y1 hp;obtain ⟨AC0, qC0, rfl, hcv⟩ := hp.core;rw [← HK.o, ← HC0.o] at hcv;rw [← HK.o, ← HC0.o];have HVC0 := zh hcv;have HSy1 := zh (hp.st);have HTy1 := zh (show Tn (fun b => b = LB) W y1 from hp.tn);have HXy1 := zh (HXW.o.keep HTy1.o);have HZy1 := zh HTy1.o.size;clear hp hcv;go_wp2_with fail;refine ⟨HXy1.o, ?_⟩;refine Zv 5 (by kernel_rfl) rfl rfl ?_;go_wp2_with fail;obtain ⟨y2, By2, hl, hn, h1, h2⟩ := al y1 (.cells #[.int .i64 C0.kind, .int .i64 C0.op, .int .i64 C0.aB, .int .i64 C0.line, .string C0.text, .slice AC0 C0.kids.length qC0] Z7);rw [h1, h2];have HNy2 := zh hn;have HEy2 := zh h2;have HMy2 := zh (Za hn);have HSy2 := zh (HSy1.o.later hl);have HTy2 := zh (show Tn (fun b => b = LB) y1 y2 from Tn.later hl)
 have HXy2 := zh (HXy1.o.keep HTy2.o);have HZy2 := zh HTy2.o.size;clear hl hn h1 h2;refine ⟨HXy2.o, ?_⟩;refine Zay [_, _] (by kernel_rfl) rfl rfl ?_;simp only [gA, gB, gC];go_wp2_with fail;refine (Zao LB c A k 26 (some ⟨By2, 0, none⟩) 1 1 y2).mono ?_;rintro e yz ⟨rfl, hb⟩;have HSyz := zh ((HLC.o.all HLEN.o ▸ HSy2.o).later hb);have HTyz := zh (show Tn (fun b => b = LB) y2 yz from Tn.later hb);have HXyz := zh (HXy2.o.keep HTyz.o);have HZyz := zh HTyz.o.size;clear hb;have e1 := HXyz.o.rb;have r0 := cz6 e1;have fr0 := fz e1;clear e1;go_wp2_with fail;have hzW := HZW.o;have h5 := HB.o.tn.size;have hzy1 := HZy1.o;have hzy2 := HZy2.o;have hey2 := HEy2.o;have hmy2 := HMy2.o;have hlb := Za HB.o.bs.blk;have hry2 := Zq2 (B := By2) HNy2.o ((HVC0.o).tn HTy2.o (by omega)) (by omega) (by omega);have hc3 := CV.ck (line := c.line) (k := 26) hry2 (by decide) (by decide) HC64.o;exact ⟨Zce.mk' rfl rfl, HB.o.fin (C := (cK 26 c.line [C0])) HXyz.o HSyz.o ((hc3).tn HTyz.o (by omega)) (by omega)⟩
theorem Zs1 {a : Act} (n : Nat) (IH : ∀ m, n = m + 1 → Zd6 m) (E : Zaz) (LB cs : Nat) (c : Ze) (A : Option Addr) (k : Nat) (EB RB NB ZB : Nat) (m : Int) (K : List Zf) (w w5 : World) (HB : Hd (LxB E LB cs c A k EB RB NB ZB w w5)) (HS5 : Hd (LwI E LB cs w5)) (HV : Hd (EV n E.F w c A k)) (HLC : Hd (LoC E n c cs)) (HM : Hd (m = ((E.L.length + cs : Nat) : Int))) (HK : Hd (K = Zch E.u E.L n c m c.kids.length)) (HK20 : Hd (c.kind ≠ 20)) (HC64 : Hd (Zy c.line)) (HLEN : Hd (c.kids.length ≤ 2)) (HF : Hd (FrL LB EB RB NB ZB a)) :
  lwA55.wp Tryz.prog (Zc0 fun a' x => Zce RB a' ∧ LoR (LwI E LB) LB RB w (cK 18 c.line [kdC K c.line 0, kdC K c.line 1]) (cs + csX c) x) a w5 := by
 obtain ⟨C0, hC0⟩ : ∃ z, z = kdC K c.line 0 := ⟨_, rfl⟩;rw [← hC0];have HC0 := zh hC0;clear hC0;obtain ⟨C1, hC1⟩ : ∃ z, z = kdC K c.line 1 := ⟨_, rfl⟩;rw [← hC1];have HC1 := zh hC1;clear hC1;obtain ⟨fr, rfl⟩ := HF.o.opn;clear HF
 conv => arg 2; whnf
 refine Zap [9, 10] [] (fun z => LxB E LB cs c A k EB RB NB ZB w z) (by kernel_rfl) (fun W hW => ?_);have hlW : Zb w5 W := by rw [hW]; exact (Zb.refl _).drew
 have HXW := zh (HB.o.later hlW);have HSW := zh (HS5.o.later hlW);have HZW := zh hlW.size;clear hlW hW;refine uV 0 231 HXW.o ?_;simp only [yN];refine uV 1 232 HXW.o (hy := fun x hx => by have hxe := hx.eb; have c0 := Z1 hxe; have fc0 := fz hxe; go_simp <;> with_reducible rfl) ?_;simp only [yN];refine uV 2 233 HXW.o ?_;simp only [yN];refine uV 3 234 HXW.o (hy := fun x hx => by have hxe := hx.eb; have c0 := Z1 hxe; have fc0 := fz hxe; go_simp <;> with_reducible rfl) ?_;simp only [yN];refine uV 5 236 HXW.o ?_;simp only [yN];refine uV 6 237 HXW.o (hy := fun x hx => by have hxe := hx.eb; have c0 := Z1 hxe; have fc0 := fz hxe; go_simp <;> with_reducible rfl) ?_;simp only [yN];refine Zv 4 (by kernel_rfl) rfl rfl ?_;go_wp2_with fail;refine (Zc1 n IH E LB cs W c A k m HM.o 0 (by decide) (show LwI E LB (cs + Zbu c.kind + Za3 (c.kids.take 0)) W by simpa [Za3, Zaw HK20.o] using HSW.o) (HXW.o.ev HV.o) HLC.o).mono ?_;rintro e y1 hp;obtain ⟨AC0, qC0, rfl, hcv⟩ := hp.core;rw [← HK.o, ← HC0.o] at hcv;rw [← HK.o, ← HC0.o];have HVC0 := zh hcv;have HSy1 := zh (hp.st);have HTy1 := zh (show Tn (fun b => b = LB) W y1 from hp.tn);have HXy1 := zh (HXW.o.keep HTy1.o);have HZy1 := zh HTy1.o.size;clear hp hcv;go_wp2_with fail;refine ⟨HXy1.o, ?_⟩;refine Zv 7 (by kernel_rfl) rfl rfl ?_;go_wp2_with fail;refine (Zc1 n IH E LB cs y1 c A k m HM.o 1 (by decide) HSy1.o (HXy1.o.ev HV.o) HLC.o).mono ?_;rintro e y2 hp;obtain ⟨AC1, qC1, rfl, hcv⟩ := hp.core
 rw [← HK.o, ← HC1.o] at hcv;rw [← HK.o, ← HC1.o];have HVC1 := zh hcv;have HSy2 := zh (hp.st);have HTy2 := zh (show Tn (fun b => b = LB) y1 y2 from hp.tn);have HXy2 := zh (HXy1.o.keep HTy2.o);have HZy2 := zh HTy2.o.size;clear hp hcv;go_wp2_with fail;refine ⟨HXy2.o, ?_⟩;refine Zv 8 (by kernel_rfl) rfl rfl ?_;go_wp2_with fail;obtain ⟨y3, By3, hl, hn, h1, h2⟩ := al y2 (.cells #[.int .i64 C0.kind, .int .i64 C0.op, .int .i64 C0.aB, .int .i64 C0.line, .string C0.text, .slice AC0 C0.kids.length qC0, .int .i64 C1.kind, .int .i64 C1.op, .int .i64 C1.aB, .int .i64 C1.line, .string C1.text, .slice AC1 C1.kids.length qC1] Z7);rw [h1, h2];have HNy3 := zh hn;have HEy3 := zh h2;have HMy3 := zh (Za hn);have HSy3 := zh (HSy2.o.later hl);have HTy3 := zh (show Tn (fun b => b = LB) y2 y3 from Tn.later hl);have HXy3 := zh (HXy2.o.keep HTy3.o);have HZy3 := zh HTy3.o.size;clear hl hn h1 h2;refine ⟨HXy3.o, ?_⟩;refine Zay [_, _] (by kernel_rfl) rfl rfl ?_;simp only [gA, gB, gC];go_wp2_with fail;refine (Zao LB c A k 18 (some ⟨By3, 0, none⟩) 2 2 y3).mono ?_;rintro e yz ⟨rfl, hb⟩;have HSyz := zh ((HLC.o.all HLEN.o ▸ HSy3.o).later hb);have HTyz := zh (show Tn (fun b => b = LB) y3 yz from Tn.later hb);have HXyz := zh (HXy3.o.keep HTyz.o);have HZyz := zh HTyz.o.size;clear hb;have e1 := HXyz.o.rb;have r0 := cz6 e1;have fr0 := fz e1;clear e1;go_wp2_with fail;have hzW := HZW.o;have h5 := HB.o.tn.size;have hzy1 := HZy1.o;have hzy2 := HZy2.o;have hzy3 := HZy3.o
 have hey3 := HEy3.o;have hmy3 := HMy3.o;have hlb := Za HB.o.bs.blk;have hry3 := Zm0 (B := By3) HNy3.o ((HVC0.o).tn (Tn.tr HTy2.o HTy3.o) (by omega)) ((HVC1.o).tn HTy3.o (by omega)) (by omega);have hc4 := CV.ck (line := c.line) (k := 18) hry3 (by decide) (by decide) HC64.o;exact ⟨Zce.mk' rfl rfl, HB.o.fin (C := (cK 18 c.line [C0, C1])) HXyz.o HSyz.o ((hc4).tn HTyz.o (by omega)) (by omega)⟩
theorem Zs2 {a : Act} (n : Nat) (IH : ∀ m, n = m + 1 → Zd6 m) (E : Zaz) (LB cs : Nat) (c : Ze) (A : Option Addr) (k : Nat) (EB RB NB ZB : Nat) (m : Int) (K : List Zf) (w w5 : World) (HB : Hd (LxB E LB cs c A k EB RB NB ZB w w5)) (HS5 : Hd (LwI E LB cs w5)) (HV : Hd (EV n E.F w c A k)) (HLC : Hd (LoC E n c cs)) (HM : Hd (m = ((E.L.length + cs : Nat) : Int))) (HK : Hd (K = Zch E.u E.L n c m c.kids.length)) (HK20 : Hd (c.kind ≠ 20)) (HC64 : Hd (Zy c.line)) (HLEN : Hd (c.kids.length ≤ 2)) (HF : Hd (FrL LB EB RB NB ZB a)) :
  lwA59.wp Tryz.prog (Zc0 fun a' x => Zce RB a' ∧ LoR (LwI E LB) LB RB w (cK 19 c.line [kdC K c.line 0, kdC K c.line 1]) (cs + csX c) x) a w5 := by
 obtain ⟨C0, hC0⟩ : ∃ z, z = kdC K c.line 0 := ⟨_, rfl⟩;rw [← hC0];have HC0 := zh hC0;clear hC0;obtain ⟨C1, hC1⟩ : ∃ z, z = kdC K c.line 1 := ⟨_, rfl⟩;rw [← hC1];have HC1 := zh hC1;clear hC1;obtain ⟨fr, rfl⟩ := HF.o.opn;clear HF
 conv => arg 2; whnf
 refine Zap [9, 10] [] (fun z => LxB E LB cs c A k EB RB NB ZB w z) (by kernel_rfl) (fun W hW => ?_);have hlW : Zb w5 W := by rw [hW]; exact (Zb.refl _).drew
 have HXW := zh (HB.o.later hlW);have HSW := zh (HS5.o.later hlW);have HZW := zh hlW.size;clear hlW hW;refine uV 0 261 HXW.o ?_;simp only [yN];refine uV 1 262 HXW.o (hy := fun x hx => by have hxe := hx.eb; have c0 := Z1 hxe; have fc0 := fz hxe; go_simp <;> with_reducible rfl) ?_;simp only [yN];refine uV 2 263 HXW.o ?_;simp only [yN];refine uV 3 264 HXW.o (hy := fun x hx => by have hxe := hx.eb; have c0 := Z1 hxe; have fc0 := fz hxe; go_simp <;> with_reducible rfl) ?_;simp only [yN];refine uV 5 266 HXW.o ?_;simp only [yN];refine uV 6 267 HXW.o (hy := fun x hx => by have hxe := hx.eb; have c0 := Z1 hxe; have fc0 := fz hxe; go_simp <;> with_reducible rfl) ?_;simp only [yN];refine Zv 4 (by kernel_rfl) rfl rfl ?_;go_wp2_with fail;refine (Zc1 n IH E LB cs W c A k m HM.o 0 (by decide) (show LwI E LB (cs + Zbu c.kind + Za3 (c.kids.take 0)) W by simpa [Za3, Zaw HK20.o] using HSW.o) (HXW.o.ev HV.o) HLC.o).mono ?_;rintro e y1 hp;obtain ⟨AC0, qC0, rfl, hcv⟩ := hp.core;rw [← HK.o, ← HC0.o] at hcv;rw [← HK.o, ← HC0.o];have HVC0 := zh hcv;have HSy1 := zh (hp.st);have HTy1 := zh (show Tn (fun b => b = LB) W y1 from hp.tn);have HXy1 := zh (HXW.o.keep HTy1.o);have HZy1 := zh HTy1.o.size;clear hp hcv;go_wp2_with fail;refine ⟨HXy1.o, ?_⟩;refine Zv 7 (by kernel_rfl) rfl rfl ?_;go_wp2_with fail;refine (Zc1 n IH E LB cs y1 c A k m HM.o 1 (by decide) HSy1.o (HXy1.o.ev HV.o) HLC.o).mono ?_;rintro e y2 hp;obtain ⟨AC1, qC1, rfl, hcv⟩ := hp.core
 rw [← HK.o, ← HC1.o] at hcv;rw [← HK.o, ← HC1.o];have HVC1 := zh hcv;have HSy2 := zh (hp.st);have HTy2 := zh (show Tn (fun b => b = LB) y1 y2 from hp.tn);have HXy2 := zh (HXy1.o.keep HTy2.o);have HZy2 := zh HTy2.o.size;clear hp hcv;go_wp2_with fail;refine ⟨HXy2.o, ?_⟩;refine Zv 8 (by kernel_rfl) rfl rfl ?_;go_wp2_with fail;obtain ⟨y3, By3, hl, hn, h1, h2⟩ := al y2 (.cells #[.int .i64 C0.kind, .int .i64 C0.op, .int .i64 C0.aB, .int .i64 C0.line, .string C0.text, .slice AC0 C0.kids.length qC0, .int .i64 C1.kind, .int .i64 C1.op, .int .i64 C1.aB, .int .i64 C1.line, .string C1.text, .slice AC1 C1.kids.length qC1] Z7);rw [h1, h2];have HNy3 := zh hn;have HEy3 := zh h2;have HMy3 := zh (Za hn);have HSy3 := zh (HSy2.o.later hl);have HTy3 := zh (show Tn (fun b => b = LB) y2 y3 from Tn.later hl);have HXy3 := zh (HXy2.o.keep HTy3.o);have HZy3 := zh HTy3.o.size;clear hl hn h1 h2;refine ⟨HXy3.o, ?_⟩;refine Zay [_, _] (by kernel_rfl) rfl rfl ?_;simp only [gA, gB, gC];go_wp2_with fail;refine (Zao LB c A k 19 (some ⟨By3, 0, none⟩) 2 2 y3).mono ?_;rintro e yz ⟨rfl, hb⟩;have HSyz := zh ((HLC.o.all HLEN.o ▸ HSy3.o).later hb);have HTyz := zh (show Tn (fun b => b = LB) y3 yz from Tn.later hb);have HXyz := zh (HXy3.o.keep HTyz.o);have HZyz := zh HTyz.o.size;clear hb;have e1 := HXyz.o.rb;have r0 := cz6 e1;have fr0 := fz e1;clear e1;go_wp2_with fail;have hzW := HZW.o;have h5 := HB.o.tn.size;have hzy1 := HZy1.o;have hzy2 := HZy2.o;have hzy3 := HZy3.o
 have hey3 := HEy3.o;have hmy3 := HMy3.o;have hlb := Za HB.o.bs.blk;have hry3 := Zm0 (B := By3) HNy3.o ((HVC0.o).tn (Tn.tr HTy2.o HTy3.o) (by omega)) ((HVC1.o).tn HTy3.o (by omega)) (by omega);have hc4 := CV.ck (line := c.line) (k := 19) hry3 (by decide) (by decide) HC64.o;exact ⟨Zce.mk' rfl rfl, HB.o.fin (C := (cK 19 c.line [C0, C1])) HXyz.o HSyz.o ((hc4).tn HTyz.o (by omega)) (by omega)⟩
theorem Zs3 {a : Act} (n : Nat) (IH : ∀ m, n = m + 1 → Zd6 m) (E : Zaz) (LB cs : Nat) (c : Ze) (A : Option Addr) (k : Nat) (EB RB NB ZB : Nat) (m : Int) (K : List Zf) (w w5 : World) (HB : Hd (LxB E LB cs c A k EB RB NB ZB w w5)) (HS5 : Hd (LwI E LB cs w5)) (HV : Hd (EV n E.F w c A k)) (HLC : Hd (LoC E n c cs)) (HM : Hd (m = ((E.L.length + cs : Nat) : Int))) (HK : Hd (K = Zch E.u E.L n c m c.kids.length)) (HK20 : Hd (c.kind ≠ 20)) (HC64 : Hd (Zy c.line)) (HLEN : Hd (c.kids.length ≤ 2)) (HF : Hd (FrL LB EB RB NB ZB a)) :
  lwA69.wp Tryz.prog (Zc0 fun a' x => Zce RB a' ∧ LoR (LwI E LB) LB RB w (cK 25 c.line [kdC K c.line 0, kdC K c.line 1]) (cs + csX c) x) a w5 := by
 obtain ⟨C0, hC0⟩ : ∃ z, z = kdC K c.line 0 := ⟨_, rfl⟩;rw [← hC0];have HC0 := zh hC0;clear hC0;obtain ⟨C1, hC1⟩ : ∃ z, z = kdC K c.line 1 := ⟨_, rfl⟩;rw [← hC1];have HC1 := zh hC1;clear hC1;obtain ⟨fr, rfl⟩ := HF.o.opn;clear HF
 conv => arg 2; whnf
 refine Zap [9, 10] [] (fun z => LxB E LB cs c A k EB RB NB ZB w z) (by kernel_rfl) (fun W hW => ?_);have hlW : Zb w5 W := by rw [hW]; exact (Zb.refl _).drew
 have HXW := zh (HB.o.later hlW);have HSW := zh (HS5.o.later hlW);have HZW := zh hlW.size;clear hlW hW;refine uV 0 308 HXW.o ?_;simp only [yN];refine uV 1 309 HXW.o (hy := fun x hx => by have hxe := hx.eb; have c0 := Z1 hxe; have fc0 := fz hxe; go_simp <;> with_reducible rfl) ?_;simp only [yN];refine uV 2 310 HXW.o ?_;simp only [yN];refine uV 3 311 HXW.o (hy := fun x hx => by have hxe := hx.eb; have c0 := Z1 hxe; have fc0 := fz hxe; go_simp <;> with_reducible rfl) ?_;simp only [yN];refine uV 5 313 HXW.o ?_;simp only [yN];refine uV 6 314 HXW.o (hy := fun x hx => by have hxe := hx.eb; have c0 := Z1 hxe; have fc0 := fz hxe; go_simp <;> with_reducible rfl) ?_;simp only [yN];refine Zv 4 (by kernel_rfl) rfl rfl ?_;go_wp2_with fail;refine (Zc1 n IH E LB cs W c A k m HM.o 0 (by decide) (show LwI E LB (cs + Zbu c.kind + Za3 (c.kids.take 0)) W by simpa [Za3, Zaw HK20.o] using HSW.o) (HXW.o.ev HV.o) HLC.o).mono ?_;rintro e y1 hp;obtain ⟨AC0, qC0, rfl, hcv⟩ := hp.core;rw [← HK.o, ← HC0.o] at hcv;rw [← HK.o, ← HC0.o];have HVC0 := zh hcv;have HSy1 := zh (hp.st);have HTy1 := zh (show Tn (fun b => b = LB) W y1 from hp.tn);have HXy1 := zh (HXW.o.keep HTy1.o);have HZy1 := zh HTy1.o.size;clear hp hcv;go_wp2_with fail;refine ⟨HXy1.o, ?_⟩;refine Zv 7 (by kernel_rfl) rfl rfl ?_;go_wp2_with fail;refine (Zc1 n IH E LB cs y1 c A k m HM.o 1 (by decide) HSy1.o (HXy1.o.ev HV.o) HLC.o).mono ?_;rintro e y2 hp;obtain ⟨AC1, qC1, rfl, hcv⟩ := hp.core
 rw [← HK.o, ← HC1.o] at hcv;rw [← HK.o, ← HC1.o];have HVC1 := zh hcv;have HSy2 := zh (hp.st);have HTy2 := zh (show Tn (fun b => b = LB) y1 y2 from hp.tn);have HXy2 := zh (HXy1.o.keep HTy2.o);have HZy2 := zh HTy2.o.size;clear hp hcv;go_wp2_with fail;refine ⟨HXy2.o, ?_⟩;refine Zv 8 (by kernel_rfl) rfl rfl ?_;go_wp2_with fail;obtain ⟨y3, By3, hl, hn, h1, h2⟩ := al y2 (.cells #[.int .i64 C0.kind, .int .i64 C0.op, .int .i64 C0.aB, .int .i64 C0.line, .string C0.text, .slice AC0 C0.kids.length qC0, .int .i64 C1.kind, .int .i64 C1.op, .int .i64 C1.aB, .int .i64 C1.line, .string C1.text, .slice AC1 C1.kids.length qC1] Z7);rw [h1, h2];have HNy3 := zh hn;have HEy3 := zh h2;have HMy3 := zh (Za hn);have HSy3 := zh (HSy2.o.later hl);have HTy3 := zh (show Tn (fun b => b = LB) y2 y3 from Tn.later hl);have HXy3 := zh (HXy2.o.keep HTy3.o);have HZy3 := zh HTy3.o.size;clear hl hn h1 h2;refine ⟨HXy3.o, ?_⟩;refine Zay [_, _] (by kernel_rfl) rfl rfl ?_;simp only [gA, gB, gC];go_wp2_with fail;refine (Zao LB c A k 25 (some ⟨By3, 0, none⟩) 2 2 y3).mono ?_;rintro e yz ⟨rfl, hb⟩;have HSyz := zh ((HLC.o.all HLEN.o ▸ HSy3.o).later hb);have HTyz := zh (show Tn (fun b => b = LB) y3 yz from Tn.later hb);have HXyz := zh (HXy3.o.keep HTyz.o);have HZyz := zh HTyz.o.size;clear hb;have e1 := HXyz.o.rb;have r0 := cz6 e1;have fr0 := fz e1;clear e1;go_wp2_with fail;have hzW := HZW.o;have h5 := HB.o.tn.size;have hzy1 := HZy1.o;have hzy2 := HZy2.o;have hzy3 := HZy3.o
 have hey3 := HEy3.o;have hmy3 := HMy3.o;have hlb := Za HB.o.bs.blk;have hry3 := Zm0 (B := By3) HNy3.o ((HVC0.o).tn (Tn.tr HTy2.o HTy3.o) (by omega)) ((HVC1.o).tn HTy3.o (by omega)) (by omega);have hc4 := CV.ck (line := c.line) (k := 25) hry3 (by decide) (by decide) HC64.o;exact ⟨Zce.mk' rfl rfl, HB.o.fin (C := (cK 25 c.line [C0, C1])) HXyz.o HSyz.o ((hc4).tn HTyz.o (by omega)) (by omega)⟩
theorem Zs4 {a : Act} (n : Nat) (IH : ∀ m, n = m + 1 → Zd6 m) (E : Zaz) (LB cs : Nat) (c : Ze) (A : Option Addr) (k : Nat) (EB RB NB ZB : Nat) (m : Int) (K : List Zf) (w w5 : World) (HB : Hd (LxB E LB cs c A k EB RB NB ZB w w5)) (HS5 : Hd (LwI E LB cs w5)) (HV : Hd (EV n E.F w c A k)) (HLC : Hd (LoC E n c cs)) (HM : Hd (m = ((E.L.length + cs : Nat) : Int))) (HK : Hd (K = Zch E.u E.L n c m c.kids.length)) (HK20 : Hd (c.kind ≠ 20)) (HC64 : Hd (Zy c.line)) (HLEN : Hd (c.kids.length ≤ 2)) (HF : Hd (FrL LB EB RB NB ZB a)) :
  lwA57.wp Tryz.prog (Zc0 fun a' x => Zce RB a' ∧ LoR (LwI E LB) LB RB w (cK 18 c.line [cK 17 c.line [kdC K c.line 0, cN 28 c.line, cN 4 c.line], kdC K c.line 1]) (cs + csX c) x) a w5 := by
 obtain ⟨C0, hC0⟩ : ∃ z, z = kdC K c.line 0 := ⟨_, rfl⟩;rw [← hC0];have HC0 := zh hC0;clear hC0;obtain ⟨C1, hC1⟩ : ∃ z, z = kdC K c.line 1 := ⟨_, rfl⟩;rw [← hC1];have HC1 := zh hC1;clear hC1;obtain ⟨fr, rfl⟩ := HF.o.opn;clear HF
 conv => arg 2; whnf
 refine Zap [15, 16] [] (fun z => LxB E LB cs c A k EB RB NB ZB w z) (by kernel_rfl) (fun W hW => ?_);have hlW : Zb w5 W := by rw [hW]; exact (Zb.refl _).drew
 have HXW := zh (HB.o.later hlW);have HSW := zh (HS5.o.later hlW);have HZW := zh hlW.size;clear hlW hW;refine uV 0 243 HXW.o ?_;simp only [yN];refine uV 1 244 HXW.o (hy := fun x hx => by have hxe := hx.eb; have c0 := Z1 hxe; have fc0 := fz hxe; have hxn := hx.nb; have n0 := cz6 hxn; have fn0 := fz hxn; have hxz := hx.zb; have z0 := cz6 hxz; have fz0 := fz hxz; go_simp <;> with_reducible rfl) ?_;simp only [yN];refine uV 2 245 HXW.o ?_;simp only [yN];refine uV 3 246 HXW.o (hy := fun x hx => by have hxe := hx.eb; have c0 := Z1 hxe; have fc0 := fz hxe; have hxn := hx.nb; have n0 := cz6 hxn; have fn0 := fz hxn; have hxz := hx.zb; have z0 := cz6 hxz; have fz0 := fz hxz; go_simp <;> with_reducible rfl) ?_;simp only [yN];refine uV 4 247 HXW.o ?_;simp only [yN];refine uV 5 248 HXW.o (hy := fun x hx => by have hxe := hx.eb; have c0 := Z1 hxe; have fc0 := fz hxe; have hxn := hx.nb; have n0 := cz6 hxn; have fn0 := fz hxn; have hxz := hx.zb; have z0 := cz6 hxz; have fz0 := fz hxz; go_simp <;> with_reducible rfl) ?_;simp only [yN];refine uV 7 250 HXW.o (hy := fun x hx => by have hxe := hx.eb; have c0 := Z1 hxe; have fc0 := fz hxe; have hxn := hx.nb; have n0 := cz6 hxn; have fn0 := fz hxn; have hxz := hx.zb; have z0 := cz6 hxz; have fz0 := fz hxz; go_simp <;> with_reducible rfl) ?_
 simp only [yN];refine uV 8 251 HXW.o (hy := fun x hx => by have hxe := hx.eb; have c0 := Z1 hxe; have fc0 := fz hxe; have hxn := hx.nb; have n0 := cz6 hxn; have fn0 := fz hxn; have hxz := hx.zb; have z0 := cz6 hxz; have fz0 := fz hxz; go_simp <;> with_reducible rfl) ?_;simp only [yN];refine uV 11 254 HXW.o ?_;simp only [yN];refine uV 12 255 HXW.o (hy := fun x hx => by have hxe := hx.eb; have c0 := Z1 hxe; have fc0 := fz hxe; have hxn := hx.nb; have n0 := cz6 hxn; have fn0 := fz hxn; have hxz := hx.zb; have z0 := cz6 hxz; have fz0 := fz hxz; go_simp <;> with_reducible rfl) ?_;simp only [yN];refine Zv 6 (by kernel_rfl) rfl rfl ?_;go_wp2_with fail;refine (Zc1 n IH E LB cs W c A k m HM.o 0 (by decide) (show LwI E LB (cs + Zbu c.kind + Za3 (c.kids.take 0)) W by simpa [Za3, Zaw HK20.o] using HSW.o) (HXW.o.ev HV.o) HLC.o).mono ?_;rintro e y1 hp;obtain ⟨AC0, qC0, rfl, hcv⟩ := hp.core;rw [← HK.o, ← HC0.o] at hcv;rw [← HK.o, ← HC0.o];have HVC0 := zh hcv;have HSy1 := zh (hp.st);have HTy1 := zh (show Tn (fun b => b = LB) W y1 from hp.tn);have HXy1 := zh (HXW.o.keep HTy1.o);have HZy1 := zh HTy1.o.size;clear hp hcv;go_wp2_with fail;refine ⟨HXy1.o, ?_⟩;refine Zv 9 (by kernel_rfl) rfl rfl ?_;go_wp2_with fail;obtain ⟨y2, By2, hl, hn, h1, h2⟩ := al y1 (.cells #[.int .i64 C0.kind, .int .i64 C0.op, .int .i64 C0.aB, .int .i64 C0.line, .string C0.text, .slice AC0 C0.kids.length qC0, .int .i64 28, .int .i64 0, .int .i64 0, .int .i64 c.line, .string ⟨#[]⟩, .slice none 0 0, .int .i64 4, .int .i64 0, .int .i64 0, .int .i64 c.line, .string ⟨#[]⟩, .slice none 0 0] Z7)
 rw [h1, h2];have HNy2 := zh hn;have HEy2 := zh h2;have HMy2 := zh (Za hn);have HSy2 := zh (HSy1.o.later hl);have HTy2 := zh (show Tn (fun b => b = LB) y1 y2 from Tn.later hl);have HXy2 := zh (HXy1.o.keep HTy2.o);have HZy2 := zh HTy2.o.size;clear hl hn h1 h2;refine ⟨HXy2.o, ?_⟩;refine Zv 10 (by kernel_rfl) rfl rfl ?_;go_wp2_with fail;refine (Zao LB c A k 17 (some ⟨By2, 0, none⟩) 3 3 y2).mono ?_;rintro e y3 ⟨rfl, hb⟩;have HSy3 := zh (HSy2.o.later hb);have HTy3 := zh (show Tn (fun b => b = LB) y2 y3 from Tn.later hb);have HXy3 := zh (HXy2.o.keep HTy3.o);have HZy3 := zh HTy3.o.size;clear hb;go_wp2_with fail;refine ⟨HXy3.o, ?_⟩;refine Zv 13 (by kernel_rfl) rfl rfl ?_;go_wp2_with fail;refine (Zc1 n IH E LB cs y3 c A k m HM.o 1 (by decide) HSy3.o (HXy3.o.ev HV.o) HLC.o).mono ?_;rintro e y5 hp;obtain ⟨AC1, qC1, rfl, hcv⟩ := hp.core;rw [← HK.o, ← HC1.o] at hcv;rw [← HK.o, ← HC1.o];have HVC1 := zh hcv;have HSy5 := zh (hp.st);have HTy5 := zh (show Tn (fun b => b = LB) y3 y5 from hp.tn);have HXy5 := zh (HXy3.o.keep HTy5.o);have HZy5 := zh HTy5.o.size;clear hp hcv;go_wp2_with fail;refine ⟨HXy5.o, ?_⟩;refine Zv 14 (by kernel_rfl) rfl rfl ?_;go_wp2_with fail;obtain ⟨y6, By6, hl, hn, h1, h2⟩ := al y5 (.cells #[.int .i64 17, .int .i64 0, .int .i64 0, .int .i64 c.line, .string ⟨#[]⟩, .slice (some ⟨By2, 0, none⟩) 3 3, .int .i64 C1.kind, .int .i64 C1.op, .int .i64 C1.aB, .int .i64 C1.line, .string C1.text, .slice AC1 C1.kids.length qC1] Z7);rw [h1, h2];have HNy6 := zh hn
 have HEy6 := zh h2;have HMy6 := zh (Za hn);have HSy6 := zh (HSy5.o.later hl);have HTy6 := zh (show Tn (fun b => b = LB) y5 y6 from Tn.later hl);have HXy6 := zh (HXy5.o.keep HTy6.o);have HZy6 := zh HTy6.o.size;clear hl hn h1 h2;refine ⟨HXy6.o, ?_⟩;refine Zay [_, _] (by kernel_rfl) rfl rfl ?_;simp only [gA, gB, gC];go_wp2_with fail;refine (Zao LB c A k 18 (some ⟨By6, 0, none⟩) 2 2 y6).mono ?_;rintro e yz ⟨rfl, hb⟩;have HSyz := zh ((HLC.o.all HLEN.o ▸ HSy6.o).later hb);have HTyz := zh (show Tn (fun b => b = LB) y6 yz from Tn.later hb);have HXyz := zh (HXy6.o.keep HTyz.o);have HZyz := zh HTyz.o.size;clear hb;have e1 := HXyz.o.rb;have r0 := cz6 e1;have fr0 := fz e1;clear e1;go_wp2_with fail;have hzW := HZW.o;have h5 := HB.o.tn.size;have hzy1 := HZy1.o;have hzy2 := HZy2.o;have hey2 := HEy2.o;have hmy2 := HMy2.o;have hzy3 := HZy3.o;have hzy5 := HZy5.o;have hzy6 := HZy6.o;have hey6 := HEy6.o;have hmy6 := HMy6.o;have hlb := Za HB.o.bs.blk;have hry2 := Zxn (B := By2) HNy2.o ((HVC0.o).tn HTy2.o (by omega)) (CV.cn (Iv (y1.heap.size) (y1.heap.size)) _ (by decide) (by decide) HC64.o) (CV.cn (Iv (y1.heap.size) (y1.heap.size)) _ (by decide) (by decide) HC64.o) (by omega);have hc4 := CV.ck (line := c.line) (k := 17) hry2 (by decide) (by decide) HC64.o;have hry6 := Zm0 (B := By6) HNy6.o ((hc4).tn (Tn.tr (Tn.tr HTy3.o HTy5.o) HTy6.o) (by omega)) ((HVC1.o).tn HTy6.o (by omega)) (by omega);have hc7 := CV.ck (line := c.line) (k := 18) hry6 (by decide) (by decide) HC64.o
 exact ⟨Zce.mk' rfl rfl, HB.o.fin (C := (cK 18 c.line [(cK 17 c.line [C0, (cN 28 c.line), (cN 4 c.line)]), C1])) HXyz.o HSyz.o ((hc7).tn HTyz.o (by omega)) (by omega)⟩
theorem Zs5 {a : Act} (n : Nat) (IH : ∀ m, n = m + 1 → Zd6 m) (E : Zaz) (LB cs : Nat) (c : Ze) (A : Option Addr) (k : Nat) (EB RB NB ZB : Nat) (m : Int) (K : List Zf) (w w5 : World) (HB : Hd (LxB E LB cs c A k EB RB NB ZB w w5)) (HS5 : Hd (LwI E LB cs w5)) (HV : Hd (EV n E.F w c A k)) (HLC : Hd (LoC E n c cs)) (HM : Hd (m = ((E.L.length + cs : Nat) : Int))) (HK : Hd (K = Zch E.u E.L n c m c.kids.length)) (HK20 : Hd (c.kind ≠ 20)) (HC64 : Hd (Zy c.line)) (HLEN : Hd (c.kids.length ≤ 1)) (HF : Hd (FrL LB EB RB NB ZB a)) :
  lwA61.wp Tryz.prog (Zc0 fun a' x => Zce RB a' ∧ LoR (LwI E LB) LB RB w (cK 18 c.line [cN 4 c.line, kdC K c.line 0]) (cs + csX c) x) a w5 := by
 obtain ⟨C0, hC0⟩ : ∃ z, z = kdC K c.line 0 := ⟨_, rfl⟩;rw [← hC0];have HC0 := zh hC0;clear hC0;obtain ⟨fr, rfl⟩ := HF.o.opn;clear HF
 conv => arg 2; whnf
 refine Zap [7, 8] [] (fun z => LxB E LB cs c A k EB RB NB ZB w z) (by kernel_rfl) (fun W hW => ?_);have hlW : Zb w5 W := by rw [hW]; exact (Zb.refl _).drew
 have HXW := zh (HB.o.later hlW);have HSW := zh (HS5.o.later hlW);have HZW := zh hlW.size;clear hlW hW;refine uV 0 273 HXW.o ?_;simp only [yN];refine uV 1 274 HXW.o (hy := fun x hx => by have hxe := hx.eb; have c0 := Z1 hxe; have fc0 := fz hxe; have hxz := hx.zb; have z0 := cz6 hxz; have fz0 := fz hxz; go_simp <;> with_reducible rfl) ?_;simp only [yN];refine uV 2 275 HXW.o (hy := fun x hx => by have hxe := hx.eb; have c0 := Z1 hxe; have fc0 := fz hxe; have hxz := hx.zb; have z0 := cz6 hxz; have fz0 := fz hxz; go_simp <;> with_reducible rfl) ?_;simp only [yN];refine uV 3 276 HXW.o ?_;simp only [yN];refine uV 4 277 HXW.o (hy := fun x hx => by have hxe := hx.eb; have c0 := Z1 hxe; have fc0 := fz hxe; have hxz := hx.zb; have z0 := cz6 hxz; have fz0 := fz hxz; go_simp <;> with_reducible rfl) ?_;simp only [yN];refine Zv 5 (by kernel_rfl) rfl rfl ?_;go_wp2_with fail;refine (Zc1 n IH E LB cs W c A k m HM.o 0 (by decide) (show LwI E LB (cs + Zbu c.kind + Za3 (c.kids.take 0)) W by simpa [Za3, Zaw HK20.o] using HSW.o) (HXW.o.ev HV.o) HLC.o).mono ?_;rintro e y1 hp;obtain ⟨AC0, qC0, rfl, hcv⟩ := hp.core;rw [← HK.o, ← HC0.o] at hcv;rw [← HK.o, ← HC0.o];have HVC0 := zh hcv;have HSy1 := zh (hp.st);have HTy1 := zh (show Tn (fun b => b = LB) W y1 from hp.tn);have HXy1 := zh (HXW.o.keep HTy1.o);have HZy1 := zh HTy1.o.size;clear hp hcv;go_wp2_with fail
 refine ⟨HXy1.o, ?_⟩;refine Zv 6 (by kernel_rfl) rfl rfl ?_;go_wp2_with fail;obtain ⟨y2, By2, hl, hn, h1, h2⟩ := al y1 (.cells #[.int .i64 4, .int .i64 0, .int .i64 0, .int .i64 c.line, .string ⟨#[]⟩, .slice none 0 0, .int .i64 C0.kind, .int .i64 C0.op, .int .i64 C0.aB, .int .i64 C0.line, .string C0.text, .slice AC0 C0.kids.length qC0] Z7);rw [h1, h2];have HNy2 := zh hn;have HEy2 := zh h2;have HMy2 := zh (Za hn);have HSy2 := zh (HSy1.o.later hl);have HTy2 := zh (show Tn (fun b => b = LB) y1 y2 from Tn.later hl);have HXy2 := zh (HXy1.o.keep HTy2.o);have HZy2 := zh HTy2.o.size;clear hl hn h1 h2;refine ⟨HXy2.o, ?_⟩;refine Zay [_, _] (by kernel_rfl) rfl rfl ?_;simp only [gA, gB, gC];go_wp2_with fail;refine (Zao LB c A k 18 (some ⟨By2, 0, none⟩) 2 2 y2).mono ?_;rintro e yz ⟨rfl, hb⟩;have HSyz := zh ((HLC.o.all HLEN.o ▸ HSy2.o).later hb);have HTyz := zh (show Tn (fun b => b = LB) y2 yz from Tn.later hb);have HXyz := zh (HXy2.o.keep HTyz.o);have HZyz := zh HTyz.o.size;clear hb;have e1 := HXyz.o.rb;have r0 := cz6 e1;have fr0 := fz e1;clear e1;go_wp2_with fail;have hzW := HZW.o;have h5 := HB.o.tn.size;have hzy1 := HZy1.o;have hzy2 := HZy2.o;have hey2 := HEy2.o;have hmy2 := HMy2.o;have hlb := Za HB.o.bs.blk;have hry2 := Zm0 (B := By2) HNy2.o (CV.cn (Iv (W.heap.size) (W.heap.size)) _ (by decide) (by decide) HC64.o) ((HVC0.o).tn HTy2.o (by omega)) (by omega);have hc3 := CV.ck (line := c.line) (k := 18) hry2 (by decide) (by decide) HC64.o
 exact ⟨Zce.mk' rfl rfl, HB.o.fin (C := (cK 18 c.line [(cN 4 c.line), C0])) HXyz.o HSyz.o ((hc3).tn HTyz.o (by omega)) (by omega)⟩
theorem Zs6 {a : Act} (n : Nat) (IH : ∀ m, n = m + 1 → Zd6 m) (E : Zaz) (LB cs : Nat) (c : Ze) (A : Option Addr) (k : Nat) (EB RB NB ZB : Nat) (m : Int) (K : List Zf) (w w5 : World) (HB : Hd (LxB E LB cs c A k EB RB NB ZB w w5)) (HS5 : Hd (LwI E LB cs w5)) (HV : Hd (EV n E.F w c A k)) (HLC : Hd (LoC E n c cs)) (HM : Hd (m = ((E.L.length + cs : Nat) : Int))) (HK : Hd (K = Zch E.u E.L n c m c.kids.length)) (HK20 : Hd (c.kind ≠ 20)) (HC64 : Hd (Zy c.line)) (HLEN : Hd (c.kids.length ≤ 1)) (HF : Hd (FrL LB EB RB NB ZB a)) :
  lwA63.wp Tryz.prog (Zc0 fun a' x => Zce RB a' ∧ LoR (LwI E LB) LB RB w (cK 17 c.line [kdC K c.line 0, cN 28 c.line, cN 4 c.line]) (cs + csX c) x) a w5 := by
 obtain ⟨C0, hC0⟩ : ∃ z, z = kdC K c.line 0 := ⟨_, rfl⟩;rw [← hC0];have HC0 := zh hC0;clear hC0;obtain ⟨fr, rfl⟩ := HF.o.opn;clear HF
 conv => arg 2; whnf
 refine Zap [8, 9] [] (fun z => LxB E LB cs c A k EB RB NB ZB w z) (by kernel_rfl) (fun W hW => ?_);have hlW : Zb w5 W := by rw [hW]; exact (Zb.refl _).drew
 have HXW := zh (HB.o.later hlW);have HSW := zh (HS5.o.later hlW);have HZW := zh hlW.size;clear hlW hW;refine uV 0 283 HXW.o ?_;simp only [yN];refine uV 1 284 HXW.o (hy := fun x hx => by have hxe := hx.eb; have c0 := Z1 hxe; have fc0 := fz hxe; have hxn := hx.nb; have n0 := cz6 hxn; have fn0 := fz hxn; have hxz := hx.zb; have z0 := cz6 hxz; have fz0 := fz hxz; go_simp <;> with_reducible rfl) ?_;simp only [yN];refine uV 2 285 HXW.o ?_;simp only [yN];refine uV 3 286 HXW.o (hy := fun x hx => by have hxe := hx.eb; have c0 := Z1 hxe; have fc0 := fz hxe; have hxn := hx.nb; have n0 := cz6 hxn; have fn0 := fz hxn; have hxz := hx.zb; have z0 := cz6 hxz; have fz0 := fz hxz; go_simp <;> with_reducible rfl) ?_;simp only [yN];refine uV 5 288 HXW.o (hy := fun x hx => by have hxe := hx.eb; have c0 := Z1 hxe; have fc0 := fz hxe; have hxn := hx.nb; have n0 := cz6 hxn; have fn0 := fz hxn; have hxz := hx.zb; have z0 := cz6 hxz; have fz0 := fz hxz; go_simp <;> with_reducible rfl) ?_;simp only [yN];refine uV 6 289 HXW.o (hy := fun x hx => by have hxe := hx.eb; have c0 := Z1 hxe; have fc0 := fz hxe; have hxn := hx.nb; have n0 := cz6 hxn; have fn0 := fz hxn; have hxz := hx.zb; have z0 := cz6 hxz; have fz0 := fz hxz; go_simp <;> with_reducible rfl) ?_
 simp only [yN];refine Zv 4 (by kernel_rfl) rfl rfl ?_;go_wp2_with fail;refine (Zc1 n IH E LB cs W c A k m HM.o 0 (by decide) (show LwI E LB (cs + Zbu c.kind + Za3 (c.kids.take 0)) W by simpa [Za3, Zaw HK20.o] using HSW.o) (HXW.o.ev HV.o) HLC.o).mono ?_;rintro e y1 hp;obtain ⟨AC0, qC0, rfl, hcv⟩ := hp.core;rw [← HK.o, ← HC0.o] at hcv;rw [← HK.o, ← HC0.o];have HVC0 := zh hcv;have HSy1 := zh (hp.st);have HTy1 := zh (show Tn (fun b => b = LB) W y1 from hp.tn);have HXy1 := zh (HXW.o.keep HTy1.o);have HZy1 := zh HTy1.o.size;clear hp hcv;go_wp2_with fail;refine ⟨HXy1.o, ?_⟩;refine Zv 7 (by kernel_rfl) rfl rfl ?_;go_wp2_with fail;obtain ⟨y2, By2, hl, hn, h1, h2⟩ := al y1 (.cells #[.int .i64 C0.kind, .int .i64 C0.op, .int .i64 C0.aB, .int .i64 C0.line, .string C0.text, .slice AC0 C0.kids.length qC0, .int .i64 28, .int .i64 0, .int .i64 0, .int .i64 c.line, .string ⟨#[]⟩, .slice none 0 0, .int .i64 4, .int .i64 0, .int .i64 0, .int .i64 c.line, .string ⟨#[]⟩, .slice none 0 0] Z7);rw [h1, h2];have HNy2 := zh hn;have HEy2 := zh h2;have HMy2 := zh (Za hn);have HSy2 := zh (HSy1.o.later hl);have HTy2 := zh (show Tn (fun b => b = LB) y1 y2 from Tn.later hl);have HXy2 := zh (HXy1.o.keep HTy2.o);have HZy2 := zh HTy2.o.size;clear hl hn h1 h2;refine ⟨HXy2.o, ?_⟩;refine Zay [_, _] (by kernel_rfl) rfl rfl ?_;simp only [gA, gB, gC];go_wp2_with fail;refine (Zao LB c A k 17 (some ⟨By2, 0, none⟩) 3 3 y2).mono ?_;rintro e yz ⟨rfl, hb⟩;have HSyz := zh ((HLC.o.all HLEN.o ▸ HSy2.o).later hb)
 have HTyz := zh (show Tn (fun b => b = LB) y2 yz from Tn.later hb);have HXyz := zh (HXy2.o.keep HTyz.o);have HZyz := zh HTyz.o.size;clear hb;have e1 := HXyz.o.rb;have r0 := cz6 e1;have fr0 := fz e1;clear e1;go_wp2_with fail;have hzW := HZW.o;have h5 := HB.o.tn.size;have hzy1 := HZy1.o;have hzy2 := HZy2.o;have hey2 := HEy2.o;have hmy2 := HMy2.o;have hlb := Za HB.o.bs.blk;have hry2 := Zxn (B := By2) HNy2.o ((HVC0.o).tn HTy2.o (by omega)) (CV.cn (Iv (y1.heap.size) (y1.heap.size)) _ (by decide) (by decide) HC64.o) (CV.cn (Iv (y1.heap.size) (y1.heap.size)) _ (by decide) (by decide) HC64.o) (by omega);have hc3 := CV.ck (line := c.line) (k := 17) hry2 (by decide) (by decide) HC64.o;exact ⟨Zce.mk' rfl rfl, HB.o.fin (C := (cK 17 c.line [C0, (cN 28 c.line), (cN 4 c.line)])) HXyz.o HSyz.o ((hc3).tn HTyz.o (by omega)) (by omega)⟩
theorem Zs7 {a : Act} (n : Nat) (IH : ∀ m, n = m + 1 → Zd6 m) (E : Zaz) (LB cs : Nat) (c : Ze) (A : Option Addr) (k : Nat) (EB RB NB ZB : Nat) (m : Int) (K : List Zf) (w w5 : World) (HB : Hd (LxB E LB cs c A k EB RB NB ZB w w5)) (HS5 : Hd (LwI E LB cs w5)) (HV : Hd (EV n E.F w c A k)) (HLC : Hd (LoC E n c cs)) (HM : Hd (m = ((E.L.length + cs : Nat) : Int))) (HK : Hd (K = Zch E.u E.L n c m c.kids.length)) (HK20 : Hd (c.kind ≠ 20)) (HC64 : Hd (Zy c.line)) (HF : Hd (FrL LB EB RB NB ZB a)) :
  lwA22.wp Tryz.prog (Zc0 fun a' x => Zce RB a' ∧ LoR (LwI E LB) LB RB w (cO (unN c.text) c.line K) (cs + csX c) x) a w5 := by
 obtain ⟨U, hU⟩ : ∃ z, z = unN c.text := ⟨_, rfl⟩;rw [← hU];have HU := zh hU;have HUB := zh (show 0 ≤ U ∧ U ≤ 1000 by rw [hU]; have := Zdm (Zav Zen) c.text; rw [show (Zav Zen).length = 11 by simp [Zav]; rfl] at this; unfold unN; omega);clear hU;obtain ⟨fr, rfl⟩ := HF.o.opn;clear HF
 conv => arg 2; whnf
 refine Zap [9, 10] [] (fun z => LxB E LB cs c A k EB RB NB ZB w z) (by kernel_rfl) (fun W hW => ?_);have hlW : Zb w5 W := by rw [hW]; exact (Zb.refl _).drew
 have HXW := zh (HB.o.later hlW);have HSW := zh (HS5.o.later hlW);have HZW := zh hlW.size;clear hlW hW;refine uV 0 80 HXW.o ?_;simp only [yN];refine uV 1 81 HXW.o (hy := fun x hx => by have hxe := hx.eb; have c0 := Z1 hxe; have fc0 := fz hxe; go_simp <;> with_reducible rfl) ?_;simp only [yN];refine uV 2 82 HXW.o ?_;simp only [yN];refine uV 3 83 HXW.o (hy := fun x hx => by have hxe := hx.eb; have c0 := Z1 hxe; have fc0 := fz hxe; go_simp <;> with_reducible rfl) ?_;simp only [yN];refine uV 5 85 HXW.o ?_;simp only [yN];refine uV 6 86 HXW.o ?_;simp only [yN];refine uV 7 87 HXW.o (hy := fun x hx => by have hxe := hx.eb; have c0 := Z1 hxe; have fc0 := fz hxe; go_simp <;> with_reducible rfl) ?_;simp only [yN];refine Zv 4 (by kernel_rfl) rfl rfl ?_;go_wp2_with fail;refine (Zqc c.text W HSW.o.sp).mono ?_;rintro e y1 ⟨rfl, hb⟩;rw [← HU.o];have HSy1 := zh (HSW.o.later hb);have HTy1 := zh (show Tn (fun b => b = LB) W y1 from Tn.later hb);have HXy1 := zh (HXW.o.keep HTy1.o);have HZy1 := zh HTy1.o.size;clear hb;go_wp2_with fail;refine ⟨HXy1.o, ?_⟩;refine Zv 8 (by kernel_rfl) rfl rfl ?_;go_wp2_with fail;refine (Zb6 n IH E LB cs y1 c A k m HM.o (by rw [Zaw HK20.o]; exact HSy1.o) (HXy1.o.ev HV.o) HLC.o).mono ?_;rintro e y2 hp;obtain ⟨v, rfl, hrow⟩ := hp.o;rw [← HK.o] at hrow;obtain ⟨Ak, qk, rfl, -⟩ := id hrow;have HROW := zh (show Zz Zbe 6 Z7 (Iv y1.heap.size y2.heap.size) y2 K (.slice Ak K.length qk) from hrow.trim Zs)
 have HSy2 := zh (hp.st);have HTy2 := zh (show Tn (fun b => b = LB) y1 y2 from hp.tn);have HXy2 := zh (HXy1.o.keep HTy2.o);have HZy2 := zh HTy2.o.size;clear hp hrow;go_wp2_with fail;refine ⟨HXy2.o, ?_⟩;refine Zay [_, _] (by kernel_rfl) rfl rfl ?_;simp only [gA, gB, gC];go_wp2_with fail;refine (Zck LB c A k U Ak K.length qk y2).mono ?_;rintro e yz ⟨rfl, hb⟩;have HSyz := zh (HSy2.o.later hb);have HTyz := zh (show Tn (fun b => b = LB) y2 yz from Tn.later hb);have HXyz := zh (HXy2.o.keep HTyz.o);have HZyz := zh HTyz.o.size;clear hb;have e1 := HXyz.o.rb;have r0 := cz6 e1;have fr0 := fz e1;clear e1;go_wp2_with fail;have hzW := HZW.o;have h5 := HB.o.tn.size;have hzy1 := HZy1.o;have hzy2 := HZy2.o;have hlb := Za HB.o.bs.blk;have hc3 := CV.co (line := c.line) (op := U) HROW.o (by have := HUB.o; omega) (by have := HUB.o; omega) HC64.o;exact ⟨Zce.mk' rfl rfl, HB.o.fin (C := (cO U c.line K)) HXyz.o HSyz.o ((hc3).tn HTyz.o (by omega)) (by omega)⟩
theorem Zs8 {a : Act} (n : Nat) (IH : ∀ m, n = m + 1 → Zd6 m) (E : Zaz) (LB cs : Nat) (c : Ze) (A : Option Addr) (k : Nat) (EB RB NB ZB : Nat) (m : Int) (K : List Zf) (w w5 : World) (HB : Hd (LxB E LB cs c A k EB RB NB ZB w w5)) (HS5 : Hd (LwI E LB cs w5)) (HV : Hd (EV n E.F w c A k)) (HLC : Hd (LoC E n c cs)) (HM : Hd (m = ((E.L.length + cs : Nat) : Int))) (HK : Hd (K = Zch E.u E.L n c m c.kids.length)) (HK20 : Hd (c.kind ≠ 20)) (HC64 : Hd (Zy c.line)) (HBI : Hd (Zd7 c.text = true ∧ bl c.text ≠ [124] ∧ bl c.text ≠ [92] ∧ bl c.text ≠ [63])) (HF : Hd (FrL LB EB RB NB ZB a)) :
  lwA27.wp Tryz.prog (Zc0 fun a' x => Zce RB a' ∧ LoR (LwI E LB) LB RB w (cO (bnN c.text) c.line K) (cs + csX c) x) a w5 := by
 obtain ⟨U, hU⟩ : ∃ z, z = bnN c.text := ⟨_, rfl⟩;rw [← hU];have HU := zh hU;have HUB := zh (show 0 ≤ U ∧ U ≤ 1000 by rw [hU]; obtain ⟨op, h1, h2, h3, -⟩ := Zne HBI.o.1 HBI.o.2.1 HBI.o.2.2.1 HBI.o.2.2.2; omega);clear hU;obtain ⟨fr, rfl⟩ := HF.o.opn;clear HF
 conv => arg 2; whnf
 refine Zap [9, 10] [] (fun z => LxB E LB cs c A k EB RB NB ZB w z) (by kernel_rfl) (fun W hW => ?_);have hlW : Zb w5 W := by rw [hW]; exact (Zb.refl _).drew
 have HXW := zh (HB.o.later hlW);have HSW := zh (HS5.o.later hlW);have HZW := zh hlW.size;clear hlW hW;refine uV 0 107 HXW.o ?_;simp only [yN];refine uV 1 108 HXW.o (hy := fun x hx => by have hxe := hx.eb; have c0 := Z1 hxe; have fc0 := fz hxe; go_simp <;> with_reducible rfl) ?_;simp only [yN];refine uV 2 109 HXW.o ?_;simp only [yN];refine uV 3 110 HXW.o (hy := fun x hx => by have hxe := hx.eb; have c0 := Z1 hxe; have fc0 := fz hxe; go_simp <;> with_reducible rfl) ?_;simp only [yN];refine uV 5 112 HXW.o ?_;simp only [yN];refine uV 6 113 HXW.o ?_;simp only [yN];refine uV 7 114 HXW.o (hy := fun x hx => by have hxe := hx.eb; have c0 := Z1 hxe; have fc0 := fz hxe; go_simp <;> with_reducible rfl) ?_;simp only [yN];refine Zv 4 (by kernel_rfl) rfl rfl ?_;go_wp2_with fail;refine (Zpd c.text W HSW.o.sp HBI.o.1 HBI.o.2.1 HBI.o.2.2.1 HBI.o.2.2.2).mono ?_;rintro e y1 ⟨rfl, hb⟩;rw [← HU.o];have HSy1 := zh (HSW.o.later hb);have HTy1 := zh (show Tn (fun b => b = LB) W y1 from Tn.later hb);have HXy1 := zh (HXW.o.keep HTy1.o);have HZy1 := zh HTy1.o.size;clear hb;go_wp2_with fail;refine ⟨HXy1.o, ?_⟩;refine Zv 8 (by kernel_rfl) rfl rfl ?_;go_wp2_with fail;refine (Zb6 n IH E LB cs y1 c A k m HM.o (by rw [Zaw HK20.o]; exact HSy1.o) (HXy1.o.ev HV.o) HLC.o).mono ?_;rintro e y2 hp;obtain ⟨v, rfl, hrow⟩ := hp.o;rw [← HK.o] at hrow;obtain ⟨Ak, qk, rfl, -⟩ := id hrow;have HROW := zh (show Zz Zbe 6 Z7 (Iv y1.heap.size y2.heap.size) y2 K (.slice Ak K.length qk) from hrow.trim Zs)
 have HSy2 := zh (hp.st);have HTy2 := zh (show Tn (fun b => b = LB) y1 y2 from hp.tn);have HXy2 := zh (HXy1.o.keep HTy2.o);have HZy2 := zh HTy2.o.size;clear hp hrow;go_wp2_with fail;refine ⟨HXy2.o, ?_⟩;refine Zay [_, _] (by kernel_rfl) rfl rfl ?_;simp only [gA, gB, gC];go_wp2_with fail;refine (Zck LB c A k U Ak K.length qk y2).mono ?_;rintro e yz ⟨rfl, hb⟩;have HSyz := zh (HSy2.o.later hb);have HTyz := zh (show Tn (fun b => b = LB) y2 yz from Tn.later hb);have HXyz := zh (HXy2.o.keep HTyz.o);have HZyz := zh HTyz.o.size;clear hb;have e1 := HXyz.o.rb;have r0 := cz6 e1;have fr0 := fz e1;clear e1;go_wp2_with fail;have hzW := HZW.o;have h5 := HB.o.tn.size;have hzy1 := HZy1.o;have hzy2 := HZy2.o;have hlb := Za HB.o.bs.blk;have hc3 := CV.co (line := c.line) (op := U) HROW.o (by have := HUB.o; omega) (by have := HUB.o; omega) HC64.o;exact ⟨Zce.mk' rfl rfl, HB.o.fin (C := (cO U c.line K)) HXyz.o HSyz.o ((hc3).tn HTyz.o (by omega)) (by omega)⟩
theorem Zjs {a : Act} (n : Nat) (IH : ∀ m, n = m + 1 → Zd6 m) (E : Zaz) (LB cs : Nat) (c : Ze) (A : Option Addr) (k : Nat) (EB RB NB ZB : Nat) (m : Int) (K : List Zf) (w w5 : World) (HB : Hd (LxB E LB cs c A k EB RB NB ZB w w5)) (HS5 : Hd (LwI E LB cs w5)) (HV : Hd (EV n E.F w c A k)) (HLC : Hd (LoC E n c cs)) (HM : Hd (m = ((E.L.length + cs : Nat) : Int))) (HK : Hd (K = Zch E.u E.L n c m c.kids.length)) (HK20 : Hd (c.kind ≠ 20)) (HC64 : Hd (Zy c.line)) (kd : Int) (HKD : Hd (0 ≤ kd ∧ kd ≤ 1000)) (HF : Hd (Zpe LB EB RB NB ZB kd a)) :
  lwA26.wp Tryz.prog (Zc0 fun a' x => Zce RB a' ∧ LoR (LwI E LB) LB RB w (cK kd c.line K) (cs + csX c) x) a w5 := by
 obtain ⟨fr, rfl⟩ := HF.o.opn;clear HF
 conv => arg 2; whnf
 refine Zap [7, 8] [] (fun z => LxB E LB cs c A k EB RB NB ZB w z) (by kernel_rfl) (fun W hW => ?_);have hlW : Zb w5 W := by rw [hW]; exact (Zb.refl _).drew
 have HXW := zh (HB.o.later hlW);have HSW := zh (HS5.o.later hlW);have HZW := zh hlW.size;clear hlW hW;refine uV 0 99 HXW.o ?_;simp only [yN];refine uV 1 100 HXW.o (hy := fun x hx => by have hxe := hx.eb; have c0 := Z1 hxe; have fc0 := fz hxe; go_simp <;> with_reducible rfl) ?_;simp only [yN];refine uV 2 101 HXW.o ?_;simp only [yN];refine uV 3 102 HXW.o ?_;simp only [yN];refine uV 4 103 HXW.o ?_;simp only [yN];refine uV 5 104 HXW.o (hy := fun x hx => by have hxe := hx.eb; have c0 := Z1 hxe; have fc0 := fz hxe; go_simp <;> with_reducible rfl) ?_;simp only [yN];refine Zv 6 (by kernel_rfl) rfl rfl ?_;go_wp2_with fail;refine (Zb6 n IH E LB cs W c A k m HM.o (by rw [Zaw HK20.o]; exact HSW.o) (HXW.o.ev HV.o) HLC.o).mono ?_;rintro e y1 hp;obtain ⟨v, rfl, hrow⟩ := hp.o;rw [← HK.o] at hrow;obtain ⟨Ak, qk, rfl, -⟩ := id hrow;have HROW := zh (show Zz Zbe 6 Z7 (Iv W.heap.size y1.heap.size) y1 K (.slice Ak K.length qk) from hrow.trim Zs);have HSy1 := zh (hp.st);have HTy1 := zh (show Tn (fun b => b = LB) W y1 from hp.tn);have HXy1 := zh (HXW.o.keep HTy1.o);have HZy1 := zh HTy1.o.size;clear hp hrow;go_wp2_with fail;refine ⟨HXy1.o, ?_⟩;refine Zay [_, _] (by kernel_rfl) rfl rfl ?_;simp only [gA, gB, gC];go_wp2_with fail;refine (Zao LB c A k kd Ak K.length qk y1).mono ?_;rintro e yz ⟨rfl, hb⟩;have HSyz := zh (HSy1.o.later hb);have HTyz := zh (show Tn (fun b => b = LB) y1 yz from Tn.later hb);have HXyz := zh (HXy1.o.keep HTyz.o)
 have HZyz := zh HTyz.o.size;clear hb;have e1 := HXyz.o.rb;have r0 := cz6 e1;have fr0 := fz e1;clear e1;go_wp2_with fail;have hzW := HZW.o;have h5 := HB.o.tn.size;have hzy1 := HZy1.o;have hlb := Za HB.o.bs.blk;have hc2 := CV.ck (line := c.line) (k := kd) HROW.o (by have := HKD.o; omega) (by have := HKD.o; omega) HC64.o;exact ⟨Zce.mk' rfl rfl, HB.o.fin (C := (cK kd c.line K)) HXyz.o HSyz.o ((hc2).tn HTyz.o (by omega)) (by omega)⟩
theorem Zs9 {a : Act} (n : Nat) (IH : ∀ m, n = m + 1 → Zd6 m) (E : Zaz) (LB cs : Nat) (c : Ze) (A : Option Addr) (k : Nat) (EB RB NB ZB : Nat) (m : Int) (K : List Zf) (w w5 : World) (HB : Hd (LxB E LB cs c A k EB RB NB ZB w w5)) (HS5 : Hd (LwI E LB cs w5)) (HV : Hd (EV n E.F w c A k)) (HLC : Hd (LoC E n c cs)) (HM : Hd (m = ((E.L.length + cs : Nat) : Int))) (HK : Hd (K = Zch E.u E.L n c m c.kids.length)) (HK20 : Hd (c.kind ≠ 20)) (HC64 : Hd (Zy c.line)) (HLEN : Hd (c.kids.length ≤ 0)) (HK28 : Hd (c.kind = 4 ∨ c.kind = 28)) (HF : Hd (FrL LB EB RB NB ZB a)) :
  lwA44.wp Tryz.prog (Zc0 fun a' x => Zce RB a' ∧ LoR (LwI E LB) LB RB w (cO 81 c.line [nmC E.u E.L c.text c.line]) (cs + csX c) x) a w5 := by
 obtain ⟨C0, hC0⟩ : ∃ z, z = nmC E.u E.L c.text c.line := ⟨_, rfl⟩;rw [← hC0];have HC0 := zh hC0;clear hC0;obtain ⟨fr, rfl⟩ := HF.o.opn;clear HF
 conv => arg 2; whnf
 refine Zap [6, 7] [] (fun z => LxB E LB cs c A k EB RB NB ZB w z) (by kernel_rfl) (fun W hW => ?_);have hlW : Zb w5 W := by rw [hW]; exact (Zb.refl _).drew
 have HXW := zh (HB.o.later hlW);have HSW := zh (HS5.o.later hlW);have HZW := zh hlW.size;clear hlW hW;refine uV 0 191 HXW.o ?_;simp only [yN];refine uV 1 192 HXW.o (hy := fun x hx => by have hxe := hx.eb; have c0 := Z1 hxe; have fc0 := fz hxe; go_simp <;> with_reducible rfl) ?_;simp only [yN];refine uV 2 193 HXW.o ?_;simp only [yN];refine uV 3 194 HXW.o (hy := fun x hx => by have hxe := hx.eb; have c0 := Z1 hxe; have fc0 := fz hxe; go_simp <;> with_reducible rfl) ?_;simp only [yN];refine Zv 4 (by kernel_rfl) rfl rfl ?_;go_wp2_with fail;refine (Zmz n E LB cs W c A k HK28.o HSW.o (HXW.o.ev HV.o) HLC.o).mono ?_;rintro e y1 hp;obtain ⟨AC0, qC0, rfl, hcv⟩ := hp.core;rw [← HC0.o] at hcv;rw [← HC0.o];have HVC0 := zh hcv;have HSy1 := zh (hp.st);have HTy1 := zh (show Tn (fun b => b = LB) W y1 from hp.tn);have HXy1 := zh (HXW.o.keep HTy1.o);have HZy1 := zh HTy1.o.size;clear hp hcv;go_wp2_with fail;refine ⟨HXy1.o, ?_⟩;refine Zv 5 (by kernel_rfl) rfl rfl ?_;go_wp2_with fail;obtain ⟨y2, By2, hl, hn, h1, h2⟩ := al y1 (.cells #[.int .i64 C0.kind, .int .i64 C0.op, .int .i64 C0.aB, .int .i64 C0.line, .string C0.text, .slice AC0 C0.kids.length qC0] Z7);rw [h1, h2];have HNy2 := zh hn;have HEy2 := zh h2;have HMy2 := zh (Za hn);have HSy2 := zh (HSy1.o.later hl);have HTy2 := zh (show Tn (fun b => b = LB) y1 y2 from Tn.later hl);have HXy2 := zh (HXy1.o.keep HTy2.o);have HZy2 := zh HTy2.o.size;clear hl hn h1 h2;refine ⟨HXy2.o, ?_⟩
 refine Zay [_, _] (by kernel_rfl) rfl rfl ?_;simp only [gA, gB, gC];go_wp2_with fail;refine (Zck LB c A k 81 (some ⟨By2, 0, none⟩) 1 1 y2).mono ?_;rintro e yz ⟨rfl, hb⟩;have HSyz := zh ((show LwI E LB (cs + csX c) y2 by have h := HLC.o.all (j := 0) HLEN.o; simp only [List.take_zero, Za3, Zaw HK20.o, Nat.add_zero] at h; exact h ▸ HSy2.o).later hb);have HTyz := zh (show Tn (fun b => b = LB) y2 yz from Tn.later hb);have HXyz := zh (HXy2.o.keep HTyz.o);have HZyz := zh HTyz.o.size;clear hb;have e1 := HXyz.o.rb;have r0 := cz6 e1;have fr0 := fz e1;clear e1;go_wp2_with fail;have hzW := HZW.o;have h5 := HB.o.tn.size;have hzy1 := HZy1.o;have hzy2 := HZy2.o;have hey2 := HEy2.o;have hmy2 := HMy2.o;have hlb := Za HB.o.bs.blk;have hry2 := Zq2 (B := By2) HNy2.o ((HVC0.o).tn HTy2.o (by omega)) (by omega) (by omega);have hc3 := CV.co (line := c.line) (op := 81) hry2 (by decide) (by decide) HC64.o;exact ⟨Zce.mk' rfl rfl, HB.o.fin (C := (cO 81 c.line [C0])) HXyz.o HSyz.o ((hc3).tn HTyz.o (by omega)) (by omega)⟩
theorem Zta {a : Act} (n : Nat) (IH : ∀ m, n = m + 1 → Zd6 m) (E : Zaz) (LB cs : Nat) (c : Ze) (A : Option Addr) (k : Nat) (EB RB NB ZB : Nat) (m : Int) (K : List Zf) (w w5 : World) (HB : Hd (LxB E LB cs c A k EB RB NB ZB w w5)) (HS5 : Hd (LwI E LB cs w5)) (HV : Hd (EV n E.F w c A k)) (HLC : Hd (LoC E n c cs)) (HM : Hd (m = ((E.L.length + cs : Nat) : Int))) (HK : Hd (K = Zch E.u E.L n c m c.kids.length)) (HK20 : Hd (c.kind ≠ 20)) (HC64 : Hd (Zy c.line)) (HLEN : Hd (c.kids.length ≤ 1)) (HPOS : Hd (0 < c.kids.length)) (HF : Hd (FrL LB EB RB NB ZB a)) :
  lwA40.wp Tryz.prog (Zc0 fun a' x => Zce RB a' ∧ LoR (LwI E LB) LB RB w (cO 79 c.line [kdC K c.line 0, tC 2 c.line c.text]) (cs + csX c) x) a w5 := by
 have hlt := HPOS.o;obtain ⟨n', rfl⟩ := HV.o.lev hlt;obtain ⟨kb, ko, Bk, q, eA, hca⟩ := HV.o.kid hlt;cases eA;simp only [Nat.zero_mul, Nat.add_zero] at hca;have hlt' : (0 : Int) < (c.kids.length : Int) := by omega
 have HLX := zh (HLC.o.kid hlt);have HSN := zh (Zcy c.kids 0 hlt);have HTX := zh HV.o.tx;obtain ⟨xk, hx_⟩ : ∃ z, z = c.kids[0]'hlt := ⟨_, rfl⟩;rw [← hx_] at hca HLX HSN;have HCA := zh hca;obtain ⟨C0, hC0⟩ : ∃ z, z = kdC K c.line 0 := ⟨_, rfl⟩;rw [← hC0];have HC0 := zh (show low E.u E.L (n' + 1) xk ((E.L.length + (cs + Zbu c.kind + Za3 (c.kids.take 0)) : Nat) : Int) = C0 by
  rw [hC0, HK.o, Zgi (show 0 < (Zch E.u E.L (n' + 1) c m c.kids.length).length by rw [Zdj]; exact hlt)];simp only [Zch, List.getElem_map, List.getElem_range, Zcr hlt, ← hx_]
  congr 1
  unfold Zji;rw [HM.o]
  push_cast
  omega)
 clear hca hC0 hx_;obtain ⟨fr, rfl⟩ := HF.o.opn;clear HF
 conv => arg 2; whnf
 refine Zap [14, 15] [] (fun z => LxB E LB cs c (some ⟨kb, ko, none⟩) k EB RB NB ZB w z) (by kernel_rfl) (fun W hW => ?_);have hlW : Zb w5 W := by rw [hW]; exact (Zb.refl _).drew
 have HXW := zh (HB.o.later hlW);have HSW := zh (HS5.o.later hlW);have HZW := zh hlW.size;clear hlW hW;refine uV 0 165 HXW.o ?_;simp only [yN];refine uV 1 166 HXW.o (hy := fun x hx => by have hxe := hx.eb; obtain ⟨c0, c1, c2, c3, c4⟩ := Z1 hxe; have fc0 := fz hxe; have d0 := ((hx.tn.keeps hx.bs.nF).cell HCA.o.own HCA.o.lt).trans HCA.o.c0; have d1 := ((hx.tn.keeps hx.bs.nF).cell HCA.o.own HCA.o.lt).trans HCA.o.c1; have d2 := ((hx.tn.keeps hx.bs.nF).cell HCA.o.own HCA.o.lt).trans HCA.o.c2; have d3 := ((hx.tn.keeps hx.bs.nF).cell HCA.o.own HCA.o.lt).trans HCA.o.c3; have d4 := ((hx.tn.keeps hx.bs.nF).cell HCA.o.own HCA.o.lt).trans HCA.o.c4; go_simp <;> with_reducible rfl) ?_;simp only [yN];refine uV 2 167 HXW.o ?_;simp only [yN];refine uV 3 168 HXW.o ?_;simp only [yN];refine uV 4 169 HXW.o (hy := fun x hx => by have hxe := hx.eb; obtain ⟨c0, c1, c2, c3, c4⟩ := Z1 hxe; have fc0 := fz hxe; have d0 := ((hx.tn.keeps hx.bs.nF).cell HCA.o.own HCA.o.lt).trans HCA.o.c0; have d1 := ((hx.tn.keeps hx.bs.nF).cell HCA.o.own HCA.o.lt).trans HCA.o.c1; have d2 := ((hx.tn.keeps hx.bs.nF).cell HCA.o.own HCA.o.lt).trans HCA.o.c2; have d3 := ((hx.tn.keeps hx.bs.nF).cell HCA.o.own HCA.o.lt).trans HCA.o.c3; have d4 := ((hx.tn.keeps hx.bs.nF).cell HCA.o.own HCA.o.lt).trans HCA.o.c4; go_simp <;> with_reducible rfl) ?_;simp only [yN];refine uV 5 170 HXW.o ?_;simp only [yN];refine uV 6 171 HXW.o (hy := fun x hx => by have hxe := hx.eb; obtain ⟨c0, c1, c2, c3, c4⟩ := Z1 hxe; have fc0 := fz hxe; have d0 := ((hx.tn.keeps hx.bs.nF).cell HCA.o.own HCA.o.lt).trans HCA.o.c0; have d1 := ((hx.tn.keeps hx.bs.nF).cell HCA.o.own HCA.o.lt).trans HCA.o.c1; have d2 := ((hx.tn.keeps hx.bs.nF).cell HCA.o.own HCA.o.lt).trans HCA.o.c2; have d3 := ((hx.tn.keeps hx.bs.nF).cell HCA.o.own HCA.o.lt).trans HCA.o.c3; have d4 := ((hx.tn.keeps hx.bs.nF).cell HCA.o.own HCA.o.lt).trans HCA.o.c4; go_simp <;> with_reducible rfl) ?_
 simp only [yN];refine uV 8 173 HXW.o ?_;simp only [yN];refine uV 9 174 HXW.o (hy := fun x hx => by have hxe := hx.eb; obtain ⟨c0, c1, c2, c3, c4⟩ := Z1 hxe; have fc0 := fz hxe; have d0 := ((hx.tn.keeps hx.bs.nF).cell HCA.o.own HCA.o.lt).trans HCA.o.c0; have d1 := ((hx.tn.keeps hx.bs.nF).cell HCA.o.own HCA.o.lt).trans HCA.o.c1; have d2 := ((hx.tn.keeps hx.bs.nF).cell HCA.o.own HCA.o.lt).trans HCA.o.c2; have d3 := ((hx.tn.keeps hx.bs.nF).cell HCA.o.own HCA.o.lt).trans HCA.o.c3; have d4 := ((hx.tn.keeps hx.bs.nF).cell HCA.o.own HCA.o.lt).trans HCA.o.c4; go_simp <;> with_reducible rfl) ?_;simp only [yN];refine uV 10 175 HXW.o ?_;simp only [yN];refine uV 11 176 HXW.o (hy := fun x hx => by have hxe := hx.eb; obtain ⟨c0, c1, c2, c3, c4⟩ := Z1 hxe; have fc0 := fz hxe; have d0 := ((hx.tn.keeps hx.bs.nF).cell HCA.o.own HCA.o.lt).trans HCA.o.c0; have d1 := ((hx.tn.keeps hx.bs.nF).cell HCA.o.own HCA.o.lt).trans HCA.o.c1; have d2 := ((hx.tn.keeps hx.bs.nF).cell HCA.o.own HCA.o.lt).trans HCA.o.c2; have d3 := ((hx.tn.keeps hx.bs.nF).cell HCA.o.own HCA.o.lt).trans HCA.o.c3; have d4 := ((hx.tn.keeps hx.bs.nF).cell HCA.o.own HCA.o.lt).trans HCA.o.c4; go_simp <;> with_reducible rfl) ?_;simp only [yN];refine uV 12 177 HXW.o ?_;simp only [yN];refine Zv 7 (by kernel_rfl) rfl rfl ?_;go_wp2_with fail;refine (IH n' rfl E LB (cs + Zbu c.kind + Za3 (c.kids.take 0)) W xk Bk q (by simpa [Za3, Zaw HK20.o] using HSW.o) (HCA.o.ev.keep (fun _ h => h) (HXW.o.tn.keeps HXW.o.bs.nF)) HLX.o).mono ?_
 rintro e y1 hp;obtain ⟨AC0, qC0, rfl, hcv⟩ := hp.core;rw [HC0.o] at hcv;rw [HC0.o];have HVC0 := zh hcv;have HSy1 := zh (show LwI E LB (cs + Zbu c.kind + Za3 (c.kids.take (0 + 1))) y1 by rw [HSN.o, ← Nat.add_assoc]; exact hp.st);have HTy1 := zh (show Tn (fun b => b = LB) W y1 from hp.tn);have HXy1 := zh (HXW.o.keep HTy1.o);have HZy1 := zh HTy1.o.size;clear hp hcv;go_wp2_with fail;refine ⟨HXy1.o, ?_⟩;refine Zv 13 (by kernel_rfl) rfl rfl ?_;go_wp2_with fail;obtain ⟨y2, By2, hl, hn, h1, h2⟩ := al y1 (.cells #[.int .i64 C0.kind, .int .i64 C0.op, .int .i64 C0.aB, .int .i64 C0.line, .string C0.text, .slice AC0 C0.kids.length qC0, .int .i64 2, .int .i64 0, .int .i64 0, .int .i64 c.line, .string c.text, .slice none 0 0] Z7);rw [h1, h2];have HNy2 := zh hn;have HEy2 := zh h2;have HMy2 := zh (Za hn);have HSy2 := zh (HSy1.o.later hl);have HTy2 := zh (show Tn (fun b => b = LB) y1 y2 from Tn.later hl);have HXy2 := zh (HXy1.o.keep HTy2.o);have HZy2 := zh HTy2.o.size;clear hl hn h1 h2;refine ⟨HXy2.o, ?_⟩;refine Zay [_, _] (by kernel_rfl) rfl rfl ?_;simp only [gA, gB, gC];go_wp2_with fail;refine (Zck LB c (some ⟨kb, ko, none⟩) k 79 (some ⟨By2, 0, none⟩) 2 2 y2).mono ?_;rintro e yz ⟨rfl, hb⟩;have HSyz := zh ((HLC.o.all HLEN.o ▸ HSy2.o).later hb);have HTyz := zh (show Tn (fun b => b = LB) y2 yz from Tn.later hb);have HXyz := zh (HXy2.o.keep HTyz.o);have HZyz := zh HTyz.o.size;clear hb;have e1 := HXyz.o.rb;have r0 := cz6 e1;have fr0 := fz e1
 clear e1;go_wp2_with fail;have hzW := HZW.o;have h5 := HB.o.tn.size;have hzy1 := HZy1.o;have hzy2 := HZy2.o;have hey2 := HEy2.o;have hmy2 := HMy2.o;have hlb := Za HB.o.bs.blk;have hry2 := Zm0 (B := By2) HNy2.o ((HVC0.o).tn HTy2.o (by omega)) (CV.ct (Iv (y1.heap.size) (y1.heap.size)) _ (by decide) (by decide) HC64.o HTX.o) (by omega);have hc3 := CV.co (line := c.line) (op := 79) hry2 (by decide) (by decide) HC64.o;exact ⟨Zce.mk' rfl rfl, HB.o.fin (C := (cO 79 c.line [C0, (tC 2 c.line c.text)])) HXyz.o HSyz.o ((hc3).tn HTyz.o (by omega)) (by omega)⟩
section
open Go.RowKit Go.Maps
section
variable {u : Zt} {L : List ByteArray} {c : Ze} {m : Int} {k : List Zf}
theorem Zu3 (h : c.kind = 1) : Zbd u L c m k = cM 1 c.aB c.line := by unfold Zbd; rw [h]; rfl
theorem Zu4 (h : c.kind = 2) : Zbd u L c m k = tC 2 c.line c.text := by unfold Zbd; rw [h]; rfl
theorem Zu5 (h : c.kind = 3) : Zbd u L c m k = tC 3 c.line c.text := by unfold Zbd; rw [h]; rfl
theorem Zu6 (h : c.kind = 4) : Zbd u L c m k = nmC u L c.text c.line := by unfold Zbd; rw [h]; rfl
theorem Zu7 (h : c.kind = 5) : Zbd u L c m k = kwC c.text c.line := by unfold Zbd; rw [h]; rfl
theorem Zu8 (h : c.kind = 6) : Zbd u L c m k = cO 74 c.line k := by unfold Zbd; rw [h]; rfl
theorem Zu9 (h : c.kind = 7) : Zbd u L c m k = (if bl c.text = [124] then cK 14 c.line k else if bl c.text = [64] then cK 27 c.line k else cO (unN c.text) c.line k) := by unfold Zbd; rw [h]; rfl
theorem Zva (h : c.kind = 8) : Zbd u L c m k = (if bl c.text = [63] then cK 22 c.line k else if bl c.text = [124] then cK 13 c.line k else if bl c.text = [92] then cK 15 c.line k else cO (bnN c.text) c.line k) := by unfold Zbd; rw [h]; rfl
theorem Zvb (h : c.kind = 9) : Zbd u L c m k = cO 72 c.line (if k.length = 2 then k ++ [cM 1 1 c.line] else k) := by unfold Zbd; rw [h]; rfl
theorem Zq3 (h : c.kind = 10) : Zbd u L c m k = cK 12 c.line k := by unfold Zbd; rw [h]; rfl
theorem Zq4 (h : c.kind = 11) : Zbd u L c m k = cO 70 c.line k := by unfold Zbd; rw [h]; rfl
theorem Zq5 (h : c.kind = 12) : Zbd u L c m k = cO 71 c.line k := by unfold Zbd; rw [h]; rfl
theorem Zq6 (h : c.kind = 13) : Zbd u L c m k = cO 79 c.line [kdC k c.line 0, tC 2 c.line c.text] := by unfold Zbd; rw [h]; rfl
theorem Znq (h : c.kind = 14) : Zbd u L c m k = (if k.length = 0 then cN 4 c.line else cK 16 c.line k) := by unfold Zbd; rw [h]; rfl
theorem Zq7 (h : c.kind = 15) : Zbd u L c m k = cK 17 c.line (if k.length = 2 then k ++ [cN 28 c.line] else k) := by unfold Zbd; rw [h]; rfl
theorem Zq8 (h : c.kind = 16) : Zbd u L c m k = cK 18 c.line [kdC k c.line 0, kdC k c.line 1] := by unfold Zbd; rw [h]; rfl
theorem Zq9 (h : c.kind = 17) : Zbd u L c m k = cK 18 c.line [cK 17 c.line [kdC k c.line 0, cN 28 c.line, cN 4 c.line], kdC k c.line 1] := by unfold Zbd; rw [h]; rfl
theorem Zra (h : c.kind = 18) : Zbd u L c m k = cK 19 c.line [kdC k c.line 0, kdC k c.line 1] := by unfold Zbd; rw [h]; rfl
theorem Zrb (h : c.kind = 19) : Zbd u L c m k = cK 18 c.line [cN 4 c.line, kdC k c.line 0] := by unfold Zbd; rw [h]; rfl
theorem Zrc (h : c.kind = 20) : Zbd u L c m k = chC c m k := by unfold Zbd; rw [h]; rfl
theorem Zrd (h : c.kind = 21) : Zbd u L c m k = cK 23 c.line [kdC k c.line 0] := by unfold Zbd; rw [h]; rfl
theorem Zre (h : c.kind = 22) : Zbd u L c m k = cK 25 c.line [kdC k c.line 0, kdC k c.line 1] := by unfold Zbd; rw [h]; rfl
theorem Zrf (h : c.kind = 23) : Zbd u L c m k = cN 24 c.line := by unfold Zbd; rw [h]; rfl
theorem Zrg (h : c.kind = 24) : Zbd u L c m k = cK 20 c.line [kdC k c.line 0] := by unfold Zbd; rw [h]; rfl
theorem Zrh (h : c.kind = 25) : Zbd u L c m k = cN 21 c.line := by unfold Zbd; rw [h]; rfl
theorem Zri (h : c.kind = 26) : Zbd u L c m k = cK 26 c.line [kdC k c.line 0] := by unfold Zbd; rw [h]; rfl
theorem Zrj (h : c.kind = 27) : Zbd u L c m k = cK 17 c.line [kdC k c.line 0, cN 28 c.line, cN 4 c.line] := by unfold Zbd; rw [h]; rfl
theorem Zrk (h : c.kind = 28) : Zbd u L c m k = cO 81 c.line [nmC u L c.text c.line] := by unfold Zbd; rw [h]; rfl
theorem Zrl (h : c.kind = 29) : Zbd u L c m k = cO 73 c.line k := by unfold Zbd; rw [h]; rfl
end
theorem Zfp {c : Ze} (h : xHd c = true) : 1 ≤ c.kind ∧ c.kind ≤ 29 ∧ xLo c.kind ≤ (c.kids.length : Int) ∧ (c.kids.length : Int) ≤ xHi c.kind ∧ xW c.kind c.text = true := by
 simp only [xHd, Bool.and_eq_true, nJ] at h;exact ⟨h.1, h.2.1, h.2.2.2.1, h.2.2.2.2.1, h.2.2.2.2.2.1⟩
theorem LoC.hi {E : Zaz} {n cs : Nat} {c : Ze} (h : LoC E n c cs) {j : Int} {i : Nat} (hk : c.kind = j) (hj : xHi j ≤ (i : Int)) : c.kids.length ≤ i := by
 have := (Zfp h.hd).2.2.2.1;rw [hk] at this
 omega
theorem LoC.lo {E : Zaz} {n cs : Nat} {c : Ze} (h : LoC E n c cs) {j : Int} {i : Nat} (hk : c.kind = j) (hj : (i : Int) ≤ xLo j) : i ≤ c.kids.length := by
 have := (Zfp h.hd).2.2.1;rw [hk] at this
 omega
def Zx7 : DataW Unit := (((DataW.map []).put (.string [63]) (.lit (.int .i64 22))).put (.string [124]) (.lit (.int .i64 13))).put (.string [92]) (.lit (.int .i64 15))
theorem Zwq : Zx7 = .map [(.string [63], .lit (.int .i64 22)), (.string [92], .lit (.int .i64 15)), (.string [124], .lit (.int .i64 13))] := rfl
theorem Zwr {l : List UInt8} {c : Int} (h : Zx7.atKey (.string l) (.lit (.int .i64 0)) = .lit (.int .i64 c)) : c = if l = [63] then 22 else if l = [124] then 13 else if l = [92] then 15 else 0 := by
 rw [Zwq] at h
 by_cases h1 : l = [63]
 ·subst h1;have h2 : (.lit (.int .i64 22) : DataW Unit) = .lit (.int .i64 c) := h
  cases h2
  rfl
 by_cases h2 : l = [124]
 ·subst h2;have h2 : (.lit (.int .i64 13) : DataW Unit) = .lit (.int .i64 c) := h
  cases h2
  rfl
 by_cases h3 : l = [92]
 ·subst h3;have h2 : (.lit (.int .i64 15) : DataW Unit) = .lit (.int .i64 c) := h
  cases h2
  rfl
 rw [if_neg h1, if_neg h2, if_neg h3];have e1 : (([63] : List UInt8) == l) = false := by simp; exact fun e => h1 e.symm
 have e2 : (([124] : List UInt8) == l) = false := by simp; exact fun e => h2 e.symm
 have e3 : (([92] : List UInt8) == l) = false := by simp; exact fun e => h3 e.symm
 simp only [DataW.atKey, List.find?, Lit.sameKey, e1, e2, e3] at h
 cases h
 rfl
end
section
open Go.RowKit Go.Maps
theorem Zls (n : Nat) (IH : ∀ m, n = m + 1 → Zd6 m) : Zd6 n := by
 intro E LB cs w c A k hw hv hc;have HLC := zh hc;have HC64 := zh hv.n2;have HN64 := zh hv.n1;have HTX := zh hv.tx;obtain ⟨m, hm⟩ : ∃ z, z = ((E.L.length + cs : Nat) : Int) := ⟨_, rfl⟩;rw [Zp7, ← hm];have HM := zh hm;obtain ⟨K, hK⟩ : ∃ z, z = Zch E.u E.L n c m c.kids.length := ⟨_, rfl⟩;rw [← hK];have HK := zh hK;have HKL := zh (show K.length = c.kids.length by rw [hK]; exact Zdj _ _ _ _ _ _);obtain ⟨C, hC⟩ : ∃ z, z = Zbd E.u E.L c m K := ⟨_, rfl⟩;rw [← hC];have HC := zh hC;clear hm hK hC hc;have hks1 := hv.len;have HV := zh hv;have HW := zh hw;obtain ⟨wa, hla, heb, hwa⟩ := aN w (.cells #[.int .i64 c.kind, .string c.text, .int .i64 c.aB, .int .i64 c.line, .slice A c.kids.length k] 104);have hlb : Zb wa (wa.alloc (.cells #[.int .i64 0, .int .i64 0, .int .i64 0, .int .i64 0, .string ⟨#[]⟩, .slice none 0 0] Z7)) := (Zb.refl _).alloc _;have hrb := heap_alloc_new wa (.cells #[.int .i64 0, .int .i64 0, .int .i64 0, .int .i64 0, .string ⟨#[]⟩, .slice none 0 0] Z7);have heb2 := (hlb.block _ (Za heb)).trans heb;obtain ⟨wb, hwb⟩ : ∃ z, wa.alloc (.cells #[.int .i64 0, .int .i64 0, .int .i64 0, .int .i64 0, .string ⟨#[]⟩, .slice none 0 0] Z7) = z := ⟨_, rfl⟩;rw [hwb] at hlb hrb heb2;have HLb := zh (Zb.trans hla hlb);have hsz : w.heap.size ≤ wa.heap.size := hla.size;have hne : w.heap.size ≠ wa.heap.size := fun e => by have := Za heb; omega
 obtain ⟨EB, hEB⟩ : ∃ z, w.heap.size = z := ⟨_, rfl⟩;obtain ⟨RB, hRB⟩ : ∃ z, wa.heap.size = z := ⟨_, rfl⟩;have HGE := zh (show w.heap.size ≤ EB ∧ w.heap.size ≤ RB ∧ EB ≠ RB from ⟨by omega, by omega, by omega⟩);rw [hEB] at heb2;rw [hRB] at hrb;have HEB := zh heb2;have HRB := zh hrb;have HSTART := zh (⟨hwa, hwb, hEB, hRB⟩ : _ ∧ _ ∧ _ ∧ _);clear hla hlb heb hrb heb2 hv hw hsz hne hwa hwb hEB hRB;obtain ⟨c0, c1, c2, c3, c4⟩ := Z1 HEB.o;have fc0 := fz HEB.o;go_enter Tryz.func59, Tryz.ntmps59;obtain ⟨hwa, hwb, hEB, hRB⟩ := HSTART.o;go_upto_region 1 with (fail);clear hwa hwb hEB hRB;go_wp2_with fail;refine (Zao LB c A k 28 none 0 0 wb).mono ?_;rintro e w2 ⟨rfl, hb⟩;have HL2 := zh (show Zb wb w2 from hb);clear hb c0 fc0 c1 c2 c3 c4;go_upto_region 2 with (fail);obtain ⟨w3, NB, hl, hn, h1, h2⟩ := al w2 (.cells #[.int .i64 28, .int .i64 0, .int .i64 0, .int .i64 c.line, .string ⟨#[]⟩, .slice none 0 0] Z7);rw [h1, h2];have HNB3 := zh hn;have HNE := zh h2;have HL3 := zh (HL2.o.trans hl);have HEB3 := zB HL3 HEB;clear hl hn h1 h2;obtain ⟨c0, c1, c2, c3, c4⟩ := Z1 HEB3.o;have fc0 := fz HEB3.o;go_wp2_with fail;refine (Zao LB c A k 4 none 0 0 w3).mono ?_;rintro e w4 ⟨rfl, hb⟩;have HL4 := zh (show Zb w3 w4 from hb);clear hb c0 fc0 c1 c2 c3 c4;go_upto_region 3 with (fail);obtain ⟨w5, ZB, hl, hn, h1, h2⟩ := al w4 (.cells #[.int .i64 4, .int .i64 0, .int .i64 0, .int .i64 c.line, .string ⟨#[]⟩, .slice none 0 0] Z7);rw [h1, h2];have HL5 := zh (HL4.o.trans hl);have HZE := zh h2
 have HLA := zh (HLb.o.trans (HL3.o.trans HL5.o));have HB := zh (show LxB E LB cs c A k EB RB NB ZB w w5 from ⟨(HL5.o.block _ (Za HEB3.o)).trans HEB3.o, ((HL3.o.trans HL5.o).block _ (Za HRB.o)).trans HRB.o, (HL5.o.block _ (Za HNB3.o)).trans HNB3.o, hn, Tn.later HLA.o, HW.o, ⟨HGE.o.1, HGE.o.2.1, by have := HNE.o; have := HL2.o.size; have := HLb.o.size; omega, by have := HZE.o; have := HL4.o.size; have := HL3.o.size; have := HLb.o.size; omega⟩⟩);have HS5 := zh (HW.o.later HLA.o);clear hl hn h1 h2;obtain ⟨c0, c1, c2, c3, c4⟩ := Z1 HB.o.eb;have fc0 := fz HB.o.eb;go_upto_region 4 with (fail);clear c0 fc0 c1 c2 c3 c4
 by_cases h : c.kind = 1
 ·have tk : (c.kind == 1) = true := beq_iff_eq.2 h;have HK20 := zh (show c.kind ≠ 20 by rw [h]; decide);have HH := zh h;clear h;have hcc := (Zu3 (u := E.u) (L := E.L) (m := m) (k := K) HH.o).symm;rw [← HC.o] at hcc;go_upto_region 5 with (fail);clear tk;have e1 := HB.o.eb;obtain ⟨c0, c1, c2, c3, c4⟩ := Z1 e1;have fc0 := fz e1;clear e1;have e1 := HB.o.rb;have r0 := cz6 e1;have fr0 := fz e1;clear e1;go_wp2_with fail;exact LoR.post Tryz.results59 (by rfl) (hcc ▸ HB.o.fin HB.o (show LwI E LB (cs + csX c) w5 by have h1 := HLC.o.all (j := 0) (HLC.o.hi HH.o (by decide)); simp only [List.take_zero, Za3, Zaw HK20.o, Nat.add_zero] at h1; exact h1 ▸ HS5.o) (CV.cm (k := 1) (Iv w5.heap.size w5.heap.size) w5 (by decide) (by decide) HN64.o HC64.o) (Nat.le_refl _)) HGE.o.2.1
 have tk : (c.kind == 1) = false := by simpa using h
 have HN1 := zh h;clear h;go_upto_region 6 with (fail);clear tk
 by_cases h : c.kind = 2
 ·have tk : (c.kind == 2) = true := beq_iff_eq.2 h;have HK20 := zh (show c.kind ≠ 20 by rw [h]; decide);have HH := zh h;clear h;have hcc := (Zu4 (u := E.u) (L := E.L) (m := m) (k := K) HH.o).symm;rw [← HC.o] at hcc;go_upto_region 7 with (fail);clear tk;have e1 := HB.o.eb;obtain ⟨c0, c1, c2, c3, c4⟩ := Z1 e1;have fc0 := fz e1;clear e1;have e1 := HB.o.rb;have r0 := cz6 e1;have fr0 := fz e1;clear e1;go_wp2_with fail;exact LoR.post Tryz.results59 (by rfl) (hcc ▸ HB.o.fin HB.o (show LwI E LB (cs + csX c) w5 by have h1 := HLC.o.all (j := 0) (HLC.o.hi HH.o (by decide)); simp only [List.take_zero, Za3, Zaw HK20.o, Nat.add_zero] at h1; exact h1 ▸ HS5.o) (CV.ct (k := 2) (Iv w5.heap.size w5.heap.size) w5 (by decide) (by decide) HC64.o HTX.o) (Nat.le_refl _)) HGE.o.2.1
 have tk : (c.kind == 2) = false := by simpa using h
 have HN2 := zh h;clear h;go_upto_region 8 with (fail);clear tk
 by_cases h : c.kind = 3
 ·have tk : (c.kind == 3) = true := beq_iff_eq.2 h;have HK20 := zh (show c.kind ≠ 20 by rw [h]; decide);have HH := zh h;clear h;have hcc := (Zu5 (u := E.u) (L := E.L) (m := m) (k := K) HH.o).symm;rw [← HC.o] at hcc;go_upto_region 9 with (fail);clear tk;have e1 := HB.o.eb;obtain ⟨c0, c1, c2, c3, c4⟩ := Z1 e1;have fc0 := fz e1;clear e1;have e1 := HB.o.rb;have r0 := cz6 e1;have fr0 := fz e1;clear e1;go_wp2_with fail;exact LoR.post Tryz.results59 (by rfl) (hcc ▸ HB.o.fin HB.o (show LwI E LB (cs + csX c) w5 by have h1 := HLC.o.all (j := 0) (HLC.o.hi HH.o (by decide)); simp only [List.take_zero, Za3, Zaw HK20.o, Nat.add_zero] at h1; exact h1 ▸ HS5.o) (CV.ct (k := 3) (Iv w5.heap.size w5.heap.size) w5 (by decide) (by decide) HC64.o HTX.o) (Nat.le_refl _)) HGE.o.2.1
 have tk : (c.kind == 3) = false := by simpa using h
 have HN3 := zh h;clear h;go_upto_region 10 with (fail);clear tk
 by_cases h : c.kind = 4
 ·have tk : (c.kind == 4) = true := beq_iff_eq.2 h;have HK20 := zh (show c.kind ≠ 20 by rw [h]; decide);have HH := zh h;clear h;have hcc := (Zu6 (u := E.u) (L := E.L) (m := m) (k := K) HH.o).symm;rw [← HC.o] at hcc;go_upto_region 11 with (fail);clear tk;have e1 := HB.o.eb;obtain ⟨c0, c1, c2, c3, c4⟩ := Z1 e1;have fc0 := fz e1;clear e1;go_wp2_with fail;refine (Zmz n E LB cs w5 c A k (.inl HH.o) HS5.o (HB.o.ev HV.o) HLC.o).mono ?_;rintro e w6 hp;rw [hcc] at hp;obtain ⟨A6, q6, rfl, hcv⟩ := hp.core;have HS6 := zh hp.st;have HX6 := zh (HB.o.keep hp.tn);have HCV := zh hcv;clear hp hcv c0 fc0 c1 c2 c3 c4;have e1 := HX6.o.rb;have r0 := cz6 e1;have fr0 := fz e1;clear e1;go_wp2_with fail;exact LoR.post Tryz.results59 (by rfl) (HB.o.fin (C := C) HX6.o (show LwI E LB (cs + csX c) w6 by have h1 := HLC.o.all (j := 0) (HLC.o.hi HH.o (by decide)); simp only [List.take_zero, Za3, Zaw HK20.o, Nat.add_zero] at h1; exact h1 ▸ HS6.o) HCV.o (Nat.le_refl _)) HGE.o.2.1
 have tk : (c.kind == 4) = false := by simpa using h
 have HN4 := zh h;clear h;go_upto_region 12 with (fail);clear tk
 by_cases h : c.kind = 5
 ·have tk : (c.kind == 5) = true := beq_iff_eq.2 h;have HK20 := zh (show c.kind ≠ 20 by rw [h]; decide);have HH := zh h;clear h;have hcc := (Zu7 (u := E.u) (L := E.L) (m := m) (k := K) HH.o).symm;rw [← HC.o] at hcc;go_upto_region 13 with (fail);clear tk;have e1 := HB.o.eb;obtain ⟨c0, c1, c2, c3, c4⟩ := Z1 e1;have fc0 := fz e1;clear e1;go_wp2_with fail;refine (Znp n E LB cs w5 c A k HS5.o (HB.o.ev HV.o)).mono ?_;rintro e w6 hp;rw [hcc] at hp;obtain ⟨A6, q6, rfl, hcv⟩ := hp.core;have HS6 := zh hp.st;have HX6 := zh (HB.o.keep hp.tn);have HCV := zh hcv;clear hp hcv c0 fc0 c1 c2 c3 c4;have e1 := HX6.o.rb;have r0 := cz6 e1;have fr0 := fz e1;clear e1;go_wp2_with fail;exact LoR.post Tryz.results59 (by rfl) (HB.o.fin (C := C) HX6.o (show LwI E LB (cs + csX c) w6 by have h1 := HLC.o.all (j := 0) (HLC.o.hi HH.o (by decide)); simp only [List.take_zero, Za3, Zaw HK20.o, Nat.add_zero] at h1; exact h1 ▸ HS6.o) HCV.o (Nat.le_refl _)) HGE.o.2.1
 have tk : (c.kind == 5) = false := by simpa using h
 have HN5 := zh h;clear h;go_upto_region 14 with (fail);clear tk
 by_cases h : c.kind = 6
 ·have tk : (c.kind == 6) = true := beq_iff_eq.2 h;have HK20 := zh (show c.kind ≠ 20 by rw [h]; decide);have HH := zh h;clear h;have hcc := (Zu8 (u := E.u) (L := E.L) (m := m) (k := K) HH.o).symm;rw [← HC.o] at hcc;go_upto_region 15 with (fail);clear tk;refine @Z8 _ lwA15 ?R15 _ _ _ _ ?h15 ?k15
  case h15 =>
   refine Zsq n IH E LB cs c A k EB RB NB ZB m K w w5 HB HS5 HV HLC HM HK HK20 HC64 (zh ?hf15)
   case hf15 => exact FrL.mk' rfl rfl rfl rfl rfl rfl
  case k15 =>
  rintro a' x ⟨hf, hr⟩;obtain ⟨fr, rfl⟩ := hf.opn;rw [hcc] at hr;go_wp2_with fail;exact LoR.post Tryz.results59 (by rfl) hr HGE.o.2.1
 have tk : (c.kind == 6) = false := by simpa using h
 have HN6 := zh h;clear h;go_upto_region 16 with (fail);clear tk
 by_cases h : c.kind = 7
 ·have tk : (c.kind == 7) = true := beq_iff_eq.2 h;have HK20 := zh (show c.kind ≠ 20 by rw [h]; decide);have HH := zh h;clear h;have hcc := (Zu9 (u := E.u) (L := E.L) (m := m) (k := K) HH.o).symm;rw [← HC.o] at hcc;go_upto_region 17 with (fail);clear tk;have e1 := HB.o.eb;obtain ⟨c0, c1, c2, c3, c4⟩ := Z1 e1;have fc0 := fz e1;clear e1;obtain ⟨b1, e1⟩ : ∃ t : Bool, (c.text.toList == [124]) = t := ⟨_, rfl⟩;obtain ⟨b2, e2⟩ : ∃ t : Bool, (c.text.toList == [64]) = t := ⟨_, rfl⟩;have HB1 := zh (show (bl c.text = [124]) ↔ b1 = true by rw [← e1, beq_iff_eq, Zas]);have HB2 := zh (show (bl c.text = [64]) ↔ b2 = true by rw [← e2, beq_iff_eq, Zas])
  cases b1 with
  | true =>
   go_upto_region 19 with (fail);clear e1 e2 c0 fc0 c1 c2 c3 c4;rw [if_pos (HB1.o.2 (by simp))] at hcc;refine @Z8 _ lwA19 ?R19 _ _ _ _ ?h19 ?k19
   case h19 =>
    refine Zsr n IH E LB cs c A k EB RB NB ZB m K w w5 HB HS5 HV HLC HM HK HK20 HC64 (zh ?hf19)
    case hf19 => exact FrL.mk' rfl rfl rfl rfl rfl rfl
   case k19 =>
   rintro a' x ⟨hf, hr⟩;obtain ⟨fr, rfl⟩ := hf.opn;rw [hcc] at hr;go_wp2_with fail;exact LoR.post Tryz.results59 (by rfl) hr HGE.o.2.1
  | false =>
  cases b2 with
  | true =>
   go_upto_region 21 with (fail);clear e1 e2 c0 fc0 c1 c2 c3 c4;rw [if_neg (fun h => by have := HB1.o.1 h; cases this), if_pos (HB2.o.2 (by simp))] at hcc;refine @Z8 _ lwA21 ?R21 _ _ _ _ ?h21 ?k21
   case h21 =>
    refine Zss n IH E LB cs c A k EB RB NB ZB m K w w5 HB HS5 HV HLC HM HK HK20 HC64 (zh ?hf21)
    case hf21 => exact FrL.mk' rfl rfl rfl rfl rfl rfl
   case k21 =>
   rintro a' x ⟨hf, hr⟩;obtain ⟨fr, rfl⟩ := hf.opn;rw [hcc] at hr;go_wp2_with fail;exact LoR.post Tryz.results59 (by rfl) hr HGE.o.2.1
  | false =>
   go_upto_region 22 with (fail);clear e1 e2 c0 fc0 c1 c2 c3 c4;rw [if_neg (fun h => by have := HB1.o.1 h; cases this), if_neg (fun h => by have := HB2.o.1 h; cases this)] at hcc;refine @Z8 _ lwA22 ?R22 _ _ _ _ ?h22 ?k22
   case h22 =>
    refine Zs7 n IH E LB cs c A k EB RB NB ZB m K w w5 HB HS5 HV HLC HM HK HK20 HC64 (zh ?hf22)
    case hf22 => exact FrL.mk' rfl rfl rfl rfl rfl rfl
   case k22 =>
   rintro a' x ⟨hf, hr⟩;obtain ⟨fr, rfl⟩ := hf.opn;rw [hcc] at hr;go_wp2_with fail;exact LoR.post Tryz.results59 (by rfl) hr HGE.o.2.1
 have tk : (c.kind == 7) = false := by simpa using h
 have HN7 := zh h;clear h;go_upto_region 23 with (fail);clear tk
 by_cases h : c.kind = 8
 ·have tk : (c.kind == 8) = true := beq_iff_eq.2 h;have HK20 := zh (show c.kind ≠ 20 by rw [h]; decide);have HH := zh h;clear h;have hcc := (Zva (u := E.u) (L := E.L) (m := m) (k := K) HH.o).symm;rw [← HC.o] at hcc;have HISB := zh (show Zd7 c.text = true by have := (Zfp HLC.o.hd).2.2.2.2; rw [HH.o] at this; exact this);go_upto_region 24 with (fail);clear tk;have hmm := @run_makeMap Tryz.prog;have hm3 := Zsm.start 9 (Zb.refl w5)
  go_upto_region 25 with (first | (refine Zkc Zxh Tryz.underlying171 (by assumption) rfl _ _ _ rfl rfl (by decide) rfl rfl (Go.WideMaps.keyOf_string_mk Tryz.underlying9 (by decide)) (by decide) (by decide) ?_; clear hm3; intro w3 hm3; have hce := (hm3.later.block _ (Za HB.o.eb)).trans HB.o.eb; have c1 := cell_of_row _ EB 1 _ _ _ hce; simp only [nD, yE, yF] at c1) | (at_lookup; refine wpList_lookup_own_int _ rfl _ _ 171 rfl 9 TI .i64 Zxh Tryz.underlying171 Tryz.underlying3 (Zxf _) _ 3 Zx7 rfl hm3.own _ (.string c.text.data.toList) rfl (Go.WideMaps.keyOf_string_mk Tryz.underlying9 HTX.o) ?_; intro kd hat hwc; have hkd := zh (Zwr hat); clear hat hwc))
  rename_i w3;have HB3 := zh (HB.o.later hm3.later);have HS3 := zh (HS5.o.later hm3.later);clear hm3 hmm;have HKD := zh (show kd = if bl c.text = [63] then 22 else if bl c.text = [124] then 13 else if bl c.text = [92] then 15 else 0 from hkd.o);clear hkd
  by_cases g0 : bl c.text = [63]
  ·obtain rfl : kd = 22 := by rw [HKD.o, if_pos g0]
   rw [if_pos g0] at hcc;go_upto_region 26 with (fail);refine @Z8 _ lwA26 ?R26k22 _ _ _ _ ?h26k22 ?k26k22
   case h26k22 =>
    refine Zjs n IH E LB cs c A k EB RB NB ZB m K w w3 HB3 HS3 HV HLC HM HK HK20 HC64 22 (zh ⟨by decide, by decide⟩) (zh ?hf26k22)
    case hf26k22 => exact Zpe.mk' rfl rfl rfl rfl rfl rfl rfl
   case k26k22 =>
   rintro a' x ⟨hf, hr⟩;obtain ⟨fr, rfl⟩ := hf.opn;rw [hcc] at hr;go_wp2_with fail;exact LoR.post Tryz.results59 (by rfl) hr HGE.o.2.1
  by_cases g1 : bl c.text = [124]
  ·obtain rfl : kd = 13 := by rw [HKD.o, if_neg g0, if_pos g1]
   rw [if_neg g0, if_pos g1] at hcc;go_upto_region 26 with (fail);refine @Z8 _ lwA26 ?R26k13 _ _ _ _ ?h26k13 ?k26k13
   case h26k13 =>
    refine Zjs n IH E LB cs c A k EB RB NB ZB m K w w3 HB3 HS3 HV HLC HM HK HK20 HC64 13 (zh ⟨by decide, by decide⟩) (zh ?hf26k13)
    case hf26k13 => exact Zpe.mk' rfl rfl rfl rfl rfl rfl rfl
   case k26k13 =>
   rintro a' x ⟨hf, hr⟩;obtain ⟨fr, rfl⟩ := hf.opn;rw [hcc] at hr;go_wp2_with fail;exact LoR.post Tryz.results59 (by rfl) hr HGE.o.2.1
  by_cases g2 : bl c.text = [92]
  ·obtain rfl : kd = 15 := by rw [HKD.o, if_neg g0, if_neg g1, if_pos g2]
   rw [if_neg g0, if_neg g1, if_pos g2] at hcc;go_upto_region 26 with (fail);refine @Z8 _ lwA26 ?R26k15 _ _ _ _ ?h26k15 ?k26k15
   case h26k15 =>
    refine Zjs n IH E LB cs c A k EB RB NB ZB m K w w3 HB3 HS3 HV HLC HM HK HK20 HC64 15 (zh ⟨by decide, by decide⟩) (zh ?hf26k15)
    case hf26k15 => exact Zpe.mk' rfl rfl rfl rfl rfl rfl rfl
   case k26k15 =>
   rintro a' x ⟨hf, hr⟩;obtain ⟨fr, rfl⟩ := hf.opn;rw [hcc] at hr;go_wp2_with fail;exact LoR.post Tryz.results59 (by rfl) hr HGE.o.2.1
  obtain rfl : kd = 0 := by rw [HKD.o, if_neg g0, if_neg g1, if_neg g2]
  rw [if_neg g0, if_neg g1, if_neg g2] at hcc;have HBI := zh (⟨HISB.o, g1, g2, g0⟩ : Zd7 c.text = true ∧ bl c.text ≠ [124] ∧ bl c.text ≠ [92] ∧ bl c.text ≠ [63]);clear g0 g1 g2;go_upto_region 27 with (fail);refine @Z8 _ lwA27 ?R27 _ _ _ _ ?h27 ?k27
  case h27 =>
   refine Zs8 n IH E LB cs c A k EB RB NB ZB m K w w3 HB3 HS3 HV HLC HM HK HK20 HC64 HBI (zh ?hf27)
   case hf27 => exact FrL.mk' rfl rfl rfl rfl rfl rfl
  case k27 =>
  rintro a' x ⟨hf, hr⟩;obtain ⟨fr, rfl⟩ := hf.opn;rw [hcc] at hr;go_wp2_with fail;exact LoR.post Tryz.results59 (by rfl) hr HGE.o.2.1
 have tk : (c.kind == 8) = false := by simpa using h
 have HN8 := zh h;clear h;go_upto_region 28 with (fail);clear tk
 by_cases h : c.kind = 9
 ·have tk : (c.kind == 9) = true := beq_iff_eq.2 h;have HK20 := zh (show c.kind ≠ 20 by rw [h]; decide);have HH := zh h;clear h;have hcc := (Zvb (u := E.u) (L := E.L) (m := m) (k := K) HH.o).symm;rw [← HC.o] at hcc;obtain ⟨iS, hiS, hz0, hz1, hz2⟩ := info_parts Zjn;go_upto_region 29 with (fail);clear tk;have e1 := HB.o.eb;obtain ⟨c0, c1, c2, c3, c4⟩ := Z1 e1;have fc0 := fz e1;clear e1;go_wp2_with fail;refine (Zb6 n IH E LB cs w5 c A k m HM.o (by rw [Zaw HK20.o]; exact HS5.o) (HB.o.ev HV.o) HLC.o).mono ?_;rintro e w6 hp;obtain ⟨v, rfl, hrow⟩ := hp.o;rw [← HK.o] at hrow;obtain ⟨Ak, qk, rfl, -⟩ := id hrow;have HR6 := zh (show Zz Zbe 6 Z7 (Iv w5.heap.size w6.heap.size) w6 K (.slice Ak K.length qk) from hrow.trim Zs);have HS6 := zh hp.st;have HX6 := zh (HB.o.keep hp.tn);have HSZ6 := zh hp.tn.size;clear hp hrow c0 fc0 c1 c2 c3 c4
  by_cases h2 : K.length = 2
  ·have t1 : ((K.length : Int) == 2) = true := by rw [h2]; rfl
   rw [if_pos h2] at hcc;obtain ⟨K2, hK2⟩ : ∃ z, K ++ [cM 1 1 c.line] = z := ⟨_, rfl⟩;rw [hK2] at hcc;have HK2E := zh hK2;have HKL2 := zh h2;have hml : K.length ≤ 134217728 := by omega
   clear h2 hK2;go_upto_region 31 with (fail);clear t1;have hX2 : Zb w6 (w6.alloc (.cells #[.int .i64 1, .int .i64 0, .int .i64 1, .int .i64 c.line, .string ⟨#[]⟩, .slice none 0 0] Z7)) := (Zb.refl _).alloc _;have HX2 := zh hX2;have HROW2 := zh (HR6.o.later Zs.is hX2);have HEL := zh (show CV (fun _ => False) (w6.alloc (.cells #[.int .i64 1, .int .i64 0, .int .i64 1, .int .i64 c.line, .string ⟨#[]⟩, .slice none 0 0] Z7)) (cM 1 1 c.line) (.slice none 0 0) from CV.cm (k := 1) (fun _ => False) _ (by decide) (by decide) (Zbr (by decide) (by decide)) HC64.o).cor;have HNO := zh (show ∀ y, (fun _ : Nat => False) y → ¬ Iv w5.heap.size w6.heap.size y from fun _ h => h.elim);clear hX2;have e1 := HX6.o.eb;obtain ⟨c0, c1, c2, c3, c4⟩ := Z1 e1;have fc0 := fz e1;clear e1
   repeat (go_not_at_region 32; first | (go_says (at_builtin; refine Za4 Zs rfl _ _ 66 rfl Z7 iS (.agg #[.int .i64 0, .int .i64 0, .int .i64 0, .int .i64 0, .string ⟨#[]⟩, .slice none 0 0]) 72 Tryz.underlying66 hiS hz0 hz1 hz2 rfl rfl HROW2.o ⟨w6.heap.size, 0, none⟩ 1 rfl (cM 1 1 c.line) [.int .i64 1, .int .i64 0, .int .i64 1, .int .i64 c.line, .string ⟨#[]⟩, .slice none 0 0] (Zg5 w6 _ Z7) ((cM 1 1 c.line).one none 0 0) HEL.o HNO.o hml (by decide) ?_; intro v2 Y hrow hkp hb0; rw [HK2E.o] at hrow; obtain ⟨A2, cq, rfl, -⟩ := id hrow; have HRW := zh hrow; have HKP := zh (Tn.mk (P := Iv w5.heap.size w6.heap.size) hkp hb0); clear hrow hkp hb0)) | go_values | go_skip | go_guarded | go_step | go_upon | go_back)
   have HTY := zh (show Tn (fun y => w5.heap.size ≤ y) w6 Y from (Tn.later (P := fun _ => False) HX2.o).trans HKP.o (fun _ h => h.elim) (fun b _ hb => hb.1));have HXc := zh (HX6.o.own HB.o HTY.o);have HSc := zh (HX6.o.state HB.o HS6.o HTY.o);have HRc := zh (show Zz Zbe 6 Z7 (Iv w5.heap.size Y.heap.size) Y K2 (.slice A2 K2.length cq) from by
    have h := HRW.o.trim Zs;refine h.keep Zs.is (fun y hy => ⟨?_, hy.2⟩) (Zc.refl _ _);have h3 := HX2.o.size;have h4 := HX6.o.tn.size;have h5 := HTY.o.size;have h6 := HSZ6.o
    rcases hy.1 with h | h | h
    ·exact h.1
    ·exact h.elim
    ·have : y = (w6.alloc (.cells #[.int .i64 1, .int .i64 0, .int .i64 1, .int .i64 c.line, .string ⟨#[]⟩, .slice none 0 0] Z7)).heap.size := h
     omega)
   have e1 := HXc.o.eb;obtain ⟨c0, c1, c2, c3, c4⟩ := Z1 e1;have fc0 := fz e1;clear e1;go_wp2_with fail;refine (Zck LB c A k 72 A2 K2.length cq Y).mono ?_;rintro e yz ⟨rfl, hb⟩;have HXz := zh (HXc.o.later hb);have HSz := zh (HSc.o.later hb);have HRz := zh (HRc.o.later Zs.is hb);clear hb c0 fc0 c1 c2 c3 c4;have e1 := HXz.o.rb;have r0 := cz6 e1;have fr0 := fz e1;clear e1;go_wp2_with fail;exact LoR.post Tryz.results59 (by rfl) (hcc ▸ HB.o.fin (C := cO 72 c.line K2) HXz.o HSz.o (CV.co (op := 72) HRz.o (by decide) (by decide) HC64.o) (Nat.le_refl _)) HGE.o.2.1
  ·have t1 : ((K.length : Int) == 2) = false := by simp; omega
   rw [if_neg h2] at hcc;clear h2;go_upto_region 32 with (fail);clear t1;have HXc := HX6;have HSc := HS6;have HRc := HR6;have e1 := HX6.o.eb;obtain ⟨c0, c1, c2, c3, c4⟩ := Z1 e1;have fc0 := fz e1;clear e1;go_wp2_with fail;refine (Zck LB c A k 72 Ak K.length qk w6).mono ?_;rintro e yz ⟨rfl, hb⟩;have HXz := zh (HXc.o.later hb);have HSz := zh (HSc.o.later hb);have HRz := zh (HRc.o.later Zs.is hb);clear hb c0 fc0 c1 c2 c3 c4;have e1 := HXz.o.rb;have r0 := cz6 e1;have fr0 := fz e1;clear e1;go_wp2_with fail;exact LoR.post Tryz.results59 (by rfl) (hcc ▸ HB.o.fin (C := cO 72 c.line K) HXz.o HSz.o (CV.co (op := 72) HRz.o (by decide) (by decide) HC64.o) (Nat.le_refl _)) HGE.o.2.1
 have tk : (c.kind == 9) = false := by simpa using h
 have HN9 := zh h;clear h;go_upto_region 33 with (fail);clear tk
 by_cases h : c.kind = 10
 ·have tk : (c.kind == 10) = true := beq_iff_eq.2 h;have HK20 := zh (show c.kind ≠ 20 by rw [h]; decide);have HH := zh h;clear h;have hcc := (Zq3 (u := E.u) (L := E.L) (m := m) (k := K) HH.o).symm;rw [← HC.o] at hcc;go_upto_region 34 with (fail);clear tk;refine @Z8 _ lwA34 ?R34 _ _ _ _ ?h34 ?k34
  case h34 =>
   refine Zst n IH E LB cs c A k EB RB NB ZB m K w w5 HB HS5 HV HLC HM HK HK20 HC64 (zh ?hf34)
   case hf34 => exact FrL.mk' rfl rfl rfl rfl rfl rfl
  case k34 =>
  rintro a' x ⟨hf, hr⟩;obtain ⟨fr, rfl⟩ := hf.opn;rw [hcc] at hr;go_wp2_with fail;exact LoR.post Tryz.results59 (by rfl) hr HGE.o.2.1
 have tk : (c.kind == 10) = false := by simpa using h
 have HN10 := zh h;clear h;go_upto_region 35 with (fail);clear tk
 by_cases h : c.kind = 11
 ·have tk : (c.kind == 11) = true := beq_iff_eq.2 h;have HK20 := zh (show c.kind ≠ 20 by rw [h]; decide);have HH := zh h;clear h;have hcc := (Zq4 (u := E.u) (L := E.L) (m := m) (k := K) HH.o).symm;rw [← HC.o] at hcc;go_upto_region 36 with (fail);clear tk;refine @Z8 _ lwA36 ?R36 _ _ _ _ ?h36 ?k36
  case h36 =>
   refine Zsu n IH E LB cs c A k EB RB NB ZB m K w w5 HB HS5 HV HLC HM HK HK20 HC64 (zh ?hf36)
   case hf36 => exact FrL.mk' rfl rfl rfl rfl rfl rfl
  case k36 =>
  rintro a' x ⟨hf, hr⟩;obtain ⟨fr, rfl⟩ := hf.opn;rw [hcc] at hr;go_wp2_with fail;exact LoR.post Tryz.results59 (by rfl) hr HGE.o.2.1
 have tk : (c.kind == 11) = false := by simpa using h
 have HN11 := zh h;clear h;go_upto_region 37 with (fail);clear tk
 by_cases h : c.kind = 12
 ·have tk : (c.kind == 12) = true := beq_iff_eq.2 h;have HK20 := zh (show c.kind ≠ 20 by rw [h]; decide);have HH := zh h;clear h;have hcc := (Zq5 (u := E.u) (L := E.L) (m := m) (k := K) HH.o).symm;rw [← HC.o] at hcc;go_upto_region 38 with (fail);clear tk;refine @Z8 _ lwA38 ?R38 _ _ _ _ ?h38 ?k38
  case h38 =>
   refine Zsv n IH E LB cs c A k EB RB NB ZB m K w w5 HB HS5 HV HLC HM HK HK20 HC64 (zh ?hf38)
   case hf38 => exact FrL.mk' rfl rfl rfl rfl rfl rfl
  case k38 =>
  rintro a' x ⟨hf, hr⟩;obtain ⟨fr, rfl⟩ := hf.opn;rw [hcc] at hr;go_wp2_with fail;exact LoR.post Tryz.results59 (by rfl) hr HGE.o.2.1
 have tk : (c.kind == 12) = false := by simpa using h
 have HN12 := zh h;clear h;go_upto_region 39 with (fail);clear tk
 by_cases h : c.kind = 13
 ·have tk : (c.kind == 13) = true := beq_iff_eq.2 h;have HK20 := zh (show c.kind ≠ 20 by rw [h]; decide);have HH := zh h;clear h;have hcc := (Zq6 (u := E.u) (L := E.L) (m := m) (k := K) HH.o).symm;rw [← HC.o] at hcc;go_upto_region 40 with (fail);clear tk;refine @Z8 _ lwA40 ?R40 _ _ _ _ ?h40 ?k40
  case h40 =>
   refine Zta n IH E LB cs c A k EB RB NB ZB m K w w5 HB HS5 HV HLC HM HK HK20 HC64 (zh (HLC.o.hi HH.o (by decide) : c.kids.length ≤ 1)) (zh (HLC.o.lo HH.o (by decide) : 1 ≤ c.kids.length)) (zh ?hf40)
   case hf40 => exact FrL.mk' rfl rfl rfl rfl rfl rfl
  case k40 =>
  rintro a' x ⟨hf, hr⟩;obtain ⟨fr, rfl⟩ := hf.opn;rw [hcc] at hr;go_wp2_with fail;exact LoR.post Tryz.results59 (by rfl) hr HGE.o.2.1
 have tk : (c.kind == 13) = false := by simpa using h
 have HN13 := zh h;clear h;go_upto_region 41 with (fail);clear tk
 by_cases h : c.kind = 29
 ·have tk : (c.kind == 29) = true := beq_iff_eq.2 h;have HK20 := zh (show c.kind ≠ 20 by rw [h]; decide);have HH := zh h;clear h;have hcc := (Zrl (u := E.u) (L := E.L) (m := m) (k := K) HH.o).symm;rw [← HC.o] at hcc;go_upto_region 42 with (fail);clear tk;refine @Z8 _ lwA42 ?R42 _ _ _ _ ?h42 ?k42
  case h42 =>
   refine Zsw n IH E LB cs c A k EB RB NB ZB m K w w5 HB HS5 HV HLC HM HK HK20 HC64 (zh ?hf42)
   case hf42 => exact FrL.mk' rfl rfl rfl rfl rfl rfl
  case k42 =>
  rintro a' x ⟨hf, hr⟩;obtain ⟨fr, rfl⟩ := hf.opn;rw [hcc] at hr;go_wp2_with fail;exact LoR.post Tryz.results59 (by rfl) hr HGE.o.2.1
 have tk : (c.kind == 29) = false := by simpa using h
 have HN29 := zh h;clear h;go_upto_region 43 with (fail);clear tk
 by_cases h : c.kind = 28
 ·have tk : (c.kind == 28) = true := beq_iff_eq.2 h;have HK20 := zh (show c.kind ≠ 20 by rw [h]; decide);have HH := zh h;clear h;have hcc := (Zrk (u := E.u) (L := E.L) (m := m) (k := K) HH.o).symm;rw [← HC.o] at hcc;go_upto_region 44 with (fail);clear tk;refine @Z8 _ lwA44 ?R44 _ _ _ _ ?h44 ?k44
  case h44 =>
   refine Zs9 n IH E LB cs c A k EB RB NB ZB m K w w5 HB HS5 HV HLC HM HK HK20 HC64 (zh (HLC.o.hi HH.o (by decide) : c.kids.length ≤ 0)) (zh (.inr HH.o)) (zh ?hf44)
   case hf44 => exact FrL.mk' rfl rfl rfl rfl rfl rfl
  case k44 =>
  rintro a' x ⟨hf, hr⟩;obtain ⟨fr, rfl⟩ := hf.opn;rw [hcc] at hr;go_wp2_with fail;exact LoR.post Tryz.results59 (by rfl) hr HGE.o.2.1
 have tk : (c.kind == 28) = false := by simpa using h
 have HN28 := zh h;clear h;go_upto_region 45 with (fail);clear tk
 by_cases h : c.kind = 14
 ·have tk : (c.kind == 14) = true := beq_iff_eq.2 h;have HK20 := zh (show c.kind ≠ 20 by rw [h]; decide);have HH := zh h;clear h;have hcc := (Znq (u := E.u) (L := E.L) (m := m) (k := K) HH.o).symm;rw [← HC.o] at hcc;go_upto_region 46 with (fail);clear tk;have e1 := HB.o.eb;obtain ⟨c0, c1, c2, c3, c4⟩ := Z1 e1;have fc0 := fz e1;clear e1
  by_cases h2 : c.kids.length = 0
  ·have t1 : ((c.kids.length : Int) == 0) = true := by rw [h2]; rfl
   rw [if_pos (HKL.o.trans h2)] at hcc;have HK0 := zh h2;clear h2;go_upto_region 47 with (fail);clear t1;have e1 := HB.o.zb;have z0 := cz6 e1;have fz0 := fz e1;clear e1;have e1 := HB.o.rb;have r0 := cz6 e1;have fr0 := fz e1;clear e1;go_wp2_with fail;exact LoR.post Tryz.results59 (by rfl) (hcc ▸ HB.o.fin (C := cN 4 c.line) HB.o (show LwI E LB (cs + csX c) w5 by have h1 := HLC.o.all (j := 0) (Nat.le_of_eq HK0.o); simp only [List.take_zero, Za3, Zaw HK20.o, Nat.add_zero] at h1; exact h1 ▸ HS5.o) (CV.cn (Iv w5.heap.size w5.heap.size) w5 (by decide) (by decide) HC64.o) (Nat.le_refl _)) HGE.o.2.1
  ·have t1 : ((c.kids.length : Int) == 0) = false := by simp; exact fun e => h2 (by rw [e]; rfl)
   rw [if_neg (fun e => h2 (HKL.o.symm.trans e))] at hcc;clear h2;go_upto_region 48 with (fail);clear t1 c0 fc0 c1 c2 c3 c4;refine @Z8 _ lwA48 ?R48 _ _ _ _ ?h48 ?k48
   case h48 =>
    refine Zsx n IH E LB cs c A k EB RB NB ZB m K w w5 HB HS5 HV HLC HM HK HK20 HC64 (zh ?hf48)
    case hf48 => exact FrL.mk' rfl rfl rfl rfl rfl rfl
   case k48 =>
   rintro a' x ⟨hf, hr⟩;obtain ⟨fr, rfl⟩ := hf.opn;rw [hcc] at hr;go_wp2_with fail;exact LoR.post Tryz.results59 (by rfl) hr HGE.o.2.1
 have tk : (c.kind == 14) = false := by simpa using h
 have HN14 := zh h;clear h;go_upto_region 49 with (fail);clear tk
 by_cases h : c.kind = 15
 ·have tk : (c.kind == 15) = true := beq_iff_eq.2 h;have HK20 := zh (show c.kind ≠ 20 by rw [h]; decide);have HH := zh h;clear h;have hcc := (Zq7 (u := E.u) (L := E.L) (m := m) (k := K) HH.o).symm;rw [← HC.o] at hcc;obtain ⟨iS, hiS, hz0, hz1, hz2⟩ := info_parts Zjn;go_upto_region 50 with (fail);clear tk;have e1 := HB.o.eb;obtain ⟨c0, c1, c2, c3, c4⟩ := Z1 e1;have fc0 := fz e1;clear e1;go_wp2_with fail;refine (Zb6 n IH E LB cs w5 c A k m HM.o (by rw [Zaw HK20.o]; exact HS5.o) (HB.o.ev HV.o) HLC.o).mono ?_;rintro e w6 hp;obtain ⟨v, rfl, hrow⟩ := hp.o;rw [← HK.o] at hrow;obtain ⟨Ak, qk, rfl, -⟩ := id hrow;have HR6 := zh (show Zz Zbe 6 Z7 (Iv w5.heap.size w6.heap.size) w6 K (.slice Ak K.length qk) from hrow.trim Zs);have HS6 := zh hp.st;have HX6 := zh (HB.o.keep hp.tn);have HSZ6 := zh hp.tn.size;clear hp hrow c0 fc0 c1 c2 c3 c4
  by_cases h2 : K.length = 2
  ·have t1 : ((K.length : Int) == 2) = true := by rw [h2]; rfl
   rw [if_pos h2] at hcc;obtain ⟨K2, hK2⟩ : ∃ z, K ++ [cN 28 c.line] = z := ⟨_, rfl⟩;rw [hK2] at hcc;have HK2E := zh hK2;have HKL2 := zh h2;have hml : K.length ≤ 134217728 := by omega
   clear h2 hK2;go_upto_region 52 with (fail);clear t1;have hX2 : Zb w6 (w6.alloc (.cells #[.int .i64 28, .int .i64 0, .int .i64 0, .int .i64 c.line, .string ⟨#[]⟩, .slice none 0 0] Z7)) := (Zb.refl _).alloc _;have HX2 := zh hX2;have HROW2 := zh (HR6.o.later Zs.is hX2);have HEL := zh (show CV (fun _ => False) (w6.alloc (.cells #[.int .i64 28, .int .i64 0, .int .i64 0, .int .i64 c.line, .string ⟨#[]⟩, .slice none 0 0] Z7)) (cN 28 c.line) (.slice none 0 0) from CV.cn (k := 28) (fun _ => False) _ (by decide) (by decide) HC64.o).cor;have HNO := zh (show ∀ y, (fun _ : Nat => False) y → ¬ Iv w5.heap.size w6.heap.size y from fun _ h => h.elim);clear hX2;have e1 := HX6.o.nb;obtain ⟨n0, n1, n2, n3, n4, n5⟩ := cz6 e1;have fn0 := fz e1;clear e1
   repeat (go_not_at_region 53; first | (go_says (at_builtin; refine Za4 Zs rfl _ _ 66 rfl Z7 iS (.agg #[.int .i64 0, .int .i64 0, .int .i64 0, .int .i64 0, .string ⟨#[]⟩, .slice none 0 0]) 72 Tryz.underlying66 hiS hz0 hz1 hz2 rfl rfl HROW2.o ⟨w6.heap.size, 0, none⟩ 1 rfl (cN 28 c.line) [.int .i64 28, .int .i64 0, .int .i64 0, .int .i64 c.line, .string ⟨#[]⟩, .slice none 0 0] (Zg5 w6 _ Z7) ((cN 28 c.line).one none 0 0) HEL.o HNO.o hml (by decide) ?_; intro v2 Y hrow hkp hb0; rw [HK2E.o] at hrow; obtain ⟨A2, cq, rfl, -⟩ := id hrow; have HRW := zh hrow; have HKP := zh (Tn.mk (P := Iv w5.heap.size w6.heap.size) hkp hb0); clear hrow hkp hb0)) | go_values | go_skip | go_guarded | go_step | go_upon | go_back)
   have HTY := zh (show Tn (fun y => w5.heap.size ≤ y) w6 Y from (Tn.later (P := fun _ => False) HX2.o).trans HKP.o (fun _ h => h.elim) (fun b _ hb => hb.1));have HXc := zh (HX6.o.own HB.o HTY.o);have HSc := zh (HX6.o.state HB.o HS6.o HTY.o);have HRc := zh (show Zz Zbe 6 Z7 (Iv w5.heap.size Y.heap.size) Y K2 (.slice A2 K2.length cq) from by
    have h := HRW.o.trim Zs;refine h.keep Zs.is (fun y hy => ⟨?_, hy.2⟩) (Zc.refl _ _);have h3 := HX2.o.size;have h4 := HX6.o.tn.size;have h5 := HTY.o.size;have h6 := HSZ6.o
    rcases hy.1 with h | h | h
    ·exact h.1
    ·exact h.elim
    ·have : y = (w6.alloc (.cells #[.int .i64 28, .int .i64 0, .int .i64 0, .int .i64 c.line, .string ⟨#[]⟩, .slice none 0 0] Z7)).heap.size := h
     omega)
   have e1 := HXc.o.eb;obtain ⟨c0, c1, c2, c3, c4⟩ := Z1 e1;have fc0 := fz e1;clear e1;go_wp2_with fail;refine (Zao LB c A k 17 A2 K2.length cq Y).mono ?_;rintro e yz ⟨rfl, hb⟩;have HXz := zh (HXc.o.later hb);have HSz := zh (HSc.o.later hb);have HRz := zh (HRc.o.later Zs.is hb);clear hb c0 fc0 c1 c2 c3 c4;have e1 := HXz.o.rb;have r0 := cz6 e1;have fr0 := fz e1;clear e1;go_wp2_with fail;exact LoR.post Tryz.results59 (by rfl) (hcc ▸ HB.o.fin (C := cK 17 c.line K2) HXz.o HSz.o (CV.ck (k := 17) HRz.o (by decide) (by decide) HC64.o) (Nat.le_refl _)) HGE.o.2.1
  ·have t1 : ((K.length : Int) == 2) = false := by simp; omega
   rw [if_neg h2] at hcc;clear h2;go_upto_region 53 with (fail);clear t1;have HXc := HX6;have HSc := HS6;have HRc := HR6;have e1 := HX6.o.eb;obtain ⟨c0, c1, c2, c3, c4⟩ := Z1 e1;have fc0 := fz e1;clear e1;go_wp2_with fail;refine (Zao LB c A k 17 Ak K.length qk w6).mono ?_;rintro e yz ⟨rfl, hb⟩;have HXz := zh (HXc.o.later hb);have HSz := zh (HSc.o.later hb);have HRz := zh (HRc.o.later Zs.is hb);clear hb c0 fc0 c1 c2 c3 c4;have e1 := HXz.o.rb;have r0 := cz6 e1;have fr0 := fz e1;clear e1;go_wp2_with fail;exact LoR.post Tryz.results59 (by rfl) (hcc ▸ HB.o.fin (C := cK 17 c.line K) HXz.o HSz.o (CV.ck (k := 17) HRz.o (by decide) (by decide) HC64.o) (Nat.le_refl _)) HGE.o.2.1
 have tk : (c.kind == 15) = false := by simpa using h
 have HN15 := zh h;clear h;go_upto_region 54 with (fail);clear tk
 by_cases h : c.kind = 16
 ·have tk : (c.kind == 16) = true := beq_iff_eq.2 h;have HK20 := zh (show c.kind ≠ 20 by rw [h]; decide);have HH := zh h;clear h;have hcc := (Zq8 (u := E.u) (L := E.L) (m := m) (k := K) HH.o).symm;rw [← HC.o] at hcc;go_upto_region 55 with (fail);clear tk;refine @Z8 _ lwA55 ?R55 _ _ _ _ ?h55 ?k55
  case h55 =>
   refine Zs1 n IH E LB cs c A k EB RB NB ZB m K w w5 HB HS5 HV HLC HM HK HK20 HC64 (zh (HLC.o.hi HH.o (by decide) : c.kids.length ≤ 2)) (zh ?hf55)
   case hf55 => exact FrL.mk' rfl rfl rfl rfl rfl rfl
  case k55 =>
  rintro a' x ⟨hf, hr⟩;obtain ⟨fr, rfl⟩ := hf.opn;rw [hcc] at hr;go_wp2_with fail;exact LoR.post Tryz.results59 (by rfl) hr HGE.o.2.1
 have tk : (c.kind == 16) = false := by simpa using h
 have HN16 := zh h;clear h;go_upto_region 56 with (fail);clear tk
 by_cases h : c.kind = 17
 ·have tk : (c.kind == 17) = true := beq_iff_eq.2 h;have HK20 := zh (show c.kind ≠ 20 by rw [h]; decide);have HH := zh h;clear h;have hcc := (Zq9 (u := E.u) (L := E.L) (m := m) (k := K) HH.o).symm;rw [← HC.o] at hcc;go_upto_region 57 with (fail);clear tk;refine @Z8 _ lwA57 ?R57 _ _ _ _ ?h57 ?k57
  case h57 =>
   refine Zs4 n IH E LB cs c A k EB RB NB ZB m K w w5 HB HS5 HV HLC HM HK HK20 HC64 (zh (HLC.o.hi HH.o (by decide) : c.kids.length ≤ 2)) (zh ?hf57)
   case hf57 => exact FrL.mk' rfl rfl rfl rfl rfl rfl
  case k57 =>
  rintro a' x ⟨hf, hr⟩;obtain ⟨fr, rfl⟩ := hf.opn;rw [hcc] at hr;go_wp2_with fail;exact LoR.post Tryz.results59 (by rfl) hr HGE.o.2.1
 have tk : (c.kind == 17) = false := by simpa using h
 have HN17 := zh h;clear h;go_upto_region 58 with (fail);clear tk
 by_cases h : c.kind = 18
 ·have tk : (c.kind == 18) = true := beq_iff_eq.2 h;have HK20 := zh (show c.kind ≠ 20 by rw [h]; decide);have HH := zh h;clear h;have hcc := (Zra (u := E.u) (L := E.L) (m := m) (k := K) HH.o).symm;rw [← HC.o] at hcc;go_upto_region 59 with (fail);clear tk;refine @Z8 _ lwA59 ?R59 _ _ _ _ ?h59 ?k59
  case h59 =>
   refine Zs2 n IH E LB cs c A k EB RB NB ZB m K w w5 HB HS5 HV HLC HM HK HK20 HC64 (zh (HLC.o.hi HH.o (by decide) : c.kids.length ≤ 2)) (zh ?hf59)
   case hf59 => exact FrL.mk' rfl rfl rfl rfl rfl rfl
  case k59 =>
  rintro a' x ⟨hf, hr⟩;obtain ⟨fr, rfl⟩ := hf.opn;rw [hcc] at hr;go_wp2_with fail;exact LoR.post Tryz.results59 (by rfl) hr HGE.o.2.1
 have tk : (c.kind == 18) = false := by simpa using h
 have HN18 := zh h;clear h;go_upto_region 60 with (fail);clear tk
 by_cases h : c.kind = 19
 ·have tk : (c.kind == 19) = true := beq_iff_eq.2 h;have HK20 := zh (show c.kind ≠ 20 by rw [h]; decide);have HH := zh h;clear h;have hcc := (Zrb (u := E.u) (L := E.L) (m := m) (k := K) HH.o).symm;rw [← HC.o] at hcc;go_upto_region 61 with (fail);clear tk;refine @Z8 _ lwA61 ?R61 _ _ _ _ ?h61 ?k61
  case h61 =>
   refine Zs5 n IH E LB cs c A k EB RB NB ZB m K w w5 HB HS5 HV HLC HM HK HK20 HC64 (zh (HLC.o.hi HH.o (by decide) : c.kids.length ≤ 1)) (zh ?hf61)
   case hf61 => exact FrL.mk' rfl rfl rfl rfl rfl rfl
  case k61 =>
  rintro a' x ⟨hf, hr⟩;obtain ⟨fr, rfl⟩ := hf.opn;rw [hcc] at hr;go_wp2_with fail;exact LoR.post Tryz.results59 (by rfl) hr HGE.o.2.1
 have tk : (c.kind == 19) = false := by simpa using h
 have HN19 := zh h;clear h;go_upto_region 62 with (fail);clear tk
 by_cases h : c.kind = 27
 ·have tk : (c.kind == 27) = true := beq_iff_eq.2 h;have HK20 := zh (show c.kind ≠ 20 by rw [h]; decide);have HH := zh h;clear h;have hcc := (Zrj (u := E.u) (L := E.L) (m := m) (k := K) HH.o).symm;rw [← HC.o] at hcc;go_upto_region 63 with (fail);clear tk;refine @Z8 _ lwA63 ?R63 _ _ _ _ ?h63 ?k63
  case h63 =>
   refine Zs6 n IH E LB cs c A k EB RB NB ZB m K w w5 HB HS5 HV HLC HM HK HK20 HC64 (zh (HLC.o.hi HH.o (by decide) : c.kids.length ≤ 1)) (zh ?hf63)
   case hf63 => exact FrL.mk' rfl rfl rfl rfl rfl rfl
  case k63 =>
  rintro a' x ⟨hf, hr⟩;obtain ⟨fr, rfl⟩ := hf.opn;rw [hcc] at hr;go_wp2_with fail;exact LoR.post Tryz.results59 (by rfl) hr HGE.o.2.1
 have tk : (c.kind == 27) = false := by simpa using h
 have HN27 := zh h;clear h;go_upto_region 64 with (fail);clear tk
 by_cases h : c.kind = 20
 ·have tk : (c.kind == 20) = true := beq_iff_eq.2 h;have HH := zh h;clear h;have hcc := (Zrc (u := E.u) (L := E.L) (m := m) (k := K) HH.o).symm;rw [← HC.o] at hcc;go_upto_region 65 with (fail);clear tk;have e1 := HB.o.eb;obtain ⟨c0, c1, c2, c3, c4⟩ := Z1 e1;have fc0 := fz e1;clear e1;go_wp2_with fail;refine (Zo9 n IH E LB cs w5 c A k HH.o HS5.o (HB.o.ev HV.o) HLC.o).mono ?_;rintro e w6 hp;rw [← HM.o, ← HK.o, hcc] at hp;obtain ⟨A6, q6, rfl, hcv⟩ := hp.core;have HS6 := zh hp.st;have HX6 := zh (HB.o.keep hp.tn);have HCV := zh hcv;clear hp hcv c0 fc0 c1 c2 c3 c4;have e1 := HX6.o.rb;have r0 := cz6 e1;have fr0 := fz e1;clear e1;go_wp2_with fail;exact LoR.post Tryz.results59 (by rfl) (HB.o.fin (C := C) HX6.o (HS6.o) HCV.o (Nat.le_refl _)) HGE.o.2.1
 have tk : (c.kind == 20) = false := by simpa using h
 have HN20 := zh h;clear h;go_upto_region 66 with (fail);clear tk
 by_cases h : c.kind = 21
 ·have tk : (c.kind == 21) = true := beq_iff_eq.2 h;have HK20 := zh (show c.kind ≠ 20 by rw [h]; decide);have HH := zh h;clear h;have hcc := (Zrd (u := E.u) (L := E.L) (m := m) (k := K) HH.o).symm;rw [← HC.o] at hcc;go_upto_region 67 with (fail);clear tk;refine @Z8 _ lwA67 ?R67 _ _ _ _ ?h67 ?k67
  case h67 =>
   refine Zsy n IH E LB cs c A k EB RB NB ZB m K w w5 HB HS5 HV HLC HM HK HK20 HC64 (zh (HLC.o.hi HH.o (by decide) : c.kids.length ≤ 1)) (zh ?hf67)
   case hf67 => exact FrL.mk' rfl rfl rfl rfl rfl rfl
  case k67 =>
  rintro a' x ⟨hf, hr⟩;obtain ⟨fr, rfl⟩ := hf.opn;rw [hcc] at hr;go_wp2_with fail;exact LoR.post Tryz.results59 (by rfl) hr HGE.o.2.1
 have tk : (c.kind == 21) = false := by simpa using h
 have HN21 := zh h;clear h;go_upto_region 68 with (fail);clear tk
 by_cases h : c.kind = 22
 ·have tk : (c.kind == 22) = true := beq_iff_eq.2 h;have HK20 := zh (show c.kind ≠ 20 by rw [h]; decide);have HH := zh h;clear h;have hcc := (Zre (u := E.u) (L := E.L) (m := m) (k := K) HH.o).symm;rw [← HC.o] at hcc;go_upto_region 69 with (fail);clear tk;refine @Z8 _ lwA69 ?R69 _ _ _ _ ?h69 ?k69
  case h69 =>
   refine Zs3 n IH E LB cs c A k EB RB NB ZB m K w w5 HB HS5 HV HLC HM HK HK20 HC64 (zh (HLC.o.hi HH.o (by decide) : c.kids.length ≤ 2)) (zh ?hf69)
   case hf69 => exact FrL.mk' rfl rfl rfl rfl rfl rfl
  case k69 =>
  rintro a' x ⟨hf, hr⟩;obtain ⟨fr, rfl⟩ := hf.opn;rw [hcc] at hr;go_wp2_with fail;exact LoR.post Tryz.results59 (by rfl) hr HGE.o.2.1
 have tk : (c.kind == 22) = false := by simpa using h
 have HN22 := zh h;clear h;go_upto_region 70 with (fail);clear tk
 by_cases h : c.kind = 23
 ·have tk : (c.kind == 23) = true := beq_iff_eq.2 h;have HK20 := zh (show c.kind ≠ 20 by rw [h]; decide);have HH := zh h;clear h;have hcc := (Zrf (u := E.u) (L := E.L) (m := m) (k := K) HH.o).symm;rw [← HC.o] at hcc;go_upto_region 71 with (fail);clear tk;have e1 := HB.o.eb;obtain ⟨c0, c1, c2, c3, c4⟩ := Z1 e1;have fc0 := fz e1;clear e1;go_wp2_with fail;refine (Zao LB c A k 24 none 0 0 w5).mono ?_;rintro e w6 ⟨rfl, hb⟩;have HX6 := zh (HB.o.later hb);have HSw6 := zh (HS5.o.later hb);clear hb c0 fc0 c1 c2 c3 c4;have e1 := HX6.o.rb;have r0 := cz6 e1;have fr0 := fz e1;clear e1;go_wp2_with fail;exact LoR.post Tryz.results59 (by rfl) (hcc ▸ HB.o.fin (C := cN 24 c.line) HX6.o (show LwI E LB (cs + csX c) w6 by have h1 := HLC.o.all (j := 0) (HLC.o.hi HH.o (by decide)); simp only [List.take_zero, Za3, Zaw HK20.o, Nat.add_zero] at h1; exact h1 ▸ HSw6.o) (CV.cn (Iv w5.heap.size w5.heap.size) w6 (by decide) (by decide) HC64.o) (Nat.le_refl _)) HGE.o.2.1
 have tk : (c.kind == 23) = false := by simpa using h
 have HN23 := zh h;clear h;go_upto_region 72 with (fail);clear tk
 by_cases h : c.kind = 24
 ·have tk : (c.kind == 24) = true := beq_iff_eq.2 h;have HK20 := zh (show c.kind ≠ 20 by rw [h]; decide);have HH := zh h;clear h;have hcc := (Zrg (u := E.u) (L := E.L) (m := m) (k := K) HH.o).symm;rw [← HC.o] at hcc;go_upto_region 73 with (fail);clear tk;refine @Z8 _ lwA73 ?R73 _ _ _ _ ?h73 ?k73
  case h73 =>
   refine Zsz n IH E LB cs c A k EB RB NB ZB m K w w5 HB HS5 HV HLC HM HK HK20 HC64 (zh (HLC.o.hi HH.o (by decide) : c.kids.length ≤ 1)) (zh ?hf73)
   case hf73 => exact FrL.mk' rfl rfl rfl rfl rfl rfl
  case k73 =>
  rintro a' x ⟨hf, hr⟩;obtain ⟨fr, rfl⟩ := hf.opn;rw [hcc] at hr;go_wp2_with fail;exact LoR.post Tryz.results59 (by rfl) hr HGE.o.2.1
 have tk : (c.kind == 24) = false := by simpa using h
 have HN24 := zh h;clear h;go_upto_region 74 with (fail);clear tk
 by_cases h : c.kind = 25
 ·have tk : (c.kind == 25) = true := beq_iff_eq.2 h;have HK20 := zh (show c.kind ≠ 20 by rw [h]; decide);have HH := zh h;clear h;have hcc := (Zrh (u := E.u) (L := E.L) (m := m) (k := K) HH.o).symm;rw [← HC.o] at hcc;go_upto_region 75 with (fail);clear tk;have e1 := HB.o.eb;obtain ⟨c0, c1, c2, c3, c4⟩ := Z1 e1;have fc0 := fz e1;clear e1;go_wp2_with fail;refine (Zao LB c A k 21 none 0 0 w5).mono ?_;rintro e w6 ⟨rfl, hb⟩;have HX6 := zh (HB.o.later hb);have HSw6 := zh (HS5.o.later hb);clear hb c0 fc0 c1 c2 c3 c4;have e1 := HX6.o.rb;have r0 := cz6 e1;have fr0 := fz e1;clear e1;go_wp2_with fail;exact LoR.post Tryz.results59 (by rfl) (hcc ▸ HB.o.fin (C := cN 21 c.line) HX6.o (show LwI E LB (cs + csX c) w6 by have h1 := HLC.o.all (j := 0) (HLC.o.hi HH.o (by decide)); simp only [List.take_zero, Za3, Zaw HK20.o, Nat.add_zero] at h1; exact h1 ▸ HSw6.o) (CV.cn (Iv w5.heap.size w5.heap.size) w6 (by decide) (by decide) HC64.o) (Nat.le_refl _)) HGE.o.2.1
 have tk : (c.kind == 25) = false := by simpa using h
 have HN25 := zh h;clear h;go_upto_region 76 with (fail);clear tk;have h : c.kind = 26 := by
  have hr := Zfp HLC.o.hd;have h1 := HN1.o;have h2 := HN2.o;have h3 := HN3.o;have h4 := HN4.o;have h5 := HN5.o;have h6 := HN6.o;have h7 := HN7.o;have h8 := HN8.o;have h9 := HN9.o;have h10 := HN10.o;have h11 := HN11.o;have h12 := HN12.o;have h13 := HN13.o;have h29 := HN29.o;have h28 := HN28.o;have h14 := HN14.o;have h15 := HN15.o;have h16 := HN16.o;have h17 := HN17.o;have h18 := HN18.o;have h19 := HN19.o;have h27 := HN27.o;have h20 := HN20.o;have h21 := HN21.o;have h22 := HN22.o;have h23 := HN23.o;have h24 := HN24.o;have h25 := HN25.o
  omega
 have HK20 := zh (show c.kind ≠ 20 by rw [h]; decide);have HH := zh h;clear h;have hcc := (Zri (u := E.u) (L := E.L) (m := m) (k := K) HH.o).symm;rw [← HC.o] at hcc;refine @Z8 _ lwA76 ?R76 _ _ _ _ ?h76 ?k76
 case h76 =>
  refine Zs0 n IH E LB cs c A k EB RB NB ZB m K w w5 HB HS5 HV HLC HM HK HK20 HC64 (zh (HLC.o.hi HH.o (by decide) : c.kids.length ≤ 1)) (zh ?hf76)
  case hf76 => exact FrL.mk' rfl rfl rfl rfl rfl rfl
 case k76 =>
 rintro a' x ⟨hf, hr⟩;obtain ⟨fr, rfl⟩ := hf.opn;rw [hcc] at hr;go_wp2_with fail;exact LoR.post Tryz.results59 (by rfl) hr HGE.o.2.1
theorem Zlt : ∀ n, Zd6 n
 | 0 => Zls 0 fun m h => by cases h
 | n + 1 => Zls (n + 1) fun m h => by injection h with h; exact h ▸ Zlt n
end
theorem Zgk (w0 x w : World) (SB : Nat) (l : List ByteArray) (s : ByteArray) (hs : Zjl w0 SB x l) (hx : Zb x w) (h0 : Zb w0 w) (ht : Spc w0) (hn : l.length ≤ 1000000) (hz : s.size ≤ maxLen) : Calls Tryz.prog 149 #[.string s, .pointer (some ⟨SB, 0, none⟩)] w fun e w' => e = .returned (.bool (tkB l s)) ∧ Zjl w0 SB w' (l ++ [s]) ∧ Zc (fun b => x.heap.size ≤ b) w w' ∧ Zb w0 w' := by
 obtain ⟨iS, hiS, hz0, hz1, hz2⟩ := info_parts Zd2;obtain ⟨v, hv⟩ := hs;obtain ⟨Av, cv, rfl, -, -⟩ := hv.row.form;have HX0 := zh hx;have HV0 := zh hv;have HV := zh (hv.later hx);have HL0 := zh h0;have HT := zh (ht.below h0);have HZ := zh hz;obtain ⟨R, hR⟩ : ∃ z, z = tkB l s := ⟨_, rfl⟩;rw [← hR];have HR := zh (show R = (decide (0 ≤ fnN s) || Zbm l s) from hR);obtain ⟨b1, hb1⟩ : ∃ z : Bool, z = decide (0 ≤ fnN s) := ⟨_, rfl⟩;obtain ⟨b2, hb2⟩ : ∃ z, z = Zbm l s := ⟨_, rfl⟩;rw [← hb1, ← hb2] at HR;have HB1 := zh hb1;have HB2 := zh hb2;clear hR hx hv h0 ht hz hb1 hb2;have g0 := yq HV.o.cell 0;have fg0 := fz HV.o.cell;simp only [List.getElem?_toArray, List.getElem?_cons_zero] at g0;go_enter Tryz.func149, Tryz.ntmps149;go_wp2_with fail;refine (Zfm s w HT.o).mono ?_;rintro e w2 ⟨rfl, hb⟩;have HL2 := zh (show Zb w w2 from hb);have HV2 := zh (HV.o.later hb);obtain ⟨z, hz⟩ : ∃ z, z = fnN s := ⟨_, rfl⟩;rw [← hz];have hd : decide (0 ≤ z) = b1 := by rw [hz]; exact HB1.o.symm
 clear hb hz g0 fg0;have g0 := yq HV2.o.cell 0;have fg0 := fz HV2.o.cell;simp only [List.getElem?_toArray, List.getElem?_cons_zero] at g0;have HXL := zh (show Zb w2 (w2.alloc (.cells #[.string s] Zc3)) from (Zb.refl _).alloc _);have HVX := zh (HV2.o.later HXL.o);have HSX := zh HVX.o.cell
 cases b1 with
 | true =>
  go_wp2_with (at_builtin; refine Zai (w0 := w0) rfl _ _ 24 rfl iS Tryz.underlying24 hiS hz0 hz1 hz2 rfl HVX.o.row (HL0.o.trans (HL2.o.trans HXL.o)) rfl (Zd1 w2 HZ.o) (by simp; omega) ?_; intro v2 Y hrow hgr; obtain ⟨A2, c2, hv2, -, -⟩ := hrow.row.form; rw [show (l ++ [s]).length = l.length + 1 by simp] at hv2; subst hv2; have HROW := zh hrow; have HGR := zh hgr; have hcy := hgr.box HVX.o.ne HVX.o.cell; clear hrow hgr g0 fg0; have g0 := yq hcy 0; have fg0 := fz hcy; simp only [List.getElem?_toArray, List.getElem?_cons_zero] at g0)
  go_ret;exact ⟨by rw [HR.o]; rfl, ⟨_, HVX.o.put HROW.o HGR.o⟩, (Zc.later (HL2.o.trans HXL.o)).trans ((HV0.o.keep (HX0.o.trans (HL2.o.trans HXL.o)) HGR.o).mono fun b hb => hb), (HGR.o.later0 (HL0.o.trans (HL2.o.trans HXL.o)) fun b e => (HVX.o.row.own e).1).setCell HVX.o.ge _⟩
 | false =>
  go_wp2_with fail;refine (Zcn l _ s _ w2 HV2.o.row.is).mono ?_;rintro e w3 ⟨rfl, hw⟩;obtain rfl : w2 = w3 := hw.symm;rw [← HB2.o];clear hw
  go_wp2_with (at_builtin; refine Zai (w0 := w0) rfl _ _ 24 rfl iS Tryz.underlying24 hiS hz0 hz1 hz2 rfl HVX.o.row (HL0.o.trans (HL2.o.trans HXL.o)) rfl (Zd1 w2 HZ.o) (by simp; omega) ?_; intro v2 Y hrow hgr; obtain ⟨A2, c2, hv2, -, -⟩ := hrow.row.form; rw [show (l ++ [s]).length = l.length + 1 by simp] at hv2; subst hv2; have HROW := zh hrow; have HGR := zh hgr; have hcy := hgr.box HVX.o.ne HVX.o.cell; clear hrow hgr g0 fg0; have g0 := yq hcy 0; have fg0 := fz hcy; simp only [List.getElem?_toArray, List.getElem?_cons_zero] at g0)
  go_ret;exact ⟨by rw [HR.o]; rfl, ⟨_, HVX.o.put HROW.o HGR.o⟩, (Zc.later (HL2.o.trans HXL.o)).trans ((HV0.o.keep (HX0.o.trans (HL2.o.trans HXL.o)) HGR.o).mono fun b hb => hb), (HGR.o.later0 (HL0.o.trans (HL2.o.trans HXL.o)) fun b e => (HVX.o.row.own e).1).setCell HVX.o.ge _⟩
end Go.Proofs.YtcmmdchjppaimaaGreatDoor
