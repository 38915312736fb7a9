/- Part of the walks that the claim stands on. -/
import Derived.Test.YtpmhelkiicigfaaGreatDoorS1
import Derived.Test.YtpmhelkiicigfaaGreatDoorShelf
import Derived.Test.YtpmhelkiicigfaaGreatDoorChecked
import Derived.Lib.Hide
import Derived.WalkKit
import Derived.WalkSpells
import Derived.WalkLawsBesides
import Derived.Deep.CutBlock
import Derived.Deep.DeepCutAuto
import Derived.Lib.AppendIntMem
import Derived.Outline
set_option maxRecDepth 100000
set_option maxHeartbeats 40000000
namespace Go.Proofs.YtpmhelkiicigfaaGreatDoor
open Go.RowKit
theorem in0 : Zs 0 := by unfold Zs; omega
theorem in8 : Zs 8 := by unfold Zs; omega
theorem Zjm (r : Zf) (B : Nat) (cs : List Value) (F : Nat → Prop) (w : World) (x i : Ze) (h : Za1 F w B r cs) (hx : Zd F w x [.int .i64 x.kind, .int .i64 x.aH, .int .i64 x.index, .string x.text, .int .i64 x.set_.low, .int .i64 x.set_.high]) (hi : Zd F w i [.int .i64 i.kind, .int .i64 i.aH, .int .i64 i.index, .string i.text, .int .i64 i.set_.low, .int .i64 i.set_.high]) (hm : r.aA.length ≤ 1048576) :
  Calls Tryz.prog 94 #[.pointer (some ⟨B, 0, none⟩), .agg #[.int .i64 x.kind, .int .i64 x.aH, .int .i64 x.index, .string x.text, .int .i64 x.set_.low, .int .i64 x.set_.high], .agg #[.int .i64 i.kind, .int .i64 i.aH, .int .i64 i.index, .string i.text, .int .i64 i.set_.low, .int .i64 i.set_.high]] w fun e w' => e = .returned (.agg #[.int .i64 17, .int .i64 r.aA.length, .int .i64 0, .string ⟨#[]⟩, .int .i64 0, .int .i64 0]) ∧ (∃ cs', Za1 (fun y => F y ∨ w.heap.size ≤ y) w' B (Zac r ⟨8, 0, 0, [x, i], []⟩) cs') ∧ Zax F w B w' := by
 have hl : Za w ((((w.alloc (.cells #[.int .i64 x.kind, .int .i64 x.aH, .int .i64 x.index, .string x.text, .int .i64 x.set_.low, .int .i64 x.set_.high] 34)).alloc (.cells #[.int .i64 i.kind, .int .i64 i.aH, .int .i64 i.index, .string i.text, .int .i64 i.set_.low, .int .i64 i.set_.high] 34)).alloc (.cells #[.int .i64 0, .int .i64 0, .int .i64 0, .string ⟨#[]⟩, .int .i64 0, .int .i64 0] 34)).alloc (.cells #[.int .i64 x.kind, .int .i64 x.aH, .int .i64 x.index, .string x.text, .int .i64 x.set_.low, .int .i64 x.set_.high, .int .i64 i.kind, .int .i64 i.aH, .int .i64 i.index, .string i.text, .int .i64 i.set_.low, .int .i64 i.set_.high] 34)) := ((((Za.refl w).alloc _).alloc _).alloc _).alloc _;have hb4 : ((((w.alloc (.cells #[.int .i64 x.kind, .int .i64 x.aH, .int .i64 x.index, .string x.text, .int .i64 x.set_.low, .int .i64 x.set_.high] 34)).alloc (.cells #[.int .i64 i.kind, .int .i64 i.aH, .int .i64 i.index, .string i.text, .int .i64 i.set_.low, .int .i64 i.set_.high] 34)).alloc (.cells #[.int .i64 0, .int .i64 0, .int .i64 0, .string ⟨#[]⟩, .int .i64 0, .int .i64 0] 34)).alloc (.cells #[.int .i64 x.kind, .int .i64 x.aH, .int .i64 x.index, .string x.text, .int .i64 x.set_.low, .int .i64 x.set_.high, .int .i64 i.kind, .int .i64 i.aH, .int .i64 i.index, .string i.text, .int .i64 i.set_.low, .int .i64 i.set_.high] 34)).heap[w.heap.size + 3]? = some (.cells #[.int .i64 x.kind, .int .i64 x.aH, .int .i64 x.index, .string x.text, .int .i64 x.set_.low, .int .i64 x.set_.high, .int .i64 i.kind, .int .i64 i.aH, .int .i64 i.index, .string i.text, .int .i64 i.set_.low, .int .i64 i.set_.high] 34 (0, 0)) := Zz (by simp)
 have hb2 : ((((w.alloc (.cells #[.int .i64 x.kind, .int .i64 x.aH, .int .i64 x.index, .string x.text, .int .i64 x.set_.low, .int .i64 x.set_.high] 34)).alloc (.cells #[.int .i64 i.kind, .int .i64 i.aH, .int .i64 i.index, .string i.text, .int .i64 i.set_.low, .int .i64 i.set_.high] 34)).alloc (.cells #[.int .i64 0, .int .i64 0, .int .i64 0, .string ⟨#[]⟩, .int .i64 0, .int .i64 0] 34)).alloc (.cells #[.int .i64 x.kind, .int .i64 x.aH, .int .i64 x.index, .string x.text, .int .i64 x.set_.low, .int .i64 x.set_.high, .int .i64 i.kind, .int .i64 i.aH, .int .i64 i.index, .string i.text, .int .i64 i.set_.low, .int .i64 i.set_.high] 34)).heap[w.heap.size + 2]? = some (.cells #[.int .i64 0, .int .i64 0, .int .i64 0, .string ⟨#[]⟩, .int .i64 0, .int .i64 0] 34 (0, 0)) := ((Za.refl (((w.alloc (.cells #[.int .i64 x.kind, .int .i64 x.aH, .int .i64 x.index, .string x.text, .int .i64 x.set_.low, .int .i64 x.set_.high] 34)).alloc (.cells #[.int .i64 i.kind, .int .i64 i.aH, .int .i64 i.index, .string i.text, .int .i64 i.set_.low, .int .i64 i.set_.high] 34)).alloc (.cells #[.int .i64 0, .int .i64 0, .int .i64 0, .string ⟨#[]⟩, .int .i64 0, .int .i64 0] 34))).alloc (.cells #[.int .i64 x.kind, .int .i64 x.aH, .int .i64 x.index, .string x.text, .int .i64 x.set_.low, .int .i64 x.set_.high, .int .i64 i.kind, .int .i64 i.aH, .int .i64 i.index, .string i.text, .int .i64 i.set_.low, .int .i64 i.set_.high] 34)).block _ (by simp) |>.trans (Zz (by simp));have hBw := h.lt
 have HNF := zh h.nB;have hS : Za1 (fun b => F b ∧ b < w.heap.size) ((((w.alloc (.cells #[.int .i64 x.kind, .int .i64 x.aH, .int .i64 x.index, .string x.text, .int .i64 x.set_.low, .int .i64 x.set_.high] 34)).alloc (.cells #[.int .i64 i.kind, .int .i64 i.aH, .int .i64 i.index, .string i.text, .int .i64 i.set_.low, .int .i64 i.set_.high] 34)).alloc (.cells #[.int .i64 0, .int .i64 0, .int .i64 0, .string ⟨#[]⟩, .int .i64 0, .int .i64 0] 34)).alloc (.cells #[.int .i64 x.kind, .int .i64 x.aH, .int .i64 x.index, .string x.text, .int .i64 x.set_.low, .int .i64 x.set_.high, .int .i64 i.kind, .int .i64 i.aH, .int .i64 i.index, .string i.text, .int .i64 i.set_.low, .int .i64 i.set_.high] 34)) B r cs := h.trim.later hl;have hsz : ((((w.alloc (.cells #[.int .i64 x.kind, .int .i64 x.aH, .int .i64 x.index, .string x.text, .int .i64 x.set_.low, .int .i64 x.set_.high] 34)).alloc (.cells #[.int .i64 i.kind, .int .i64 i.aH, .int .i64 i.index, .string i.text, .int .i64 i.set_.low, .int .i64 i.set_.high] 34)).alloc (.cells #[.int .i64 0, .int .i64 0, .int .i64 0, .string ⟨#[]⟩, .int .i64 0, .int .i64 0] 34)).alloc (.cells #[.int .i64 x.kind, .int .i64 x.aH, .int .i64 x.index, .string x.text, .int .i64 x.set_.low, .int .i64 x.set_.high, .int .i64 i.kind, .int .i64 i.aH, .int .i64 i.index, .string i.text, .int .i64 i.set_.low, .int .i64 i.set_.high] 34)).heap.size = w.heap.size + 4 := by simp
 have HA := zh (Zi8 r B cs _ (fun y => y = w.heap.size + 3) ((((w.alloc (.cells #[.int .i64 x.kind, .int .i64 x.aH, .int .i64 x.index, .string x.text, .int .i64 x.set_.low, .int .i64 x.set_.high] 34)).alloc (.cells #[.int .i64 i.kind, .int .i64 i.aH, .int .i64 i.index, .string i.text, .int .i64 i.set_.low, .int .i64 i.set_.high] 34)).alloc (.cells #[.int .i64 0, .int .i64 0, .int .i64 0, .string ⟨#[]⟩, .int .i64 0, .int .i64 0] 34)).alloc (.cells #[.int .i64 x.kind, .int .i64 x.aH, .int .i64 x.index, .string x.text, .int .i64 x.set_.low, .int .i64 x.set_.high, .int .i64 i.kind, .int .i64 i.aH, .int .i64 i.index, .string i.text, .int .i64 i.set_.low, .int .i64 i.set_.high] 34)) ⟨8, 0, 0, [x, i], []⟩ [.int .i64 8, .int .i64 0, .int .i64 0, .slice (some ⟨w.heap.size + 3, 0, none⟩) 2 2, .slice none 0 0] hS
  ⟨fun y => if y = w.heap.size + 3 then 0 else 1, _, _, rfl, in8, in0, in0, (Zpv (G := fun y => y = w.heap.size + 3) hb4 rfl hx hi).keep Zc (fun y hy => ⟨hy, by show (if y = w.heap.size + 3 then 0 else 1) = 0; rw [if_pos hy]⟩) (Zg.refl _ _), Zae.nil _ _ _ _ _⟩
  (fun y hy hf => by have := hf.2; omega) (by omega) hm)
 have HB2 := zh hb2;have HL := zh hl;have HSZ := zh hsz;clear hb4 hb2 hS hsz h hx hi hl;go_enter Tryz.func94, Tryz.ntmps94;go_wp2_with fail;refine HA.o.mono ?_;rintro e w5 ⟨rfl, ⟨cs5, hS5⟩, hG5⟩;have hR : w5.heap[w.heap.size + 2]? = some (.cells #[.int .i64 0, .int .i64 0, .int .i64 0, .string ⟨#[]⟩, .int .i64 0, .int .i64 0] 34 (0, 0)) := (hG5.keep.same _ ⟨fun hf => by have := hf.2; omega, by omega⟩ (by rw [HSZ.o]; omega)).trans HB2.o;have z0 := cz6 hR;have fz0 := fz hR;have HS5 := zh hS5;have HG5 := zh hG5;have HW5 := zh (show w.heap.size + 4 ≤ w5.heap.size by have := hG5.keep.size; rw [HSZ.o] at this; exact this);clear hS5 hG5 hR;go_wp2_with fail;have hk := Z4 (F := fun y => y ≠ w.heap.size + 1 + 1) (B := w.heap.size + 1 + 1) (w := w5) (fun h => h rfl) [.int .i64 17, .int .i64 r.aA.length, .int .i64 0, .string ⟨#[]⟩, .int .i64 0, .int .i64 0] w5 0 (Zg.refl _ _);have hkB := Zbz (B := w.heap.size + 1 + 1) (k := B) (by omega) [.int .i64 17, .int .i64 r.aA.length, .int .i64 0, .string ⟨#[]⟩, .int .i64 0, .int .i64 0] w5 0;have hkL := Z7 (b := 0) (B := w.heap.size + 1 + 1) (Nat.zero_le _) [.int .i64 17, .int .i64 r.aA.length, .int .i64 0, .string ⟨#[]⟩, .int .i64 0, .int .i64 0] w5 0 (Below.refl 0 w5);simp only [Zm, Nat.zero_add, Nat.reduceAdd] at hk hkB hkL;refine bodyPost_ret (v := .agg #[.int .i64 17, .int .i64 r.aA.length, .int .i64 0, .string ⟨#[]⟩, .int .i64 0, .int .i64 0]) (by simp [results, Tryz.results94, go_sem, z0, fz0]) rfl ?_
 revert hk hkB hkL
 generalize World.setCell _ _ _ = w6
 intro hk hkB hkL;refine ⟨rfl, ⟨cs5, ?_⟩, ?_⟩
 ·exact HS5.o.keep (G := fun y => F y ∨ w.heap.size ≤ y) (fun y hy => by rcases hy with h | h | h <;> first | exact .inl h.1 | (right; omega) | (right; rw [HSZ.o] at h; omega)) (by rintro (h | h) <;> first | exact HNF.o h | omega) (hk.mono fun y hy e => by subst e; rcases hy with h | h | h <;> first | (have := h.2; omega) | omega | (rw [HSZ.o] at h; omega)) hkB
 ·exact ⟨⟨Nat.le_trans HL.o.size (Nat.le_trans HG5.o.keep.size hk.size), fun b hb hlt => (hk.same b (by omega) (by have := HW5.o; omega)).trans ((HG5.o.keep.same b ⟨fun hf => hb.1 hf.1, hb.2⟩ (by rw [HSZ.o]; omega)).trans (HL.o.block b hlt))⟩, ((Below.mono HL.o (Nat.zero_le _)).trans HG5.o.below).trans hkL⟩
set_option maxRecDepth 100000
set_option maxHeartbeats 4000000
theorem Zoa (n : Nat) (hn : n ≤ 200) (w : World) :
  Calls Tryz.prog 162 #[.int .i64 n, .int .u8 113] w fun e w' => ∃ t : ByteArray, t.size = n ∧ e = .returned (.string t) ∧ Za w w' := by
 obtain ⟨i0, hi0, hz0, hz1, hz2⟩ := info_parts Zgy;have HST0 := zh (Zdo.start w);go_enter Tryz.func162, Tryz.ntmps162;go_wp2_with fail
 go_loopw [5, 6] (fun v i wr => ∃ (o : List UInt8) (v' : Value), i = .int .i64 o.length ∧ v' = v ∧ o.length ≤ n ∧ Zdo w o v' wr) (fun _ i _ => n - (intOf i).toNat)
 case atStart => exact ⟨[], _, rfl, rfl, by simp, HST0.o⟩
 case round =>
  obtain ⟨o, v, rfl, rfl, hj, hst⟩ := hrel;have hsz := hst.bel.size;have HST := zh hst;clear hst
  by_cases hlt : o.length < n
  ·have t1 : decide ((o.length : Int) < n) = true := decide_eq_true (by omega)
   go_wp2_with (at_builtin; refine wpList_append_own _ rfl _ _ 22 rfl w.heap.size 5 i0 (.int .u8 0) 1 1 Tryz.underlying22 hi0 hz0 hz1 hz2 rfl (by decide) _ _ _ rfl (HST.o.row.alloc _) ⟨wr.heap.size, 0, none⟩ 1 1 [.int .u8 113] rfl rfl (cell_one_new _ _ _) (by simp [Value.oneCell']) (by unfold maxLen; omega) (by omega) (by simp; omega) ?_; intro v' w3 hown' hgrow hnil)
   have hst3 := HST.o.push 113 113 rfl hown' hgrow hnil
   go_roundw
   case rel => exact ⟨o ++ [113], _, by simp, rfl, by simp; omega, hst3⟩
   case measure => simp [intOf]; omega
  ·have t1 : decide ((o.length : Int) < n) = false := decide_eq_false (by omega);obtain ⟨g1, cap1, hv⟩ := HST.o.form;subst hv;have e2 := HST.o.text;go_wp2_with fail;go_ret;exact ⟨⟨o.toArray⟩, by show o.toArray.size = n; simp; omega, rfl, HST.o.bel⟩
def Zsp (n : Nat) (v : Value) : Prop := ∃ t : ByteArray, t.size ≤ n ∧ v = .string t
theorem Zio (C : Nat) (w : World) (hcur : Cur C w) : Calls Tryz.prog 137 #[.pointer (some ⟨C, 0, none⟩)] w (Zi3 C (Zsp 121) w) := by
 have HCUR := zh hcur;have hlt := hcur.lt;clear hcur;go_enter Tryz.func137, Tryz.ntmps137;go_wp2_with fail;refine (Zc9 C _ (HCUR.o.later ((Za.refl _).alloc _)) (fun t => t.size ≤ 12) [⟨#[]⟩, ⟨#[97]⟩, ⟨#[98]⟩, ⟨#[97, 98]⟩, ⟨#[97, 98, 99]⟩, ⟨#[98, 97, 110, 97, 110, 97]⟩, ⟨#[104, 101, 108, 108, 111, 44, 32, 119, 111, 114, 108, 100]⟩, ⟨#[97, 44, 98, 44, 44, 99]⟩, ⟨#[49, 43, 50, 42, 51]⟩, ⟨#[40, 40, 41, 41]⟩, ⟨#[32, 120, 32]⟩, ⟨#[114, 97, 99, 101, 99, 97, 114]⟩] (by simp) (by simp) w.heap.size (heap_alloc_new _ _) (by omega) (by decide)).mono ?_;rintro e w2 ⟨_, ⟨t, ht, rfl⟩, rfl, hc2, hd2⟩;have HD2 := zh (Tch.fl ((Za.refl w).alloc _) hd2);clear hd2 HCUR;go_wp2_with fail;refine (Zci C _ hc2 12 (by omega)).mono ?_;rintro e w3 ⟨_, ⟨b, rfl⟩, rfl, hc3, hd3⟩;have HD3 := zh (HD2.o.tr hd3);have HC3 := zh hc3;clear hc2 hd3 hc3 HD2
 cases b with
 | false =>
  go_wp2_with fail;go_ret;exact ⟨_, ⟨t, by omega, rfl⟩, rfl, HC3.o, HD3.o⟩
 | true =>
  go_wp2_with fail;refine (Z0 C _ HC3.o 4 (by omega)).mono ?_;rintro e w4 ⟨_, ⟨x, hx0, hx1, rfl⟩, rfl, hc4, hd4⟩;have HD4 := zh (HD3.o.tr hd4);have HC4 := zh hc4;clear hc4 hd4 HD3 HC3;obtain ⟨k, hk⟩ : ∃ k : Nat, 118 - (t.size : Int) + x = k := ⟨(118 - (t.size : Int) + x).toNat, by omega⟩;have hk2 : k ≤ 121 - t.size := by omega
  go_wp2_with fail;refine (Zoa k (by omega) w4).mono ?_;rintro e w5 ⟨u, hu, rfl, hl5⟩;go_wp2_with fail;go_ret;refine ⟨.string (t ++ u), ⟨t ++ u, ?_, rfl⟩, ?_, HC4.o.later hl5, HD4.o.la hl5⟩
  ·rw [ByteArray.size_append]; omega
  ·rfl
abbrev TCs : TypeId := 32
theorem Zg1 (x : Int) : Zs (IntKind.i64.wrap x) := by
 unfold Zs;rw [IntKind.wrap_i64]
 omega
theorem Zns (x y : Int) : Zs (bits .or .i64 x y) := Zg1 _
theorem Zk7 (x y : Int) : Zs (bits .xor .i64 x y) := Zg1 _
theorem Zhe (x y : Int) : Zs (bits .andNot .i64 x y) := Zg1 _
/-- Some set. -/
def Zsq (v : Value) : Prop := ∃ lo hi : Int, Zs lo ∧ Zs hi ∧ v = .agg #[.int .i64 lo, .int .i64 hi]
def Zmq (w : World) (e : Ending) (w' : World) : Prop := ∃ v, Zsq v ∧ e = .returned v ∧ Za w w'
def Znt (w : World) (e : Ending) (w' : World) : Prop := ∃ v, Zsq v ∧ e = .returned (.tuple #[v, .bool true]) ∧ Za w w'
theorem Zjn (x y b : Int) (w : World) (hx : Zs x) (hy : Zs y) (h0 : 0 ≤ b) (h1 : b < 128) :
  Calls Tryz.prog 173 #[.agg #[.int .i64 x, .int .i64 y], .int .u8 b] w (Zmq w) := by
 by_cases h2 : b < 64
 ·have t1 : decide (63 < b) = false := by simp; omega
  go_enter Tryz.func173, Tryz.ntmps173;go_wp2_with fail;exact bodyPost_ret (v := .agg #[.int .i64 (bits .or .i64 x (wrap64 (2 ^ b.toNat))), .int .i64 y]) (by simp [results, Tryz.results173, go_sem]) rfl ⟨_, ⟨_, _, Zns _ _, hy, rfl⟩, rfl, ((Below.refl _ _).alloc (Nat.le_refl _) _).alloc (by simp) _⟩
 ·have t1 : decide (63 < b) = true := by simp; omega
  go_enter Tryz.func173, Tryz.ntmps173;go_wp2_with fail;exact bodyPost_ret (v := .agg #[.int .i64 x, .int .i64 (bits .or .i64 y (wrap64 (2 ^ (b - 64).toNat)))]) (by simp [results, Tryz.results173, go_sem]) rfl ⟨_, ⟨_, _, hx, Zns _ _, rfl⟩, rfl, ((Below.refl _ _).alloc (Nat.le_refl _) _).alloc (by simp) _⟩
/-- A set that is being made, in block c. -/
def Zsm (w : World) (c : Nat) (wr : World) : Prop :=
 ∃ lo hi : Int, Zs lo ∧ Zs hi ∧ wr.heap[c]? = some (.cells #[.int .i64 lo, .int .i64 hi] TCs (0, 0)) ∧ wr.heap[w.heap.size]? = some (.cells #[.int .i64 0, .int .i64 0] TCs (0, 0)) ∧ Below w.heap.size w wr
theorem Zhf (s : ByteArray) (w : World) (hs : ∀ j (h : j < s.size), (s[j].toNat : Int) < 128) (hsz : s.size ≤ 1000) :
  Calls Tryz.prog 161 #[.string s] w (Znt w) := by
 have HS := zh hs;clear hs;go_enter Tryz.func161, Tryz.ntmps161;go_wp2_with fail
 go_loopw [5] (fun i wr => ∃ j : Nat, i = .int .i64 j ∧ j ≤ s.size ∧ Zsm w (w.heap.size + 1) wr) (fun i _ => s.size - (intOf i).toNat)
 case atStart => exact ⟨0, rfl, by omega, 0, 0, in0, in0, Zz (by simp), ((Za.refl _).alloc _).block _ (by simp) |>.trans (heap_alloc_new w _), ((Below.refl _ _).alloc (Nat.le_refl _) _).alloc (by simp) _⟩
 case round =>
  obtain ⟨j, rfl, hj, lo, hi, ilo, ihi, hbb, hba, hbel⟩ := hrel;have c0 := cz2 hbb;have z0 := cz2 hba;have f0 := fz hba
  by_cases hlt : j < s.size
  ·have hb := HS.o j hlt;have hb0 : (0 : Int) ≤ s[j].toNat := by omega
   have t1 : decide ((j : Int) < s.size) = true := by simp; omega
   have t2 : decide (127 < (s[j].toNat : Int)) = false := by simp; omega
   have HB := zh hbb;have HA := zh hba;have HL := zh (show Za w wr from hbel);clear hbb hba hbel c0 z0 f0;go_wp2_with fail;refine Zbb [4, 5] [] (by kernel_rfl) (fun W hW => ?_);have HLC := zh (Zmj hW);have HB2 := zB HLC HB;have HA2 := zB HLC HA;have HL2 := zh (HL.o.trans HLC.o);clear hW HLC HB HA HL;refine tU 0 18 (v := ?_) rfl rfl (fun x hx => ?_) ?_;rotate_left
   ·have hbx := (hx.block _ (Zb HB2.o)).trans HB2.o;have c0 := cz2 hbx
    go_simp;first|done|with_reducible rfl
   simp only [Act.put, nA, nB, nC];refine tU 1 19 (v := ?_) rfl rfl (fun x hx => ?_) ?_;rotate_left
   ·go_simp;first|done|with_reducible rfl
   simp only [Act.put, nA, nB, nC];refine tU 2 20 (v := ?_) rfl rfl (fun x hx => ?_) ?_;rotate_left
   ·go_simp;first|done|with_reducible rfl
   simp only [Act.put, nA, nB, nC];refine tU 3 21 (v := ?_) rfl rfl (fun x hx => ?_) ?_;rotate_left
   ·go_simp;first|done|with_reducible rfl|rw[if_neg (by omega)]|rw[if_pos (by omega)]
   simp only [Act.put, nA, nB, nC];refine Zbl [_, _] (by kernel_rfl) rfl rfl ?_;simp only [List.getElem_toArray, List.getElem_cons_succ, List.getElem_cons_zero];go_wp2_with fail;refine (Zjn _ _ _ _ ilo ihi (by omega) (by omega)).mono ?_;rintro e w2 ⟨_, ⟨lo2, hi2, ilo2, ihi2, rfl⟩, rfl, hb2⟩;have hbx := (hb2.block _ (Zb HB2.o)).trans HB2.o;have c0 := cz2 hbx;have f0 := fz hbx;have HBX := zh hbx;have HAX := zC hb2 HA2;have HLX := zh (HL2.o.trans hb2);clear hbx hb2 HB2 HA2 HL2;go_wp2_with fail
   go_roundw
   case rel =>
    refine ⟨j + 1, by simp, by omega, lo2, hi2, ilo2, ihi2, ?_, ?_, (HLX.o.setCell (by simp) _).setCell (by simp) _⟩
    ·have := Zaj (o := 1) (Zaj (o := 0) HBX.o (.int .i64 lo2)) (.int .i64 hi2)
     simpa using this
    ·exact (Below.heap_setCell _ _ _ _ (by show w.heap.size ≠ w.heap.size + 1; omega)).trans ((Below.heap_setCell _ _ _ _ (by show w.heap.size ≠ w.heap.size + 1; omega)).trans HAX.o)
   case measure => simp [intOf]; omega
  ·have t1 : decide ((j : Int) < s.size) = false := by simp; omega
   have HL := zh (show Za w wr from hbel);have HB := zh hbb;have HA := zh hba;clear hbb hba hbel;go_wp2_with fail;exact bodyPost_ret (v := .tuple #[.agg #[.int .i64 lo, .int .i64 hi], .bool true]) (by simp [results, Tryz.results161, go_sem, z0, f0]) rfl ⟨_, ⟨lo, hi, ilo, ihi, rfl⟩, rfl, (HL.o.setCell (by simp) _).setCell (by simp) _⟩
/-- 'string([]byte{b})' of a block that was just made. -/
theorem Zip (w : World) (x : Int) :
  (convert 22 9 (.slice (some ⟨w.heap.size, 0, none⟩) 1 1)).run Tryz.prog (w.alloc (.cells #[.int .u8 x] 5)) = .ok (.string (Zfk [x])) (w.alloc (.cells #[.int .u8 x] 5)) :=
 Zez (base := 0) (ns := [x]) rfl ⟨by simp, .inr ⟨w.heap.size, 1, #[.int .u8 x], rfl, Nat.zero_le _, heap_alloc_new w _, Nat.le_refl _, by unfold maxLen; omega, rfl, by simp⟩⟩
theorem Zrt (x : Int) (s : ByteArray) : (Zfk [x] ++ s).data.toList = UInt8.ofNat x.toNat :: s.data.toList := by
 simp [Zfk]
theorem Zjo {N : Nat} {m x : Int} {s : ByteArray} (hm : m ≠ 0) (h : dg N = dg m.natAbs ++ s.data.toList) (hx : x = 48 + ((m.natAbs % 10 : Nat) : Int)) :
  dg N = dg (m.tdiv 10).natAbs ++ (Zfk [x] ++ s).data.toList := by
 rw [Zrt, hx];have : (48 + ((m.natAbs % 10 : Nat) : Int)).toNat = 48 + m.natAbs % 10 := by omega
 rw [this];exact Zpk N m _ hm h
theorem Znu {a b : ByteArray} (h : a.data.toList = b.data.toList) : a = b := by
 cases a; cases b; simp at h; simp [h]
theorem Zge (n : Int) (w : World) (h0 : -9223372036854775808 ≤ n) (h1 : n ≤ 9223372036854775807) :
  Calls Tryz.prog 144 #[.int .i64 n] w fun e w' => e = .returned (.string ⟨(Lib.itoa n).toArray⟩) ∧ Below w.heap.size w w' := by
 by_cases hz : n = 0
 ·subst hz;have hr : (⟨(Lib.itoa 0).toArray⟩ : ByteArray) = ⟨#[48]⟩ := by rw [Zji]
  rw [hr];go_enter Tryz.func144, Tryz.ntmps144
  go_wp2
  go_ret;exact ⟨rfl, Below.refl _ _⟩
 ·have hzb : (n == 0) = false := by simpa using hz
  have hit := zh (Zia n hz);have hlen := Zpi n h0 h1;have hcv := Zip;clear hz
  rcases Int.lt_or_le n 0 with hneg | hpos
  all_goals
   go_enter Tryz.func144, Tryz.ntmps144
   go_wp2
   go_loopw [0, 4] (fun m out wr => ∃ (m' : Int) (s : ByteArray), m = .int .i64 m' ∧ out = .string s ∧ -9223372036854775808 ≤ m' ∧ m' ≤ 9223372036854775807 ∧ Hd (dg n.natAbs = dg m'.natAbs ++ s.data.toList) ∧ Below w.heap.size w wr) (fun m _ _ => (intOf m).natAbs)
   case atStart => exact ⟨n, _, rfl, rfl, h0, h1, zh (by simp), Below.refl _ _⟩
   case round =>
    obtain ⟨m, s, rfl, rfl, hm0, hm1, hdg, hbel⟩ := hrel;have hsz := hbel.size;have hsl : s.size ≤ 20 := by
     have := congrArg List.length hdg.o;simp at this;have e : s.size = s.data.size := rfl
     omega
    have hss : ∀ x : Int, (Zfk [x]).size = 1 := fun _ => rfl
    by_cases hmz : m = 0
    ·subst hmz
     go_wp2
     go_ret;refine ⟨?_, hbel⟩;have e1 : dg n.natAbs = s.data.toList := by simpa [dg] using hdg.o
     have e2 := hit.o;simp only [e1] at e2
     first
      | (rw [if_pos hneg] at e2; exact congrArg (fun b => Ending.returned (Value.string b)) (Znu (by simp [e2])))
      | (rw [if_neg (by omega)] at e2; exact congrArg (fun b => Ending.returned (Value.string b)) (Znu (by simp [e2])))
    ·have hmb : (m != 0) = true := by simpa using hmz
     obtain ⟨d, hd⟩ : ∃ d : Int, m.tmod 10 = d := ⟨_, rfl⟩;have ha : d.natAbs = m.natAbs % 10 := by rw [← hd, Int.natAbs_tmod]; rfl
     have hb : (m.tdiv 10).natAbs = m.natAbs / 10 := by rw [Int.natAbs_tdiv]; rfl
     have hdlo : -10 < d := by omega
     have hdhi : d < 10 := by omega
     have hq1 : -9223372036854775808 ≤ m.tdiv 10 := by omega
     have hq2 : m.tdiv 10 ≤ 9223372036854775807 := by omega
     have hq3 : (m.tdiv 10).natAbs < m.natAbs := by omega
     rcases Int.lt_or_le d 0 with hdn | hdp
     ·have hx : (48 + (-d)) = 48 + ((m.natAbs % 10 : Nat) : Int) := by omega
      have HR := zh (Zjo hmz hdg.o hx);clear hx hmz ha hb
      go_wp2
      go_roundw
      case rel => exact ⟨_, _, rfl, rfl, hq1, hq2, HR, hbel.alloc hsz _⟩
      case measure => exact hq3
     ·have hx : (48 + d) = 48 + ((m.natAbs % 10 : Nat) : Int) := by omega
      have HR := zh (Zjo hmz hdg.o hx);clear hx hmz ha hb
      go_wp2
      go_roundw
      case rel => exact ⟨_, _, rfl, rfl, hq1, hq2, HR, hbel.alloc hsz _⟩
      case measure => exact hq3
/-! ### What both compute -/
/-- A aH that was read, or none. -/
def Zdb : Option Int → Value
 | some n => .tuple #[.int .i64 n, .bool true]
 | none => .tuple #[.int .i64 0, .bool false]
def Zbc (s : ByteArray) (i : Nat) : Nat := if h : i < s.size then s[i].toNat else 0
theorem Zdm {s : ByteArray} {i : Nat} (h : i < s.size) {c : Int} (hc : (s[i].toNat : Int) = c) : (Zbc s i : Int) = c := by unfold Zbc; rw [dif_pos h]; exact hc
def aUp (s : ByteArray) : Nat → Nat → Nat
 | 0, a => a
 | f + 1, a => if a < s.size ∧ Zbc s a = 32 then aUp s f (a + 1) else a
def zDn (s : ByteArray) (a : Nat) : Nat → Nat
 | 0 => 0
 | z + 1 => if a < z + 1 ∧ Zbc s z = 32 then zDn s a z else z + 1
def dgs (s : ByteArray) (z : Nat) : Nat → Nat → Nat → Option Nat
 | 0, _, n => some n
 | f + 1, a, n => if Zbc s a < 48 ∨ 57 < Zbc s a then none else dgs s z f (a + 1) (n * 10 + (Zbc s a - 48))
def Zcf (s : ByteArray) (z a : Nat) (minus : Bool) : Option Int :=
 if z - a < 1 ∨ 12 < z - a then none else (dgs s z (z - a) a 0).map fun n => if minus then -(n : Int) else n
def Ziq (s : ByteArray) (a z : Nat) : Option Int :=
 if a < z ∧ Zbc s a = 43 then Zcf s z (a + 1) false else if a < z ∧ Zbc s a = 45 then Zcf s z (a + 1) true else Zcf s z a false
def iot (s : ByteArray) : Option Int := Ziq s (aUp s s.size 0) (zDn s (aUp s s.size 0) s.size)
theorem Zpx (s : ByteArray) : ∀ (f a : Nat), a ≤ s.size → aUp s f a ≤ s.size
 | 0, a, h => h
 | f + 1, a, h => by
  simp only [aUp]
  split
  ·exact Zpx s f (a + 1) (by omega)
  ·exact h
theorem Zpy (s : ByteArray) (a : Nat) : ∀ z, zDn s a z ≤ z
 | 0 => Nat.le_refl _
 | z + 1 => by
  simp only [zDn]
  split
  ·have := Zpy s a z; omega
  ·omega
theorem Zpz (s : ByteArray) (a : Nat) : ∀ z, a ≤ z → a ≤ zDn s a z
 | 0, h => h
 | z + 1, h => by
  simp only [zDn]
  split
  ·exact Zpz s a z (by omega)
  ·exact h
theorem Zss {s : ByteArray} {j A : Nat} (hj : j < s.size) (h : Zbc s j = 32) (hA : aUp s (s.size - j) j = A) : aUp s (s.size - (j + 1)) (j + 1) = A := by
 rw [show s.size - j = (s.size - (j + 1)) + 1 by omega] at hA;simp only [aUp] at hA
 rwa [if_pos ⟨hj, h⟩] at hA
theorem Zk8 {s : ByteArray} {j A : Nat} (h : ¬ (j < s.size ∧ Zbc s j = 32)) (hA : aUp s (s.size - j) j = A) : j = A := by
 rcases hf : s.size - j with _ | f
 ·rw [hf] at hA; exact hA
 ·rw [hf] at hA;simp only [aUp] at hA
  rwa [if_neg h] at hA
theorem Zst {s : ByteArray} {a j Z : Nat} (hj : a < j + 1) (h : Zbc s j = 32) (hZ : zDn s a (j + 1) = Z) : zDn s a j = Z := by
 simp only [zDn] at hZ
 rwa [if_pos ⟨hj, h⟩] at hZ
theorem Zp0 {s : ByteArray} {a j Z : Nat} (h : ¬ (Zbc s j = 32)) (hZ : zDn s a (j + 1) = Z) : j + 1 = Z := by
 simp only [zDn] at hZ
 rwa [if_neg (fun h' => h h'.2)] at hZ
theorem Zru {s : ByteArray} {a j Z : Nat} (h : ¬ a < j) (hZ : zDn s a j = Z) : j = Z := by
 cases j with
 | zero => exact hZ
 | succ j =>
  simp only [zDn] at hZ
  rwa [if_neg (fun h' => h h'.1)] at hZ
theorem Zj4 {s : ByteArray} {j m Z : Nat} {D : Option Nat} (hj : j < Z) (h : Zbc s j < 48 ∨ 57 < Zbc s j) (hD : dgs s Z (Z - j) j m = D) : D = none := by
 rw [show Z - j = (Z - (j + 1)) + 1 by omega] at hD;simp only [dgs] at hD;rw [if_pos h] at hD;exact hD.symm
theorem Zms {s : ByteArray} {j m Z : Nat} {D : Option Nat} (hj : j < Z) (h : ¬ (Zbc s j < 48 ∨ 57 < Zbc s j)) (hD : dgs s Z (Z - j) j m = D) : dgs s Z (Z - (j + 1)) (j + 1) (m * 10 + (Zbc s j - 48)) = D := by
 rw [show Z - j = (Z - (j + 1)) + 1 by omega] at hD;simp only [dgs] at hD
 rwa [if_neg h] at hD
theorem Zj5 {s : ByteArray} {m Z : Nat} {D : Option Nat} (hD : dgs s Z (Z - Z) Z m = D) : D = some m := by
 rw [Nat.sub_self] at hD;exact hD.symm
theorem Znv {m k : Nat} (h : m < 10 ^ k) (hk : k ≤ 12) : m < 1000000000000 := by
 have : 10 ^ k ≤ 10 ^ 12 := Nat.pow_le_pow_right (by decide) hk
 omega
theorem Zgf {m k d : Nat} (h : m < 10 ^ k) (hd : d ≤ 9) : m * 10 + d < 10 ^ (k + 1) := by rw [Nat.pow_succ]; omega
theorem Zob {s : ByteArray} {n : Int} (h : iot s = some n) : -1000000000000 < n ∧ n < 1000000000000 := by
 have dg : ∀ (f a m k : Nat) (Z r : Nat), m < 10 ^ k → k + f ≤ 12 → dgs s Z f a m = some r → r < 1000000000000 := by
  intro f
  induction f with
  | zero => intro a m k Z r hm hk h; have h' : some m = some r := h; cases h'; exact Znv hm (by omega)
  | succ f ih =>
   intro a m k Z r hm hk h;simp only [dgs] at h
   split at h
   ·cases h
   ·exact ih _ _ (k + 1) Z r (Zgf hm (by omega)) (by omega) h
 have en : ∀ (z a : Nat) (b : Bool), Zcf s z a b = some n → -1000000000000 < n ∧ n < 1000000000000 := by
  intro z a b h;unfold Zcf at h
  split at h
  ·cases h
  ·cases hd : dgs s z (z - a) a 0 with
   | none => rw [hd] at h; cases h
   | some r =>
    rw [hd] at h;have := dg _ _ 0 0 z r (by decide) (by omega) hd;have h' : (if b = true then -(r : Int) else (r : Int)) = n := Option.some.inj h;rw [← h']
    split <;> omega
 unfold iot Ziq at h
 split at h
 ·exact en _ _ _ h
 ·split at h <;> exact en _ _ _ h
theorem Zer (s : ByteArray) (w : World) (hs : s.size ≤ maxLen) :
  Calls Tryz.prog 160 #[.string s] w fun e w' => e = .returned (Zdb (iot s)) ∧ w' = w := by
 unfold maxLen at hs;obtain ⟨A, hA⟩ : ∃ A, aUp s s.size 0 = A := ⟨_, rfl⟩;obtain ⟨Z, hZ⟩ : ∃ Z, zDn s A s.size = Z := ⟨_, rfl⟩;have hA1 : A ≤ s.size := by rw [← hA]; exact Zpx s _ _ (Nat.zero_le _)
 have hAZ : A ≤ Z := by rw [← hZ]; exact Zpz s A _ hA1
 have hZ1 : Z ≤ s.size := by rw [← hZ]; exact Zpy s A _
 obtain ⟨R, hR⟩ : ∃ R, iot s = R := ⟨_, rfl⟩;rw [hR];have HR := zh (show R = Ziq s A Z by rw [← hR]; unfold iot; rw [hA, hZ]);have HA := zh hA;have HZ := zh hZ;clear hA hZ hR;go_enter Tryz.func160, Tryz.ntmps160
 go_upto_block 0 with (fail)
 go_cut [4] (fun a wr => a = .int .i64 (A : Int) ∧ w = wr)
 case first =>
  go_wp2_with fail
  go_loopw [4] (fun a wr => ∃ j : Nat, a = .int .i64 j ∧ j ≤ s.size ∧ Hd (aUp s (s.size - j) j = A) ∧ w = wr) (fun a _ => s.size - (intOf a).toNat)
  case atStart => exact ⟨0, rfl, Nat.zero_le _, HA, rfl⟩
  case round =>
   obtain ⟨j, rfl, hj, HJ, hw⟩ := hrel;subst hw
   by_cases hlt : j < s.size
   ·have hlt' : (j : Int) < s.size := by omega
    obtain ⟨c, hc⟩ : ∃ c : Int, (s[j].toNat : Int) = c := ⟨_, rfl⟩;have hcb : 0 ≤ c ∧ c < 256 := by have := s[j].toNat_lt; omega
    have HAT := zh (Zdm hlt hc)
    by_cases h32 : c = 32
    ·have t1 : (c == 32) = true := by simp [h32]
     have HN := zh (Zss hlt (by have := HAT.o; omega) HJ.o);go_wp2_with fail
     go_roundw
     case rel => exact ⟨j + 1, by go_num, by omega, HN, by trivial⟩
     case measure => simp [intOf] <;> omega
    ·have t1 : (c == 32) = false := by simp [h32]
     have hjA : j = A := Zk8 (by have := HAT.o; omega) HJ.o;subst hjA;go_wp2_with fail
     go_meet
     exact ⟨rfl, rfl⟩
   ·have hjA : j = A := Zk8 (by omega) HJ.o;subst hjA;go_wp2_with fail
    go_meet
    exact ⟨rfl, rfl⟩
 case rest =>
 obtain ⟨rfl, hw⟩ := hcut;subst hw
 go_upto_block 2 with (fail)
 go_cut [5] (fun z wr => z = .int .i64 (Z : Int) ∧ w = wr)
 case first =>
  go_wp2_with fail
  go_loopw [5] (fun z wr => ∃ j : Nat, z = .int .i64 j ∧ A ≤ j ∧ j ≤ s.size ∧ Hd (zDn s A j = Z) ∧ w = wr) (fun z _ => (intOf z).toNat)
  case atStart => exact ⟨s.size, rfl, hA1, Nat.le_refl _, HZ, rfl⟩
  case round =>
   obtain ⟨j, rfl, hAj, hj, HJ, hw⟩ := hrel;subst hw
   by_cases hlt : A < j
   ·obtain ⟨i, rfl⟩ : ∃ i, j = i + 1 := ⟨j - 1, by omega⟩;have hi : i < s.size := by omega
    have hi' : (i : Int) < s.size := by omega
    have hlt' : (A : Int) < ((i + 1 : Nat) : Int) := by omega
    have hlt2 : (A : Int) < (i : Int) + 1 := by omega
    obtain ⟨c, hc⟩ : ∃ c : Int, (s[i].toNat : Int) = c := ⟨_, rfl⟩;have hcb : 0 ≤ c ∧ c < 256 := by have := s[i].toNat_lt; omega
    have HAT := zh (Zdm hi hc)
    by_cases h32 : c = 32
    ·have t1 : (c == 32) = true := by simp [h32]
     have HN := zh (Zst hlt (by have := HAT.o; omega) HJ.o);go_wp2_with fail
     go_roundw
     case rel => exact ⟨i, by go_num, by omega, by omega, HN, by trivial⟩
     case measure => simp [intOf] <;> omega
    ·have t1 : (c == 32) = false := by simp [h32]
     have hjA : i + 1 = Z := Zp0 (by have := HAT.o; omega) HJ.o;subst hjA;go_wp2_with fail
     go_meet
     exact ⟨by go_num, rfl⟩
   ·have hjA : j = Z := Zru hlt HJ.o;subst hjA;go_wp2_with fail
    go_meet
    exact ⟨rfl, rfl⟩
 case rest =>
 obtain ⟨rfl, hw⟩ := hcut;subst hw
 by_cases haz : A < Z
 ·have haz' : (A : Int) < Z := by omega
  have has : A < s.size := by omega
  have has' : (A : Int) < s.size := by omega
  obtain ⟨d, hdd⟩ : ∃ d : Int, (s[A].toNat : Int) = d := ⟨_, rfl⟩;have hdb : 0 ≤ d ∧ d < 256 := by have := s[A].toNat_lt; omega
  have HDT := zh (Zdm has hdd)
  by_cases h43 : d = 43
  ·have t2 : (d == 43) = true := by simp [h43]
   have t3 : (d == 45) = false := by simp [h43]
   have HR2 := zh (show R = Zcf s Z (A + 1) false from by rw [HR.o]; unfold Ziq; rw [if_pos ⟨haz, by have := HDT.o; omega⟩])
   by_cases hsh : Z - (A + 1) < 1
   ·have t8 : decide ((Z : Int) - ((A : Int) + 1) < 1) = true := decide_eq_true (by omega);have hR0 : R = none := by rw [HR2.o]; unfold Zcf; rw [if_pos (.inl hsh)]
    subst hR0;go_wp2_with fail
    go_ret2
    exact ⟨rfl, rfl⟩
   have t8 : decide ((Z : Int) - ((A : Int) + 1) < 1) = false := decide_eq_false (by omega)
   by_cases hlo : 12 < Z - (A + 1)
   ·have t9 : decide ((12 : Int) < (Z : Int) - ((A : Int) + 1)) = true := decide_eq_true (by omega);have hR0 : R = none := by rw [HR2.o]; unfold Zcf; rw [if_pos (.inr hlo)]
    subst hR0;go_wp2_with fail
    go_ret2
    exact ⟨rfl, rfl⟩
   have t9 : decide ((12 : Int) < (Z : Int) - ((A : Int) + 1)) = false := decide_eq_false (by omega);have HR3 := zh (show R = (dgs s Z (Z - (A + 1)) (A + 1) 0).map (fun n => if false then -(n : Int) else n) from by rw [HR2.o]; unfold Zcf; rw [if_neg (by omega)]);obtain ⟨D, hD⟩ : ∃ D, dgs s Z (Z - (A + 1)) (A + 1) 0 = D := ⟨_, rfl⟩;rw [hD] at HR3;have HD := zh hD;clear hD;go_wp2_with fail
   go_loopw [4, 7] (fun a n wr => ∃ j m : Nat, a = .int .i64 j ∧ n = .int .i64 m ∧ A + 1 ≤ j ∧ j ≤ Z ∧ Hd (m < 10 ^ (j - (A + 1))) ∧ Hd (dgs s Z (Z - j) j m = D) ∧ w = wr) (fun a _ _ => Z - (intOf a).toNat)
   case atStart => exact ⟨A + 1, 0, by go_num, rfl, Nat.le_refl _, by omega, zh (by simp), HD, rfl⟩
   case round =>
    obtain ⟨j, m, rfl, rfl, hBj, hjZ, HM, HJ, hw⟩ := hrel;subst hw;have hm12 : m < 1000000000000 := Znv HM.o (by omega)
    by_cases hlt : j < Z
    ·have hltZ : (j : Int) < Z := by omega
     have hlt' : (j : Int) < s.size := by omega
     have hjs : j < s.size := by omega
     obtain ⟨c, hc⟩ : ∃ c : Int, (s[j].toNat : Int) = c := ⟨_, rfl⟩;have hcb : 0 ≤ c ∧ c < 256 := by have := s[j].toNat_lt; omega
     have HAT := zh (Zdm hjs hc)
     by_cases hd : 48 ≤ c ∧ c ≤ 57
     ·have d1 : decide (c < 48) = false := decide_eq_false (by omega);have d2 : decide ((57 : Int) < c) = false := decide_eq_false (by omega);have HN := zh (Zms hlt (by have := HAT.o; omega) HJ.o);have HP := zh (Zgf (d := Zbc s j - 48) HM.o (by have := HAT.o; omega));have HE := zh (show ((m * 10 + (Zbc s j - 48) : Nat) : Int) = (m : Int) * 10 + (c - 48) from by have := HAT.o; omega);have hd0 := hd.1;have hd1 := hd.2;clear hd;go_wp2_with fail
      go_roundw
      case rel => exact ⟨j + 1, m * 10 + (Zbc s j - 48), by go_num, by first | (rw [HE.o]; done) | (rw [HE.o]; congr 1; omega), by omega, by omega, by rw [show j + 1 - (A + 1) = j - (A + 1) + 1 by omega]; exact HP, HN, by trivial⟩
      case measure => simp [intOf] <;> omega
     ·have hR0 : R = none := by rw [HR3.o, Zj4 hlt (by have := HAT.o; omega) HJ.o]; rfl
      subst hR0;have hdn : c < 48 ∨ (48 ≤ c ∧ 57 < c) := by omega
      clear hd
      rcases hdn with hdn | ⟨hdn, hdn'⟩
      ·have d1 : decide (c < 48) = true := decide_eq_true (by omega);go_wp2_with fail
       go_ret2
       exact ⟨rfl, rfl⟩
      ·have d1 : decide (c < 48) = false := decide_eq_false (by omega);have d2 : decide ((57 : Int) < c) = true := decide_eq_true (by omega);go_wp2_with fail
       go_ret2
       exact ⟨rfl, rfl⟩
    ·obtain rfl : j = Z := by omega
     have hR0 : R = some ((m : Int)) := by rw [HR3.o, Zj5 HJ.o]; rfl
     subst hR0;go_wp2_with fail
     go_ret2
     exact ⟨rfl, rfl⟩
  by_cases h45 : d = 45
  ·have t2 : (d == 43) = false := by simp [h45]
   have t3 : (d == 45) = true := by simp [h45]
   have HR2 := zh (show R = Zcf s Z (A + 1) true from by rw [HR.o]; unfold Ziq; rw [if_neg (by rintro ⟨_, h⟩; have := HDT.o; omega), if_pos ⟨haz, by have := HDT.o; omega⟩])
   by_cases hsh : Z - (A + 1) < 1
   ·have t8 : decide ((Z : Int) - ((A : Int) + 1) < 1) = true := decide_eq_true (by omega);have hR0 : R = none := by rw [HR2.o]; unfold Zcf; rw [if_pos (.inl hsh)]
    subst hR0;go_wp2_with fail
    go_ret2
    exact ⟨rfl, rfl⟩
   have t8 : decide ((Z : Int) - ((A : Int) + 1) < 1) = false := decide_eq_false (by omega)
   by_cases hlo : 12 < Z - (A + 1)
   ·have t9 : decide ((12 : Int) < (Z : Int) - ((A : Int) + 1)) = true := decide_eq_true (by omega);have hR0 : R = none := by rw [HR2.o]; unfold Zcf; rw [if_pos (.inr hlo)]
    subst hR0;go_wp2_with fail
    go_ret2
    exact ⟨rfl, rfl⟩
   have t9 : decide ((12 : Int) < (Z : Int) - ((A : Int) + 1)) = false := decide_eq_false (by omega);have HR3 := zh (show R = (dgs s Z (Z - (A + 1)) (A + 1) 0).map (fun n => if true then -(n : Int) else n) from by rw [HR2.o]; unfold Zcf; rw [if_neg (by omega)]);obtain ⟨D, hD⟩ : ∃ D, dgs s Z (Z - (A + 1)) (A + 1) 0 = D := ⟨_, rfl⟩;rw [hD] at HR3;have HD := zh hD;clear hD;go_wp2_with fail
   go_loopw [4, 7] (fun a n wr => ∃ j m : Nat, a = .int .i64 j ∧ n = .int .i64 m ∧ A + 1 ≤ j ∧ j ≤ Z ∧ Hd (m < 10 ^ (j - (A + 1))) ∧ Hd (dgs s Z (Z - j) j m = D) ∧ w = wr) (fun a _ _ => Z - (intOf a).toNat)
   case atStart => exact ⟨A + 1, 0, by go_num, rfl, Nat.le_refl _, by omega, zh (by simp), HD, rfl⟩
   case round =>
    obtain ⟨j, m, rfl, rfl, hBj, hjZ, HM, HJ, hw⟩ := hrel;subst hw;have hm12 : m < 1000000000000 := Znv HM.o (by omega)
    by_cases hlt : j < Z
    ·have hltZ : (j : Int) < Z := by omega
     have hlt' : (j : Int) < s.size := by omega
     have hjs : j < s.size := by omega
     obtain ⟨c, hc⟩ : ∃ c : Int, (s[j].toNat : Int) = c := ⟨_, rfl⟩;have hcb : 0 ≤ c ∧ c < 256 := by have := s[j].toNat_lt; omega
     have HAT := zh (Zdm hjs hc)
     by_cases hd : 48 ≤ c ∧ c ≤ 57
     ·have d1 : decide (c < 48) = false := decide_eq_false (by omega);have d2 : decide ((57 : Int) < c) = false := decide_eq_false (by omega);have HN := zh (Zms hlt (by have := HAT.o; omega) HJ.o);have HP := zh (Zgf (d := Zbc s j - 48) HM.o (by have := HAT.o; omega));have HE := zh (show ((m * 10 + (Zbc s j - 48) : Nat) : Int) = (m : Int) * 10 + (c - 48) from by have := HAT.o; omega);have hd0 := hd.1;have hd1 := hd.2;clear hd;go_wp2_with fail
      go_roundw
      case rel => exact ⟨j + 1, m * 10 + (Zbc s j - 48), by go_num, by first | (rw [HE.o]; done) | (rw [HE.o]; congr 1; omega), by omega, by omega, by rw [show j + 1 - (A + 1) = j - (A + 1) + 1 by omega]; exact HP, HN, by trivial⟩
      case measure => simp [intOf] <;> omega
     ·have hR0 : R = none := by rw [HR3.o, Zj4 hlt (by have := HAT.o; omega) HJ.o]; rfl
      subst hR0;have hdn : c < 48 ∨ (48 ≤ c ∧ 57 < c) := by omega
      clear hd
      rcases hdn with hdn | ⟨hdn, hdn'⟩
      ·have d1 : decide (c < 48) = true := decide_eq_true (by omega);go_wp2_with fail
       go_ret2
       exact ⟨rfl, rfl⟩
      ·have d1 : decide (c < 48) = false := decide_eq_false (by omega);have d2 : decide ((57 : Int) < c) = true := decide_eq_true (by omega);go_wp2_with fail
       go_ret2
       exact ⟨rfl, rfl⟩
    ·obtain rfl : j = Z := by omega
     have hR0 : R = some (-(m : Int)) := by rw [HR3.o, Zj5 HJ.o]; rfl
     subst hR0;go_wp2_with fail
     go_ret2
     exact ⟨rfl, rfl⟩
  have t2 : (d == 43) = false := by simp [h43]
  have t3 : (d == 45) = false := by simp [h45]
  have HR2 := zh (show R = Zcf s Z (A) false from by rw [HR.o]; unfold Ziq; rw [if_neg (by rintro ⟨_, h⟩; have := HDT.o; omega), if_neg (by rintro ⟨_, h⟩; have := HDT.o; omega)])
  by_cases hsh : Z - (A) < 1
  ·have t8 : decide ((Z : Int) - ((A : Int)) < 1) = true := decide_eq_true (by omega);have hR0 : R = none := by rw [HR2.o]; unfold Zcf; rw [if_pos (.inl hsh)]
   subst hR0;go_wp2_with fail
   go_ret2
   exact ⟨rfl, rfl⟩
  have t8 : decide ((Z : Int) - ((A : Int)) < 1) = false := decide_eq_false (by omega)
  by_cases hlo : 12 < Z - (A)
  ·have t9 : decide ((12 : Int) < (Z : Int) - ((A : Int))) = true := decide_eq_true (by omega);have hR0 : R = none := by rw [HR2.o]; unfold Zcf; rw [if_pos (.inr hlo)]
   subst hR0;go_wp2_with fail
   go_ret2
   exact ⟨rfl, rfl⟩
  have t9 : decide ((12 : Int) < (Z : Int) - ((A : Int))) = false := decide_eq_false (by omega);have HR3 := zh (show R = (dgs s Z (Z - (A)) (A) 0).map (fun n => if false then -(n : Int) else n) from by rw [HR2.o]; unfold Zcf; rw [if_neg (by omega)]);obtain ⟨D, hD⟩ : ∃ D, dgs s Z (Z - (A)) (A) 0 = D := ⟨_, rfl⟩;rw [hD] at HR3;have HD := zh hD;clear hD;go_wp2_with fail
  go_loopw [4, 7] (fun a n wr => ∃ j m : Nat, a = .int .i64 j ∧ n = .int .i64 m ∧ A ≤ j ∧ j ≤ Z ∧ Hd (m < 10 ^ (j - (A))) ∧ Hd (dgs s Z (Z - j) j m = D) ∧ w = wr) (fun a _ _ => Z - (intOf a).toNat)
  case atStart => exact ⟨A, 0, by go_num, rfl, Nat.le_refl _, by omega, zh (by simp), HD, rfl⟩
  case round =>
   obtain ⟨j, m, rfl, rfl, hBj, hjZ, HM, HJ, hw⟩ := hrel;subst hw;have hm12 : m < 1000000000000 := Znv HM.o (by omega)
   by_cases hlt : j < Z
   ·have hltZ : (j : Int) < Z := by omega
    have hlt' : (j : Int) < s.size := by omega
    have hjs : j < s.size := by omega
    obtain ⟨c, hc⟩ : ∃ c : Int, (s[j].toNat : Int) = c := ⟨_, rfl⟩;have hcb : 0 ≤ c ∧ c < 256 := by have := s[j].toNat_lt; omega
    have HAT := zh (Zdm hjs hc)
    by_cases hd : 48 ≤ c ∧ c ≤ 57
    ·have d1 : decide (c < 48) = false := decide_eq_false (by omega);have d2 : decide ((57 : Int) < c) = false := decide_eq_false (by omega);have HN := zh (Zms hlt (by have := HAT.o; omega) HJ.o);have HP := zh (Zgf (d := Zbc s j - 48) HM.o (by have := HAT.o; omega));have HE := zh (show ((m * 10 + (Zbc s j - 48) : Nat) : Int) = (m : Int) * 10 + (c - 48) from by have := HAT.o; omega);have hd0 := hd.1;have hd1 := hd.2;clear hd;go_wp2_with fail
     go_roundw
     case rel => exact ⟨j + 1, m * 10 + (Zbc s j - 48), by go_num, by first | (rw [HE.o]; done) | (rw [HE.o]; congr 1; omega), by omega, by omega, by rw [show j + 1 - (A) = j - (A) + 1 by omega]; exact HP, HN, by trivial⟩
     case measure => simp [intOf] <;> omega
    ·have hR0 : R = none := by rw [HR3.o, Zj4 hlt (by have := HAT.o; omega) HJ.o]; rfl
     subst hR0;have hdn : c < 48 ∨ (48 ≤ c ∧ 57 < c) := by omega
     clear hd
     rcases hdn with hdn | ⟨hdn, hdn'⟩
     ·have d1 : decide (c < 48) = true := decide_eq_true (by omega);go_wp2_with fail
      go_ret2
      exact ⟨rfl, rfl⟩
     ·have d1 : decide (c < 48) = false := decide_eq_false (by omega);have d2 : decide ((57 : Int) < c) = true := decide_eq_true (by omega);go_wp2_with fail
      go_ret2
      exact ⟨rfl, rfl⟩
   ·obtain rfl : j = Z := by omega
    have hR0 : R = some ((m : Int)) := by rw [HR3.o, Zj5 HJ.o]; rfl
    subst hR0;go_wp2_with fail
    go_ret2
    exact ⟨rfl, rfl⟩
 ·have haz' : ¬ (A : Int) < Z := by omega
  have hR0 : R = none := by
   rw [HR.o];unfold Ziq;rw [if_neg (fun h => haz h.1), if_neg (fun h => haz h.1)];unfold Zcf;rw [if_pos (.inl (by omega))]
  subst hR0;have t8 : decide ((Z : Int) - A < 1) = true := decide_eq_true (by omega);go_wp2_with fail
  go_ret2
  exact ⟨rfl, rfl⟩
end Go.Proofs.YtpmhelkiicigfaaGreatDoor
namespace Go.Proofs.YtpmhelkiicigfaaGreatDoor
open Go.RowKit
end Go.Proofs.YtpmhelkiicigfaaGreatDoor
namespace Go.Proofs.YtpmhelkiicigfaaGreatDoor
open Go.RowKit
/-- The table of powers of ten. -/
def Pw (w : World) : Prop := Lib.TabIs Tryz.prog w "internal/strconv.uint64pow10" .u64 Lib.pow10Tab
theorem Zsu : Tryz.prog.globalNamed "internal/strconv.uint64pow10" = some 2 := by kernel_rfl
theorem Pw.below {w w' : World} (h : Pw w) (hb : Below w.heap.size w w') : Pw w' :=
 var?_below hb Zsu (World.block_lt_of_cell? w _ (h.cell Zsu 0 (by decide +kernel))) h
theorem Zgg (n : Int) (w : World) (hn : Zs n) (ht : Pw w) :
  Calls Tryz.prog 141 #[.int .i64 n] w fun e w' => e = .returned (.string ⟨(Lib.itoa n).toArray⟩) ∧ Below w.heap.size w w' := by
 go_enter Tryz.func141, Tryz.ntmps141
 go_wp2_with (go_at_call 168; refine (Tryz.strconv_Itoa n hn.1 hn.2 w ht).mono ?_; rintro e w' ⟨rfl, k, os, rfl⟩)
 go_ret;exact ⟨rfl, Lib.below_grow _ _ (Nat.le_refl _) _ _⟩
/-! ### What they compute -/
def Zp1 (n : Int) : ByteArray := ⟨(Lib.itoa n).toArray⟩
theorem Zir {n : Int} (h : Zs n) : (Zp1 n).size ≤ 21 := by
 have := Zpj n h.1 h.2
 simpa [Zp1, ByteArray.size] using this
def csT (c : Znh) : ByteArray := ⟨(Zbf c.low c.high 128).toArray⟩
theorem Zgh (c : Znh) : (csT c).size ≤ 128 := by
 have := Zey c.low c.high 128
 simpa [csT, ByteArray.size] using this
def Zbt (v : Ze) : Option ByteArray :=
 if v.kind = 1 then some (Zp1 v.aH) else if v.kind = 2 then some v.text else if v.kind = 3 then (if 120 < (csT v.set_).size then none else some (csT v.set_)) else none
def Zd0 : Option ByteArray → Value
 | some t => .tuple #[.string t, .bool true]
 | none => .tuple #[.string ⟨#[]⟩, .bool false]
def Zd8 (v : Ze) : Option Int := if v.kind = 1 then some v.aH else (Zbt v).bind iot
theorem Zft {v : Ze} (hn : Zs v.aH) (ht : v.text.size ≤ maxLen) {t : ByteArray} (h : Zbt v = some t) : t.size ≤ maxLen := by
 unfold Zbt at h
 split at h
 ·cases h; have := Zir hn; unfold maxLen; omega
 ·split at h
  ·cases h; exact ht
  ·split at h
   ·split at h
    ·cases h
    ·cases h; unfold maxLen; omega
   ·cases h
theorem Ze4 {v : Ze} (hn : Zs v.aH) {n : Int} (h : Zd8 v = some n) : Zs n := by
 unfold Zd8 at h
 split at h
 ·cases h; exact hn
 ·cases ht : Zbt v with
  | none => rw [ht] at h; cases h
  | some t => rw [ht] at h; have := Zob h; unfold Zs; omega
def plc (i n : Int) : Int := if 1 ≤ i ∧ i ≤ n then i - 1 else if i ≤ -1 ∧ -n ≤ i then n + i else -1
theorem Zg2 {i n : Int} (hn : 0 ≤ n) : -1 ≤ plc i n ∧ (plc i n < 0 ∨ plc i n < n) := by unfold plc; split <;> (try split) <;> omega
theorem Zck (v : Ze) (cs : List Value) (F : Nat → Prop) (w : World) (h : Zd F w v cs) (ht : Pw w) :
  Calls Tryz.prog 92 #[.agg cs.toArray] w fun e w' => e = .returned (Zd0 (Zbt v)) ∧ Below w.heap.size w w' := by
 obtain ⟨rfl, _, hn, _, htx, _, _⟩ := h;have HB := zh ((Below.refl w.heap.size w).alloc (Nat.le_refl _) (.cells #[.int .i64 v.kind, .int .i64 v.aH, .int .i64 v.index, .string v.text, .int .i64 v.set_.low, .int .i64 v.set_.high] 34));obtain ⟨R, hR⟩ : ∃ R, Zbt v = R := ⟨_, rfl⟩;rw [hR];unfold Zbt at hR
 by_cases k1 : v.kind = 1
 ·rw [if_pos k1] at hR;subst hR;have t1 : (v.kind == 1) = true := by simp [k1]
  clear k1;go_enter Tryz.func92, Tryz.ntmps92;go_wp2_with fail;refine (Zgg v.aH _ hn (ht.below HB.o)).mono ?_;rintro e w2 ⟨rfl, hb2⟩;have HB2 := zh (HB.o.trans (Below.mono hb2 HB.o.size));clear hb2;go_wp2_with fail
  go_ret2
  exact ⟨rfl, HB2.o⟩
 rw [if_neg k1] at hR;have t1 : (v.kind == 1) = false := by simp [k1]
 by_cases k2 : v.kind = 2
 ·rw [if_pos k2] at hR;subst hR;have t2 : (v.kind == 2) = true := by simp [k2]
  clear k1 k2;go_enter Tryz.func92, Tryz.ntmps92;go_wp2_with fail
  go_ret2
  exact ⟨rfl, HB.o⟩
 rw [if_neg k2] at hR;have t2 : (v.kind == 2) = false := by simp [k2]
 by_cases k3 : v.kind = 3
 ·rw [if_pos k3] at hR;have t3 : (v.kind == 3) = true := by simp [k3]
  clear k1 k2 k3;have HCT := zh (fun w => Zd4 v.set_.low v.set_.high w);obtain ⟨t, hT⟩ : ∃ t, csT v.set_ = t := ⟨_, rfl⟩;have hts := Zgh v.set_;rw [hT] at hR hts;have HT := zh (show (⟨(Zbf v.set_.low v.set_.high 128).toArray⟩ : ByteArray) = t from hT);clear hT
  by_cases hbig : 120 < t.size
  ·rw [if_pos hbig] at hR;subst hR;have t4 : decide ((120 : Int) < t.size) = true := decide_eq_true (by omega);have t5 : decide ((t.size : Int) ≤ 120) = false := decide_eq_false (by omega);go_enter Tryz.func92, Tryz.ntmps92;go_wp2_with fail;refine (HCT.o _).mono ?_;rw [HT.o];rintro e w2 ⟨rfl, hb2⟩;have HB2 := zh (HB.o.trans (Below.mono hb2 HB.o.size));clear hb2;go_wp2_with fail
   go_ret2
   exact ⟨rfl, HB2.o⟩
  ·rw [if_neg hbig] at hR;subst hR;have t4 : decide ((120 : Int) < t.size) = false := decide_eq_false (by omega);have t5 : decide ((t.size : Int) ≤ 120) = true := decide_eq_true (by omega);go_enter Tryz.func92, Tryz.ntmps92;go_wp2_with fail;refine (HCT.o _).mono ?_;rw [HT.o];rintro e w2 ⟨rfl, hb2⟩;have HB2 := zh (HB.o.trans (Below.mono hb2 HB.o.size));clear hb2;go_wp2_with fail
   go_ret2
   exact ⟨rfl, HB2.o⟩
 ·rw [if_neg k3] at hR;subst hR;have t3 : (v.kind == 3) = false := by simp [k3]
  clear k1 k2;go_enter Tryz.func92, Tryz.ntmps92;go_wp2_with fail
  go_ret2
  exact ⟨rfl, HB.o⟩
theorem Zar (v : Ze) (cs : List Value) (F : Nat → Prop) (w : World) (h : Zd F w v cs) (ht : Pw w) :
  Calls Tryz.prog 128 #[.agg cs.toArray] w fun e w' => e = .returned (Zdb (Zd8 v)) ∧ Below w.heap.size w w' := by
 have HTT := zh (fun x (hl : Za w x) => Zck v cs F x (Zc.keep h (fun _ h => h) (Zg.later hl)) (ht.below hl));obtain ⟨rfl, _, hn, _, htx, _, _⟩ := h;have HB := zh ((Below.refl w.heap.size w).alloc (Nat.le_refl _) (.cells #[.int .i64 v.kind, .int .i64 v.aH, .int .i64 v.index, .string v.text, .int .i64 v.set_.low, .int .i64 v.set_.high] 34));have HSZ := zh (fun t => Zft hn htx (t := t));obtain ⟨R, hR⟩ : ∃ R, Zd8 v = R := ⟨_, rfl⟩;rw [hR];unfold Zd8 at hR
 by_cases k1 : v.kind = 1
 ·rw [if_pos k1] at hR;subst hR;have t1 : (v.kind == 1) = true := by simp [k1]
  clear k1;go_enter Tryz.func128, Tryz.ntmps128;go_wp2_with fail
  go_ret2
  exact ⟨rfl, HB.o⟩
 rw [if_neg k1] at hR;have t1 : (v.kind == 1) = false := by simp [k1]
 obtain ⟨X, hX⟩ : ∃ X, Zbt v = X := ⟨_, rfl⟩;rw [hX] at hR HTT HSZ;clear hX k1
 cases X with
 | none =>
  subst hR;go_enter Tryz.func128, Tryz.ntmps128;go_wp2_with fail;refine (HTT.o _ ((Za.refl w).alloc (.cells #[.int .i64 v.kind, .int .i64 v.aH, .int .i64 v.index, .string v.text, .int .i64 v.set_.low, .int .i64 v.set_.high] 34))).mono ?_;rintro e w2 ⟨rfl, hb2⟩;have HB2 := zh (HB.o.trans (Below.mono hb2 HB.o.size));clear hb2;simp only [Zd0];go_wp2_with fail
  go_ret2
  exact ⟨rfl, HB2.o⟩
 | some t =>
  have hts := HSZ.o t rfl;have HR := zh (show iot t = R from hR);clear hR;go_enter Tryz.func128, Tryz.ntmps128;go_wp2_with fail;refine (HTT.o _ ((Za.refl w).alloc (.cells #[.int .i64 v.kind, .int .i64 v.aH, .int .i64 v.index, .string v.text, .int .i64 v.set_.low, .int .i64 v.set_.high] 34))).mono ?_;rintro e w2 ⟨rfl, hb2⟩;have HB2 := zh (HB.o.trans (Below.mono hb2 HB.o.size));clear hb2;simp only [Zd0];go_wp2_with fail;refine (Zer t _ hts).mono ?_;rw [HR.o];rintro e w3 ⟨rfl, rfl⟩
  cases R with
  | none =>
   simp only [Zdb];go_wp2_with fail
   go_ret2
   exact ⟨rfl, HB2.o⟩
  | some n =>
   simp only [Zdb];go_wp2_with fail
   go_ret2
   exact ⟨rfl, HB2.o⟩
theorem Zce (i n : Int) (w : World) (hi : Zs i) (hn : 0 ≤ n) (hn1 : n ≤ 4611686018427387904) :
  Calls Tryz.prog 129 #[.int .i64 i, .int .i64 n] w fun e w' => e = .returned (.int .i64 (plc i n)) ∧ w' = w := by
 unfold Zs at hi;obtain ⟨R, hR⟩ : ∃ R, plc i n = R := ⟨_, rfl⟩;rw [hR];unfold plc at hR
 by_cases c1 : 1 ≤ i
 ·have t1 : decide (1 ≤ i) = true := decide_eq_true c1
  by_cases c2 : i ≤ n
  ·have t2 : decide (i ≤ n) = true := decide_eq_true c2;rw [if_pos ⟨c1, c2⟩] at hR;subst hR;go_enter Tryz.func129, Tryz.ntmps129;go_wp2_with fail;go_ret;exact ⟨rfl, rfl⟩
  ·have t2 : decide (i ≤ n) = false := decide_eq_false c2;have t3 : decide (i ≤ -1) = false := decide_eq_false (by omega);rw [if_neg (fun h => c2 h.2), if_neg (by omega)] at hR;subst hR;go_enter Tryz.func129, Tryz.ntmps129;go_wp2_with fail;go_ret;exact ⟨rfl, rfl⟩
 ·have t1 : decide (1 ≤ i) = false := decide_eq_false c1;rw [if_neg (fun h => c1 h.1)] at hR
  by_cases c3 : i ≤ -1
  ·have t3 : decide (i ≤ -1) = true := decide_eq_true c3
   by_cases c4 : -n ≤ i
   ·have t4 : decide (-n ≤ i) = true := decide_eq_true c4;rw [if_pos ⟨c3, c4⟩] at hR;subst hR;go_enter Tryz.func129, Tryz.ntmps129;go_wp2_with fail;go_ret;exact ⟨rfl, rfl⟩
   ·have t4 : decide (-n ≤ i) = false := decide_eq_false c4;rw [if_neg (fun h => c4 h.2)] at hR;subst hR;go_enter Tryz.func129, Tryz.ntmps129;go_wp2_with fail;go_ret;exact ⟨rfl, rfl⟩
  ·have t3 : decide (i ≤ -1) = false := decide_eq_false c3;rw [if_neg (fun h => c3 h.1)] at hR;subst hR;go_enter Tryz.func129, Tryz.ntmps129;go_wp2_with fail;go_ret;exact ⟨rfl, rfl⟩
theorem Ze5 (v : Ze) (cs : List Value) (F : Nat → Prop) (w : World) (h : Zd F w v cs) :
  Calls Tryz.prog 96 #[.agg cs.toArray] w fun e w' => e = .returned (Zd0 (Zbt v)) ∧ Below w.heap.size w w' := by
 obtain ⟨rfl, _, hn, _, htx, _, _⟩ := h;have HB := zh ((Below.refl w.heap.size w).alloc (Nat.le_refl _) (.cells #[.int .i64 v.kind, .int .i64 v.aH, .int .i64 v.index, .string v.text, .int .i64 v.set_.low, .int .i64 v.set_.high] 34));obtain ⟨R, hR⟩ : ∃ R, Zbt v = R := ⟨_, rfl⟩;rw [hR];unfold Zbt at hR
 by_cases k1 : v.kind = 1
 ·rw [if_pos k1] at hR;subst hR;have t1 : (v.kind == 1) = true := by simp [k1]
  clear k1;go_enter Tryz.func96, Tryz.ntmps96;go_wp2_with fail;refine (Zge v.aH _ hn.1 hn.2).mono ?_;rintro e w2 ⟨rfl, hb2⟩;have HB2 := zh (HB.o.trans (Below.mono hb2 HB.o.size));clear hb2;go_wp2_with fail
  go_ret2
  exact ⟨rfl, HB2.o⟩
 rw [if_neg k1] at hR;have t1 : (v.kind == 1) = false := by simp [k1]
 by_cases k2 : v.kind = 2
 ·rw [if_pos k2] at hR;subst hR;have t2 : (v.kind == 2) = true := by simp [k2]
  clear k1 k2;go_enter Tryz.func96, Tryz.ntmps96;go_wp2_with fail
  go_ret2
  exact ⟨rfl, HB.o⟩
 rw [if_neg k2] at hR;have t2 : (v.kind == 2) = false := by simp [k2]
 by_cases k3 : v.kind = 3
 ·rw [if_pos k3] at hR;have t3 : (v.kind == 3) = true := by simp [k3]
  clear k1 k2 k3;have HCT := zh (fun w => Zd3 v.set_.low v.set_.high w);obtain ⟨t, hT⟩ : ∃ t, csT v.set_ = t := ⟨_, rfl⟩;have hts := Zgh v.set_;rw [hT] at hR hts;have HT := zh (show (⟨(Zbf v.set_.low v.set_.high 128).toArray⟩ : ByteArray) = t from hT);clear hT
  by_cases hbig : 120 < t.size
  ·rw [if_pos hbig] at hR;subst hR;have t4 : decide ((120 : Int) < t.size) = true := decide_eq_true (by omega);have t5 : decide ((t.size : Int) ≤ 120) = false := decide_eq_false (by omega);go_enter Tryz.func96, Tryz.ntmps96;go_wp2_with fail;refine (HCT.o _).mono ?_;rw [HT.o];rintro e w2 ⟨rfl, hb2⟩;have HB2 := zh (HB.o.trans (Below.mono hb2 HB.o.size));clear hb2;go_wp2_with fail
   go_ret2
   exact ⟨rfl, HB2.o⟩
  ·rw [if_neg hbig] at hR;subst hR;have t4 : decide ((120 : Int) < t.size) = false := decide_eq_false (by omega);have t5 : decide ((t.size : Int) ≤ 120) = true := decide_eq_true (by omega);go_enter Tryz.func96, Tryz.ntmps96;go_wp2_with fail;refine (HCT.o _).mono ?_;rw [HT.o];rintro e w2 ⟨rfl, hb2⟩;have HB2 := zh (HB.o.trans (Below.mono hb2 HB.o.size));clear hb2;go_wp2_with fail
   go_ret2
   exact ⟨rfl, HB2.o⟩
 ·rw [if_neg k3] at hR;subst hR;have t3 : (v.kind == 3) = false := by simp [k3]
  clear k1 k2;go_enter Tryz.func96, Tryz.ntmps96;go_wp2_with fail
  go_ret2
  exact ⟨rfl, HB.o⟩
theorem Zal (r : Zf) (B : Nat) (cs : List Value) (F : Nat → Prop) (w : World) (n k : Int) (h : Z1 F w B r cs) :
  Calls Tryz.prog 49 #[.pointer (some ⟨B, 0, none⟩), .int .i64 n, .int .i64 k] w fun e w' => e = .returned (.bool (Zaq r n k)) ∧ w' = w := by
 obtain ⟨A, c, c2, hc, hcm, hrow⟩ := h.aA;unfold maxLen at hcm
 by_cases h0 : 0 ≤ n
 ·have t1 : decide (0 ≤ n) = true := decide_eq_true h0;obtain ⟨i, rfl⟩ : ∃ i : Nat, n = i := ⟨n.toNat, by omega⟩
  by_cases hlt : i < r.aA.length
  ·have hlt' : (i : Int) < r.aA.length := by omega
   have t2 : decide ((i : Int) < r.aA.length) = true := decide_eq_true hlt';obtain ⟨b, o, Ai, ci, Ak, ck, rfl, hb, e0, _⟩ := Z1.obj hrow hlt;rw [Zd5 hlt];clear hrow h;go_enter Tryz.func49, Tryz.ntmps49;go_wp2_with fail;go_ret;exact ⟨rfl, rfl⟩
  ·have t2 : decide ((i : Int) < r.aA.length) = false := decide_eq_false (by omega);rw [Zda (by omega)];clear hrow h;go_enter Tryz.func49, Tryz.ntmps49;go_wp2_with fail;go_ret;exact ⟨rfl, rfl⟩
 ·have t1 : decide (0 ≤ n) = false := decide_eq_false h0;rw [Zih h0];clear hrow h;go_enter Tryz.func49, Tryz.ntmps49;go_wp2_with fail;go_ret;exact ⟨rfl, rfl⟩
theorem Zp2 (aH index low high : Int) (text : ByteArray) (w : World) :
  Calls Tryz.prog 108 #[.agg #[.int .i64 (0), .int .i64 aH, .int .i64 index, .string text, .int .i64 low, .int .i64 high]] w fun e w' => e = .returned (.bool (Zl ⟨0, aH, index, text, ⟨low, high⟩⟩)) ∧ Below w.heap.size w w' := by
 have HTS := zh (fun h => Zn (t := text) h);obtain ⟨R, hR⟩ : ∃ R, Zl ⟨0, aH, index, text, ⟨low, high⟩⟩ = R := ⟨_, rfl⟩;rw [hR];have HR := zh hR;clear hR;go_enter Tryz.func108, Tryz.ntmps108;go_wp2_with fail
 all_goals go_ret
 all_goals (refine ⟨?_, (Below.refl _ _).alloc (Nat.le_refl _) _⟩; rw [← HR.o])
 all_goals first
  | (simp [Zl, *]; done)
  | (simp only [Zl]; simp [*]; omega)
  | (have h0 := HTS.o (by assumption); simp only [Zl]; simp [*] <;> omega)
theorem Zp3 (aH index low high : Int) (text : ByteArray) (w : World) :
  Calls Tryz.prog 108 #[.agg #[.int .i64 (1), .int .i64 aH, .int .i64 index, .string text, .int .i64 low, .int .i64 high]] w fun e w' => e = .returned (.bool (Zl ⟨1, aH, index, text, ⟨low, high⟩⟩)) ∧ Below w.heap.size w w' := by
 have HTS := zh (fun h => Zn (t := text) h);obtain ⟨R, hR⟩ : ∃ R, Zl ⟨1, aH, index, text, ⟨low, high⟩⟩ = R := ⟨_, rfl⟩;rw [hR];have HR := zh hR;clear hR;go_enter Tryz.func108, Tryz.ntmps108;go_wp2_with fail
 all_goals go_ret
 all_goals (refine ⟨?_, (Below.refl _ _).alloc (Nat.le_refl _) _⟩; rw [← HR.o])
 all_goals first
  | (simp [Zl, *]; done)
  | (simp only [Zl]; simp [*]; omega)
  | (have h0 := HTS.o (by assumption); simp only [Zl]; simp [*] <;> omega)
theorem Zp4 (aH index low high : Int) (text : ByteArray) (w : World) :
  Calls Tryz.prog 108 #[.agg #[.int .i64 (2), .int .i64 aH, .int .i64 index, .string text, .int .i64 low, .int .i64 high]] w fun e w' => e = .returned (.bool (Zl ⟨2, aH, index, text, ⟨low, high⟩⟩)) ∧ Below w.heap.size w w' := by
 have HTS := zh (fun h => Zn (t := text) h);obtain ⟨R, hR⟩ : ∃ R, Zl ⟨2, aH, index, text, ⟨low, high⟩⟩ = R := ⟨_, rfl⟩;rw [hR];have HR := zh hR;clear hR;go_enter Tryz.func108, Tryz.ntmps108;go_wp2_with fail
 all_goals go_ret
 all_goals (refine ⟨?_, (Below.refl _ _).alloc (Nat.le_refl _) _⟩; rw [← HR.o])
 all_goals first
  | (simp [Zl, *]; done)
  | (simp only [Zl]; simp [*]; omega)
  | (have h0 := HTS.o (by assumption); simp only [Zl]; simp [*] <;> omega)
theorem Zp5 (aH index low high : Int) (text : ByteArray) (w : World) :
  Calls Tryz.prog 108 #[.agg #[.int .i64 (3), .int .i64 aH, .int .i64 index, .string text, .int .i64 low, .int .i64 high]] w fun e w' => e = .returned (.bool (Zl ⟨3, aH, index, text, ⟨low, high⟩⟩)) ∧ Below w.heap.size w w' := by
 have HTS := zh (fun h => Zn (t := text) h);obtain ⟨R, hR⟩ : ∃ R, Zl ⟨3, aH, index, text, ⟨low, high⟩⟩ = R := ⟨_, rfl⟩;rw [hR];have HR := zh hR;clear hR;go_enter Tryz.func108, Tryz.ntmps108;go_wp2_with fail
 all_goals go_ret
 all_goals (refine ⟨?_, (Below.refl _ _).alloc (Nat.le_refl _) _⟩; rw [← HR.o])
 all_goals first
  | (simp [Zl, *]; done)
  | (simp only [Zl]; simp [*]; omega)
  | (have h0 := HTS.o (by assumption); simp only [Zl]; simp [*] <;> omega)
theorem Zp6 (aH index low high : Int) (text : ByteArray) (w : World) :
  Calls Tryz.prog 108 #[.agg #[.int .i64 (4), .int .i64 aH, .int .i64 index, .string text, .int .i64 low, .int .i64 high]] w fun e w' => e = .returned (.bool (Zl ⟨4, aH, index, text, ⟨low, high⟩⟩)) ∧ Below w.heap.size w w' := by
 have HTS := zh (fun h => Zn (t := text) h);obtain ⟨R, hR⟩ : ∃ R, Zl ⟨4, aH, index, text, ⟨low, high⟩⟩ = R := ⟨_, rfl⟩;rw [hR];have HR := zh hR;clear hR;go_enter Tryz.func108, Tryz.ntmps108;go_wp2_with fail
 all_goals go_ret
 all_goals (refine ⟨?_, (Below.refl _ _).alloc (Nat.le_refl _) _⟩; rw [← HR.o])
 all_goals first
  | (simp [Zl, *]; done)
  | (simp only [Zl]; simp [*]; omega)
  | (have h0 := HTS.o (by assumption); simp only [Zl]; simp [*] <;> omega)
theorem Zp7 (aH index low high : Int) (text : ByteArray) (w : World) :
  Calls Tryz.prog 108 #[.agg #[.int .i64 (5), .int .i64 aH, .int .i64 index, .string text, .int .i64 low, .int .i64 high]] w fun e w' => e = .returned (.bool (Zl ⟨5, aH, index, text, ⟨low, high⟩⟩)) ∧ Below w.heap.size w w' := by
 have HTS := zh (fun h => Zn (t := text) h);obtain ⟨R, hR⟩ : ∃ R, Zl ⟨5, aH, index, text, ⟨low, high⟩⟩ = R := ⟨_, rfl⟩;rw [hR];have HR := zh hR;clear hR;go_enter Tryz.func108, Tryz.ntmps108;go_wp2_with fail
 all_goals go_ret
 all_goals (refine ⟨?_, (Below.refl _ _).alloc (Nat.le_refl _) _⟩; rw [← HR.o])
 all_goals first
  | (simp [Zl, *]; done)
  | (simp only [Zl]; simp [*]; omega)
  | (have h0 := HTS.o (by assumption); simp only [Zl]; simp [*] <;> omega)
theorem Zp8 (aH index low high : Int) (text : ByteArray) (w : World) :
  Calls Tryz.prog 108 #[.agg #[.int .i64 (6), .int .i64 aH, .int .i64 index, .string text, .int .i64 low, .int .i64 high]] w fun e w' => e = .returned (.bool (Zl ⟨6, aH, index, text, ⟨low, high⟩⟩)) ∧ Below w.heap.size w w' := by
 have HTS := zh (fun h => Zn (t := text) h);obtain ⟨R, hR⟩ : ∃ R, Zl ⟨6, aH, index, text, ⟨low, high⟩⟩ = R := ⟨_, rfl⟩;rw [hR];have HR := zh hR;clear hR;go_enter Tryz.func108, Tryz.ntmps108;go_wp2_with fail
 all_goals go_ret
 all_goals (refine ⟨?_, (Below.refl _ _).alloc (Nat.le_refl _) _⟩; rw [← HR.o])
 all_goals first
  | (simp [Zl, *]; done)
  | (simp only [Zl]; simp [*]; omega)
  | (have h0 := HTS.o (by assumption); simp only [Zl]; simp [*] <;> omega)
theorem Zp9 (aH index low high : Int) (text : ByteArray) (w : World) :
  Calls Tryz.prog 108 #[.agg #[.int .i64 (7), .int .i64 aH, .int .i64 index, .string text, .int .i64 low, .int .i64 high]] w fun e w' => e = .returned (.bool (Zl ⟨7, aH, index, text, ⟨low, high⟩⟩)) ∧ Below w.heap.size w w' := by
 have HTS := zh (fun h => Zn (t := text) h);obtain ⟨R, hR⟩ : ∃ R, Zl ⟨7, aH, index, text, ⟨low, high⟩⟩ = R := ⟨_, rfl⟩;rw [hR];have HR := zh hR;clear hR;go_enter Tryz.func108, Tryz.ntmps108;go_wp2_with fail
 all_goals go_ret
 all_goals (refine ⟨?_, (Below.refl _ _).alloc (Nat.le_refl _) _⟩; rw [← HR.o])
 all_goals first
  | (simp [Zl, *]; done)
  | (simp only [Zl]; simp [*]; omega)
  | (have h0 := HTS.o (by assumption); simp only [Zl]; simp [*] <;> omega)
theorem Zqa (aH index low high : Int) (text : ByteArray) (w : World) :
  Calls Tryz.prog 108 #[.agg #[.int .i64 (8), .int .i64 aH, .int .i64 index, .string text, .int .i64 low, .int .i64 high]] w fun e w' => e = .returned (.bool (Zl ⟨8, aH, index, text, ⟨low, high⟩⟩)) ∧ Below w.heap.size w w' := by
 have HTS := zh (fun h => Zn (t := text) h);obtain ⟨R, hR⟩ : ∃ R, Zl ⟨8, aH, index, text, ⟨low, high⟩⟩ = R := ⟨_, rfl⟩;rw [hR];have HR := zh hR;clear hR;go_enter Tryz.func108, Tryz.ntmps108;go_wp2_with fail
 all_goals go_ret
 all_goals (refine ⟨?_, (Below.refl _ _).alloc (Nat.le_refl _) _⟩; rw [← HR.o])
 all_goals first
  | (simp [Zl, *]; done)
  | (simp only [Zl]; simp [*]; omega)
  | (have h0 := HTS.o (by assumption); simp only [Zl]; simp [*] <;> omega)
theorem Zqb (aH index low high : Int) (text : ByteArray) (w : World) :
  Calls Tryz.prog 108 #[.agg #[.int .i64 (9), .int .i64 aH, .int .i64 index, .string text, .int .i64 low, .int .i64 high]] w fun e w' => e = .returned (.bool (Zl ⟨9, aH, index, text, ⟨low, high⟩⟩)) ∧ Below w.heap.size w w' := by
 have HTS := zh (fun h => Zn (t := text) h);obtain ⟨R, hR⟩ : ∃ R, Zl ⟨9, aH, index, text, ⟨low, high⟩⟩ = R := ⟨_, rfl⟩;rw [hR];have HR := zh hR;clear hR;go_enter Tryz.func108, Tryz.ntmps108;go_wp2_with fail
 all_goals go_ret
 all_goals (refine ⟨?_, (Below.refl _ _).alloc (Nat.le_refl _) _⟩; rw [← HR.o])
 all_goals first
  | (simp [Zl, *]; done)
  | (simp only [Zl]; simp [*]; omega)
  | (have h0 := HTS.o (by assumption); simp only [Zl]; simp [*] <;> omega)
theorem Zoc (aH index low high : Int) (text : ByteArray) (w : World) :
  Calls Tryz.prog 108 #[.agg #[.int .i64 (10), .int .i64 aH, .int .i64 index, .string text, .int .i64 low, .int .i64 high]] w fun e w' => e = .returned (.bool (Zl ⟨10, aH, index, text, ⟨low, high⟩⟩)) ∧ Below w.heap.size w w' := by
 have HTS := zh (fun h => Zn (t := text) h);obtain ⟨R, hR⟩ : ∃ R, Zl ⟨10, aH, index, text, ⟨low, high⟩⟩ = R := ⟨_, rfl⟩;rw [hR];have HR := zh hR;clear hR;go_enter Tryz.func108, Tryz.ntmps108;go_wp2_with fail
 all_goals go_ret
 all_goals (refine ⟨?_, (Below.refl _ _).alloc (Nat.le_refl _) _⟩; rw [← HR.o])
 all_goals first
  | (simp [Zl, *]; done)
  | (simp only [Zl]; simp [*]; omega)
  | (have h0 := HTS.o (by assumption); simp only [Zl]; simp [*] <;> omega)
theorem Zod (aH index low high : Int) (text : ByteArray) (w : World) :
  Calls Tryz.prog 108 #[.agg #[.int .i64 (11), .int .i64 aH, .int .i64 index, .string text, .int .i64 low, .int .i64 high]] w fun e w' => e = .returned (.bool (Zl ⟨11, aH, index, text, ⟨low, high⟩⟩)) ∧ Below w.heap.size w w' := by
 have HTS := zh (fun h => Zn (t := text) h);obtain ⟨R, hR⟩ : ∃ R, Zl ⟨11, aH, index, text, ⟨low, high⟩⟩ = R := ⟨_, rfl⟩;rw [hR];have HR := zh hR;clear hR;go_enter Tryz.func108, Tryz.ntmps108;go_wp2_with fail
 all_goals go_ret
 all_goals (refine ⟨?_, (Below.refl _ _).alloc (Nat.le_refl _) _⟩; rw [← HR.o])
 all_goals first
  | (simp [Zl, *]; done)
  | (simp only [Zl]; simp [*]; omega)
  | (have h0 := HTS.o (by assumption); simp only [Zl]; simp [*] <;> omega)
theorem Zoe (aH index low high : Int) (text : ByteArray) (w : World) :
  Calls Tryz.prog 108 #[.agg #[.int .i64 (12), .int .i64 aH, .int .i64 index, .string text, .int .i64 low, .int .i64 high]] w fun e w' => e = .returned (.bool (Zl ⟨12, aH, index, text, ⟨low, high⟩⟩)) ∧ Below w.heap.size w w' := by
 have HTS := zh (fun h => Zn (t := text) h);obtain ⟨R, hR⟩ : ∃ R, Zl ⟨12, aH, index, text, ⟨low, high⟩⟩ = R := ⟨_, rfl⟩;rw [hR];have HR := zh hR;clear hR;go_enter Tryz.func108, Tryz.ntmps108;go_wp2_with fail
 all_goals go_ret
 all_goals (refine ⟨?_, (Below.refl _ _).alloc (Nat.le_refl _) _⟩; rw [← HR.o])
 all_goals first
  | (simp [Zl, *]; done)
  | (simp only [Zl]; simp [*]; omega)
  | (have h0 := HTS.o (by assumption); simp only [Zl]; simp [*] <;> omega)
theorem Zof (aH index low high : Int) (text : ByteArray) (w : World) :
  Calls Tryz.prog 108 #[.agg #[.int .i64 (13), .int .i64 aH, .int .i64 index, .string text, .int .i64 low, .int .i64 high]] w fun e w' => e = .returned (.bool (Zl ⟨13, aH, index, text, ⟨low, high⟩⟩)) ∧ Below w.heap.size w w' := by
 have HTS := zh (fun h => Zn (t := text) h);obtain ⟨R, hR⟩ : ∃ R, Zl ⟨13, aH, index, text, ⟨low, high⟩⟩ = R := ⟨_, rfl⟩;rw [hR];have HR := zh hR;clear hR;go_enter Tryz.func108, Tryz.ntmps108;go_wp2_with fail
 all_goals go_ret
 all_goals (refine ⟨?_, (Below.refl _ _).alloc (Nat.le_refl _) _⟩; rw [← HR.o])
 all_goals first
  | (simp [Zl, *]; done)
  | (simp only [Zl]; simp [*]; omega)
  | (have h0 := HTS.o (by assumption); simp only [Zl]; simp [*] <;> omega)
theorem Zog (aH index low high : Int) (text : ByteArray) (w : World) :
  Calls Tryz.prog 108 #[.agg #[.int .i64 (14), .int .i64 aH, .int .i64 index, .string text, .int .i64 low, .int .i64 high]] w fun e w' => e = .returned (.bool (Zl ⟨14, aH, index, text, ⟨low, high⟩⟩)) ∧ Below w.heap.size w w' := by
 have HTS := zh (fun h => Zn (t := text) h);obtain ⟨R, hR⟩ : ∃ R, Zl ⟨14, aH, index, text, ⟨low, high⟩⟩ = R := ⟨_, rfl⟩;rw [hR];have HR := zh hR;clear hR;go_enter Tryz.func108, Tryz.ntmps108;go_wp2_with fail
 all_goals go_ret
 all_goals (refine ⟨?_, (Below.refl _ _).alloc (Nat.le_refl _) _⟩; rw [← HR.o])
 all_goals first
  | (simp [Zl, *]; done)
  | (simp only [Zl]; simp [*]; omega)
  | (have h0 := HTS.o (by assumption); simp only [Zl]; simp [*] <;> omega)
theorem Zoh (aH index low high : Int) (text : ByteArray) (w : World) :
  Calls Tryz.prog 108 #[.agg #[.int .i64 (15), .int .i64 aH, .int .i64 index, .string text, .int .i64 low, .int .i64 high]] w fun e w' => e = .returned (.bool (Zl ⟨15, aH, index, text, ⟨low, high⟩⟩)) ∧ Below w.heap.size w w' := by
 have HTS := zh (fun h => Zn (t := text) h);obtain ⟨R, hR⟩ : ∃ R, Zl ⟨15, aH, index, text, ⟨low, high⟩⟩ = R := ⟨_, rfl⟩;rw [hR];have HR := zh hR;clear hR;go_enter Tryz.func108, Tryz.ntmps108;go_wp2_with fail
 all_goals go_ret
 all_goals (refine ⟨?_, (Below.refl _ _).alloc (Nat.le_refl _) _⟩; rw [← HR.o])
 all_goals first
  | (simp [Zl, *]; done)
  | (simp only [Zl]; simp [*]; omega)
  | (have h0 := HTS.o (by assumption); simp only [Zl]; simp [*] <;> omega)
theorem Zoi (aH index low high : Int) (text : ByteArray) (w : World) :
  Calls Tryz.prog 108 #[.agg #[.int .i64 (16), .int .i64 aH, .int .i64 index, .string text, .int .i64 low, .int .i64 high]] w fun e w' => e = .returned (.bool (Zl ⟨16, aH, index, text, ⟨low, high⟩⟩)) ∧ Below w.heap.size w w' := by
 have HTS := zh (fun h => Zn (t := text) h);obtain ⟨R, hR⟩ : ∃ R, Zl ⟨16, aH, index, text, ⟨low, high⟩⟩ = R := ⟨_, rfl⟩;rw [hR];have HR := zh hR;clear hR;go_enter Tryz.func108, Tryz.ntmps108;go_wp2_with fail
 all_goals go_ret
 all_goals (refine ⟨?_, (Below.refl _ _).alloc (Nat.le_refl _) _⟩; rw [← HR.o])
 all_goals first
  | (simp [Zl, *]; done)
  | (simp only [Zl]; simp [*]; omega)
  | (have h0 := HTS.o (by assumption); simp only [Zl]; simp [*] <;> omega)
theorem Zoj (aH index low high : Int) (text : ByteArray) (w : World) :
  Calls Tryz.prog 108 #[.agg #[.int .i64 (17), .int .i64 aH, .int .i64 index, .string text, .int .i64 low, .int .i64 high]] w fun e w' => e = .returned (.bool (Zl ⟨17, aH, index, text, ⟨low, high⟩⟩)) ∧ Below w.heap.size w w' := by
 have HTS := zh (fun h => Zn (t := text) h);obtain ⟨R, hR⟩ : ∃ R, Zl ⟨17, aH, index, text, ⟨low, high⟩⟩ = R := ⟨_, rfl⟩;rw [hR];have HR := zh hR;clear hR;go_enter Tryz.func108, Tryz.ntmps108;go_wp2_with fail
 all_goals go_ret
 all_goals (refine ⟨?_, (Below.refl _ _).alloc (Nat.le_refl _) _⟩; rw [← HR.o])
 all_goals first
  | (simp [Zl, *]; done)
  | (simp only [Zl]; simp [*]; omega)
  | (have h0 := HTS.o (by assumption); simp only [Zl]; simp [*] <;> omega)
theorem Zok (aH index low high : Int) (text : ByteArray) (w : World) :
  Calls Tryz.prog 108 #[.agg #[.int .i64 (18), .int .i64 aH, .int .i64 index, .string text, .int .i64 low, .int .i64 high]] w fun e w' => e = .returned (.bool (Zl ⟨18, aH, index, text, ⟨low, high⟩⟩)) ∧ Below w.heap.size w w' := by
 have HTS := zh (fun h => Zn (t := text) h);obtain ⟨R, hR⟩ : ∃ R, Zl ⟨18, aH, index, text, ⟨low, high⟩⟩ = R := ⟨_, rfl⟩;rw [hR];have HR := zh hR;clear hR;go_enter Tryz.func108, Tryz.ntmps108;go_wp2_with fail
 all_goals go_ret
 all_goals (refine ⟨?_, (Below.refl _ _).alloc (Nat.le_refl _) _⟩; rw [← HR.o])
 all_goals first
  | (simp [Zl, *]; done)
  | (simp only [Zl]; simp [*]; omega)
  | (have h0 := HTS.o (by assumption); simp only [Zl]; simp [*] <;> omega)
theorem Zol (aH index low high : Int) (text : ByteArray) (w : World) :
  Calls Tryz.prog 108 #[.agg #[.int .i64 (19), .int .i64 aH, .int .i64 index, .string text, .int .i64 low, .int .i64 high]] w fun e w' => e = .returned (.bool (Zl ⟨19, aH, index, text, ⟨low, high⟩⟩)) ∧ Below w.heap.size w w' := by
 have HTS := zh (fun h => Zn (t := text) h);obtain ⟨R, hR⟩ : ∃ R, Zl ⟨19, aH, index, text, ⟨low, high⟩⟩ = R := ⟨_, rfl⟩;rw [hR];have HR := zh hR;clear hR;go_enter Tryz.func108, Tryz.ntmps108;go_wp2_with fail
 all_goals go_ret
 all_goals (refine ⟨?_, (Below.refl _ _).alloc (Nat.le_refl _) _⟩; rw [← HR.o])
 all_goals first
  | (simp [Zl, *]; done)
  | (simp only [Zl]; simp [*]; omega)
  | (have h0 := HTS.o (by assumption); simp only [Zl]; simp [*] <;> omega)
theorem Zom (aH index low high : Int) (text : ByteArray) (w : World) :
  Calls Tryz.prog 108 #[.agg #[.int .i64 (20), .int .i64 aH, .int .i64 index, .string text, .int .i64 low, .int .i64 high]] w fun e w' => e = .returned (.bool (Zl ⟨20, aH, index, text, ⟨low, high⟩⟩)) ∧ Below w.heap.size w w' := by
 have HTS := zh (fun h => Zn (t := text) h);obtain ⟨R, hR⟩ : ∃ R, Zl ⟨20, aH, index, text, ⟨low, high⟩⟩ = R := ⟨_, rfl⟩;rw [hR];have HR := zh hR;clear hR;go_enter Tryz.func108, Tryz.ntmps108;go_wp2_with fail
 all_goals go_ret
 all_goals (refine ⟨?_, (Below.refl _ _).alloc (Nat.le_refl _) _⟩; rw [← HR.o])
 all_goals first
  | (simp [Zl, *]; done)
  | (simp only [Zl]; simp [*]; omega)
  | (have h0 := HTS.o (by assumption); simp only [Zl]; simp [*] <;> omega)
theorem Zmu (kind aH index low high : Int) (text : ByteArray) (w : World) (hk : kind < 0) :
  Calls Tryz.prog 108 #[.agg #[.int .i64 (kind), .int .i64 aH, .int .i64 index, .string text, .int .i64 low, .int .i64 high]] w fun e w' => e = .returned (.bool (Zl ⟨kind, aH, index, text, ⟨low, high⟩⟩)) ∧ Below w.heap.size w w' := by
 have HTS := zh (fun h => Zn (t := text) h);obtain ⟨R, hR⟩ : ∃ R, Zl ⟨kind, aH, index, text, ⟨low, high⟩⟩ = R := ⟨_, rfl⟩;rw [hR];have HR := zh hR;clear hR;have t0 : (kind == 0) = false := by rw [nH]; omega
 have t1 : (kind == 1) = false := by rw [nH]; omega
 have t2 : (kind == 2) = false := by rw [nH]; omega
 have t3 : (kind == 3) = false := by rw [nH]; omega
 have t4 : (kind == 4) = false := by rw [nH]; omega
 have t5 : (kind == 5) = false := by rw [nH]; omega
 have t6 : (kind == 6) = false := by rw [nH]; omega
 have t7 : (kind == 7) = false := by rw [nH]; omega
 have t8 : (kind == 8) = false := by rw [nH]; omega
 have t9 : (kind == 9) = false := by rw [nH]; omega
 have t10 : (kind == 10) = false := by rw [nH]; omega
 have t11 : (kind == 11) = false := by rw [nH]; omega
 have t12 : (kind == 12) = false := by rw [nH]; omega
 have t13 : (kind == 13) = false := by rw [nH]; omega
 have t14 : (kind == 14) = false := by rw [nH]; omega
 have t15 : (kind == 15) = false := by rw [nH]; omega
 have t16 : (kind == 16) = false := by rw [nH]; omega
 have t17 : (kind == 17) = false := by rw [nH]; omega
 have t18 : (kind == 18) = false := by rw [nH]; omega
 have t19 : (kind == 19) = false := by rw [nH]; omega
 have t20 : (kind == 20) = false := by rw [nH]; omega
 have HK := zh (show kind < 0 ∨ 20 < kind by omega);have s1 : decide (kind < 0) = true := by simp; omega
 have s2 : decide ((20 : Int) < kind) = false := by simp; omega
 clear hk;go_enter Tryz.func108, Tryz.ntmps108;go_wp2_with fail
 all_goals go_ret
 all_goals (refine ⟨?_, (Below.refl _ _).alloc (Nat.le_refl _) _⟩; rw [← HR.o])
 all_goals first
  | (simp [Zl, *]; done)
  | (have h0 := HK.o; simp only [Zl]; rw [if_neg (by omega), if_neg (by omega), if_neg (by omega), if_neg (by omega), if_neg (by omega), if_neg (by omega), if_neg (by omega), if_neg (by omega)]; first | done | rfl | simp)
theorem Zmv (kind aH index low high : Int) (text : ByteArray) (w : World) (hk : 20 < kind) :
  Calls Tryz.prog 108 #[.agg #[.int .i64 (kind), .int .i64 aH, .int .i64 index, .string text, .int .i64 low, .int .i64 high]] w fun e w' => e = .returned (.bool (Zl ⟨kind, aH, index, text, ⟨low, high⟩⟩)) ∧ Below w.heap.size w w' := by
 have HTS := zh (fun h => Zn (t := text) h);obtain ⟨R, hR⟩ : ∃ R, Zl ⟨kind, aH, index, text, ⟨low, high⟩⟩ = R := ⟨_, rfl⟩;rw [hR];have HR := zh hR;clear hR;have t0 : (kind == 0) = false := by rw [nH]; omega
 have t1 : (kind == 1) = false := by rw [nH]; omega
 have t2 : (kind == 2) = false := by rw [nH]; omega
 have t3 : (kind == 3) = false := by rw [nH]; omega
 have t4 : (kind == 4) = false := by rw [nH]; omega
 have t5 : (kind == 5) = false := by rw [nH]; omega
 have t6 : (kind == 6) = false := by rw [nH]; omega
 have t7 : (kind == 7) = false := by rw [nH]; omega
 have t8 : (kind == 8) = false := by rw [nH]; omega
 have t9 : (kind == 9) = false := by rw [nH]; omega
 have t10 : (kind == 10) = false := by rw [nH]; omega
 have t11 : (kind == 11) = false := by rw [nH]; omega
 have t12 : (kind == 12) = false := by rw [nH]; omega
 have t13 : (kind == 13) = false := by rw [nH]; omega
 have t14 : (kind == 14) = false := by rw [nH]; omega
 have t15 : (kind == 15) = false := by rw [nH]; omega
 have t16 : (kind == 16) = false := by rw [nH]; omega
 have t17 : (kind == 17) = false := by rw [nH]; omega
 have t18 : (kind == 18) = false := by rw [nH]; omega
 have t19 : (kind == 19) = false := by rw [nH]; omega
 have t20 : (kind == 20) = false := by rw [nH]; omega
 have HK := zh (show kind < 0 ∨ 20 < kind by omega);have s1 : decide (kind < 0) = false := by simp; omega
 have s2 : decide ((20 : Int) < kind) = true := by simp; omega
 clear hk;go_enter Tryz.func108, Tryz.ntmps108;go_wp2_with fail
 all_goals go_ret
 all_goals (refine ⟨?_, (Below.refl _ _).alloc (Nat.le_refl _) _⟩; rw [← HR.o])
 all_goals first
  | (simp [Zl, *]; done)
  | (have h0 := HK.o; simp only [Zl]; rw [if_neg (by omega), if_neg (by omega), if_neg (by omega), if_neg (by omega), if_neg (by omega), if_neg (by omega), if_neg (by omega), if_neg (by omega)]; first | done | rfl | simp)
theorem Zq (v : Ze) (cs : List Value) (F : Nat → Prop) (w : World) (h : Zd F w v cs) :
  Calls Tryz.prog 108 #[.agg cs.toArray] w fun e w' => e = .returned (.bool (Zl v)) ∧ Below w.heap.size w w' := by
 obtain ⟨rfl, _⟩ := h;obtain ⟨kind, aH, index, text, low, high⟩ := v;have hk : kind = 0 ∨ kind = 1 ∨ kind = 2 ∨ kind = 3 ∨ kind = 4 ∨ kind = 5 ∨ kind = 6 ∨ kind = 7 ∨ kind = 8 ∨ kind = 9 ∨ kind = 10 ∨ kind = 11 ∨ kind = 12 ∨ kind = 13 ∨ kind = 14 ∨ kind = 15 ∨ kind = 16 ∨ kind = 17 ∨ kind = 18 ∨ kind = 19 ∨ kind = 20 ∨ kind < 0 ∨ 20 < kind := by omega
 rcases hk with rfl | rfl | rfl | rfl | rfl | rfl | rfl | rfl | rfl | rfl | rfl | rfl | rfl | rfl | rfl | rfl | rfl | rfl | rfl | rfl | rfl | hk
 ·exact Zp2 aH index low high text w
 ·exact Zp3 aH index low high text w
 ·exact Zp4 aH index low high text w
 ·exact Zp5 aH index low high text w
 ·exact Zp6 aH index low high text w
 ·exact Zp7 aH index low high text w
 ·exact Zp8 aH index low high text w
 ·exact Zp9 aH index low high text w
 ·exact Zqa aH index low high text w
 ·exact Zqb aH index low high text w
 ·exact Zoc aH index low high text w
 ·exact Zod aH index low high text w
 ·exact Zoe aH index low high text w
 ·exact Zof aH index low high text w
 ·exact Zog aH index low high text w
 ·exact Zoh aH index low high text w
 ·exact Zoi aH index low high text w
 ·exact Zoj aH index low high text w
 ·exact Zok aH index low high text w
 ·exact Zol aH index low high text w
 ·exact Zom aH index low high text w
 ·rcases hk with hk | hk
  ·exact Zmu kind aH index low high text w hk
  ·exact Zmv kind aH index low high text w hk
end Go.Proofs.YtpmhelkiicigfaaGreatDoor
namespace Go.Proofs.YtpmhelkiicigfaaGreatDoor
open Go.RowKit
variable {P : Program} {ops : Array Oper} {Q : Exit → Act → World → Prop}
end Go.Proofs.YtpmhelkiicigfaaGreatDoor
namespace Go.Proofs.YtpmhelkiicigfaaGreatDoor
open Go.RowKit
theorem Zrv (r : Zf) (B : Nat) (cs : List Value) (F : Nat → Prop) (w : World) (aH index low high : Int) (text : ByteArray) (h : Z1 F w B r cs) (hv : Zd F w ⟨0, aH, index, text, ⟨low, high⟩⟩ [.int .i64 0, .int .i64 aH, .int .i64 index, .string text, .int .i64 low, .int .i64 high]) :
  Calls Tryz.prog 52 #[.pointer (some ⟨B, 0, none⟩), .agg #[.int .i64 0, .int .i64 aH, .int .i64 index, .string text, .int .i64 low, .int .i64 high]] w fun e w' => e = .returned (.bool (Zi r ⟨0, aH, index, text, ⟨low, high⟩⟩)) ∧ Below w.heap.size w w' := by
 have HWF := zh (fun x => Zq ⟨0, aH, index, text, ⟨low, high⟩⟩ _ F x (show Zd F x _ _ from hv));have hin : Zs aH ∧ Zs index := ⟨hv.2.2.1, hv.2.2.2.1⟩;have HST := zh (h.later ((Za.refl w).alloc (.cells #[.int .i64 0, .int .i64 aH, .int .i64 index, .string text, .int .i64 low, .int .i64 high] 34)));have HM := zh (heap_alloc_new w (.cells #[.int .i64 0, .int .i64 aH, .int .i64 index, .string text, .int .i64 low, .int .i64 high] 34));have HB := zh ((Below.refl w.heap.size w).alloc (Nat.le_refl _) (.cells #[.int .i64 0, .int .i64 aH, .int .i64 index, .string text, .int .i64 low, .int .i64 high] 34));obtain ⟨p, hp⟩ : ∃ p, Zl ⟨0, aH, index, text, ⟨low, high⟩⟩ = p := ⟨_, rfl⟩;obtain ⟨R, hR⟩ : ∃ R, Zi r ⟨0, aH, index, text, ⟨low, high⟩⟩ = R := ⟨_, rfl⟩;rw [hR];rw [hp] at HWF;unfold Zi at hR;rw [hp] at hR;clear h hv;have HP := zh hp;clear hp
 cases p with
 | false =>
  have HR := zh (show R = false from hR.symm);clear hR;go_enter Tryz.func52, Tryz.ntmps52;go_wp2_with fail;refine (HWF.o _).mono ?_;rintro e w2 ⟨rfl, hb2⟩;have HB2 := zh (HB.o.trans (Below.mono hb2 HB.o.size));clear hb2;go_wp2_with fail;go_ret;exact ⟨Zx HR.o.symm, HB2.o⟩
 | true =>
  rw [Bool.true_and] at hR;have HR := zh (show R = true from by rw [← hR]; simp [Zaz, Zau]);clear hR;go_enter Tryz.func52, Tryz.ntmps52;go_wp2_with fail;refine (HWF.o _).mono ?_;rintro e w2 ⟨rfl, hb2⟩;replace HST := zh (HST.o.later hb2);replace HM := zC hb2 HM;replace HB := zh (HB.o.trans (Below.mono hb2 HB.o.size));clear hb2;have m0 := cz3 HM.o;go_wp2_with fail;go_ret;exact ⟨Zx HR.o.symm, HB.o⟩
theorem Zrw (r : Zf) (B : Nat) (cs : List Value) (F : Nat → Prop) (w : World) (aH index low high : Int) (text : ByteArray) (h : Z1 F w B r cs) (hv : Zd F w ⟨1, aH, index, text, ⟨low, high⟩⟩ [.int .i64 1, .int .i64 aH, .int .i64 index, .string text, .int .i64 low, .int .i64 high]) :
  Calls Tryz.prog 52 #[.pointer (some ⟨B, 0, none⟩), .agg #[.int .i64 1, .int .i64 aH, .int .i64 index, .string text, .int .i64 low, .int .i64 high]] w fun e w' => e = .returned (.bool (Zi r ⟨1, aH, index, text, ⟨low, high⟩⟩)) ∧ Below w.heap.size w w' := by
 have HWF := zh (fun x => Zq ⟨1, aH, index, text, ⟨low, high⟩⟩ _ F x (show Zd F x _ _ from hv));have hin : Zs aH ∧ Zs index := ⟨hv.2.2.1, hv.2.2.2.1⟩;have HST := zh (h.later ((Za.refl w).alloc (.cells #[.int .i64 1, .int .i64 aH, .int .i64 index, .string text, .int .i64 low, .int .i64 high] 34)));have HM := zh (heap_alloc_new w (.cells #[.int .i64 1, .int .i64 aH, .int .i64 index, .string text, .int .i64 low, .int .i64 high] 34));have HB := zh ((Below.refl w.heap.size w).alloc (Nat.le_refl _) (.cells #[.int .i64 1, .int .i64 aH, .int .i64 index, .string text, .int .i64 low, .int .i64 high] 34));obtain ⟨p, hp⟩ : ∃ p, Zl ⟨1, aH, index, text, ⟨low, high⟩⟩ = p := ⟨_, rfl⟩;obtain ⟨R, hR⟩ : ∃ R, Zi r ⟨1, aH, index, text, ⟨low, high⟩⟩ = R := ⟨_, rfl⟩;rw [hR];rw [hp] at HWF;unfold Zi at hR;rw [hp] at hR;clear h hv;have HP := zh hp;clear hp
 cases p with
 | false =>
  have HR := zh (show R = false from hR.symm);clear hR;go_enter Tryz.func52, Tryz.ntmps52;go_wp2_with fail;refine (HWF.o _).mono ?_;rintro e w2 ⟨rfl, hb2⟩;have HB2 := zh (HB.o.trans (Below.mono hb2 HB.o.size));clear hb2;go_wp2_with fail;go_ret;exact ⟨Zx HR.o.symm, HB2.o⟩
 | true =>
  rw [Bool.true_and] at hR;have HR := zh (show R = true from by rw [← hR]; simp [Zaz, Zau]);clear hR;go_enter Tryz.func52, Tryz.ntmps52;go_wp2_with fail;refine (HWF.o _).mono ?_;rintro e w2 ⟨rfl, hb2⟩;replace HST := zh (HST.o.later hb2);replace HM := zC hb2 HM;replace HB := zh (HB.o.trans (Below.mono hb2 HB.o.size));clear hb2;have m0 := cz3 HM.o;go_wp2_with fail;go_ret;exact ⟨Zx HR.o.symm, HB.o⟩
theorem Zrx (r : Zf) (B : Nat) (cs : List Value) (F : Nat → Prop) (w : World) (aH index low high : Int) (text : ByteArray) (h : Z1 F w B r cs) (hv : Zd F w ⟨2, aH, index, text, ⟨low, high⟩⟩ [.int .i64 2, .int .i64 aH, .int .i64 index, .string text, .int .i64 low, .int .i64 high]) :
  Calls Tryz.prog 52 #[.pointer (some ⟨B, 0, none⟩), .agg #[.int .i64 2, .int .i64 aH, .int .i64 index, .string text, .int .i64 low, .int .i64 high]] w fun e w' => e = .returned (.bool (Zi r ⟨2, aH, index, text, ⟨low, high⟩⟩)) ∧ Below w.heap.size w w' := by
 have HWF := zh (fun x => Zq ⟨2, aH, index, text, ⟨low, high⟩⟩ _ F x (show Zd F x _ _ from hv));have hin : Zs aH ∧ Zs index := ⟨hv.2.2.1, hv.2.2.2.1⟩;have HST := zh (h.later ((Za.refl w).alloc (.cells #[.int .i64 2, .int .i64 aH, .int .i64 index, .string text, .int .i64 low, .int .i64 high] 34)));have HM := zh (heap_alloc_new w (.cells #[.int .i64 2, .int .i64 aH, .int .i64 index, .string text, .int .i64 low, .int .i64 high] 34));have HB := zh ((Below.refl w.heap.size w).alloc (Nat.le_refl _) (.cells #[.int .i64 2, .int .i64 aH, .int .i64 index, .string text, .int .i64 low, .int .i64 high] 34));obtain ⟨p, hp⟩ : ∃ p, Zl ⟨2, aH, index, text, ⟨low, high⟩⟩ = p := ⟨_, rfl⟩;obtain ⟨R, hR⟩ : ∃ R, Zi r ⟨2, aH, index, text, ⟨low, high⟩⟩ = R := ⟨_, rfl⟩;rw [hR];rw [hp] at HWF;unfold Zi at hR;rw [hp] at hR;clear h hv;have HP := zh hp;clear hp
 cases p with
 | false =>
  have HR := zh (show R = false from hR.symm);clear hR;go_enter Tryz.func52, Tryz.ntmps52;go_wp2_with fail;refine (HWF.o _).mono ?_;rintro e w2 ⟨rfl, hb2⟩;have HB2 := zh (HB.o.trans (Below.mono hb2 HB.o.size));clear hb2;go_wp2_with fail;go_ret;exact ⟨Zx HR.o.symm, HB2.o⟩
 | true =>
  rw [Bool.true_and] at hR;have HR := zh (show R = true from by rw [← hR]; simp [Zaz, Zau]);clear hR;go_enter Tryz.func52, Tryz.ntmps52;go_wp2_with fail;refine (HWF.o _).mono ?_;rintro e w2 ⟨rfl, hb2⟩;replace HST := zh (HST.o.later hb2);replace HM := zC hb2 HM;replace HB := zh (HB.o.trans (Below.mono hb2 HB.o.size));clear hb2;have m0 := cz3 HM.o;go_wp2_with fail;go_ret;exact ⟨Zx HR.o.symm, HB.o⟩
theorem Zry (r : Zf) (B : Nat) (cs : List Value) (F : Nat → Prop) (w : World) (aH index low high : Int) (text : ByteArray) (h : Z1 F w B r cs) (hv : Zd F w ⟨3, aH, index, text, ⟨low, high⟩⟩ [.int .i64 3, .int .i64 aH, .int .i64 index, .string text, .int .i64 low, .int .i64 high]) :
  Calls Tryz.prog 52 #[.pointer (some ⟨B, 0, none⟩), .agg #[.int .i64 3, .int .i64 aH, .int .i64 index, .string text, .int .i64 low, .int .i64 high]] w fun e w' => e = .returned (.bool (Zi r ⟨3, aH, index, text, ⟨low, high⟩⟩)) ∧ Below w.heap.size w w' := by
 have HWF := zh (fun x => Zq ⟨3, aH, index, text, ⟨low, high⟩⟩ _ F x (show Zd F x _ _ from hv));have hin : Zs aH ∧ Zs index := ⟨hv.2.2.1, hv.2.2.2.1⟩;have HST := zh (h.later ((Za.refl w).alloc (.cells #[.int .i64 3, .int .i64 aH, .int .i64 index, .string text, .int .i64 low, .int .i64 high] 34)));have HM := zh (heap_alloc_new w (.cells #[.int .i64 3, .int .i64 aH, .int .i64 index, .string text, .int .i64 low, .int .i64 high] 34));have HB := zh ((Below.refl w.heap.size w).alloc (Nat.le_refl _) (.cells #[.int .i64 3, .int .i64 aH, .int .i64 index, .string text, .int .i64 low, .int .i64 high] 34));obtain ⟨p, hp⟩ : ∃ p, Zl ⟨3, aH, index, text, ⟨low, high⟩⟩ = p := ⟨_, rfl⟩;obtain ⟨R, hR⟩ : ∃ R, Zi r ⟨3, aH, index, text, ⟨low, high⟩⟩ = R := ⟨_, rfl⟩;rw [hR];rw [hp] at HWF;unfold Zi at hR;rw [hp] at hR;clear h hv;have HP := zh hp;clear hp
 cases p with
 | false =>
  have HR := zh (show R = false from hR.symm);clear hR;go_enter Tryz.func52, Tryz.ntmps52;go_wp2_with fail;refine (HWF.o _).mono ?_;rintro e w2 ⟨rfl, hb2⟩;have HB2 := zh (HB.o.trans (Below.mono hb2 HB.o.size));clear hb2;go_wp2_with fail;go_ret;exact ⟨Zx HR.o.symm, HB2.o⟩
 | true =>
  rw [Bool.true_and] at hR;have HR := zh (show R = true from by rw [← hR]; simp [Zaz, Zau]);clear hR;go_enter Tryz.func52, Tryz.ntmps52;go_wp2_with fail;refine (HWF.o _).mono ?_;rintro e w2 ⟨rfl, hb2⟩;replace HST := zh (HST.o.later hb2);replace HM := zC hb2 HM;replace HB := zh (HB.o.trans (Below.mono hb2 HB.o.size));clear hb2;have m0 := cz3 HM.o;go_wp2_with fail;go_ret;exact ⟨Zx HR.o.symm, HB.o⟩
theorem Zrz (r : Zf) (B : Nat) (cs : List Value) (F : Nat → Prop) (w : World) (aH index low high : Int) (text : ByteArray) (h : Z1 F w B r cs) (hv : Zd F w ⟨4, aH, index, text, ⟨low, high⟩⟩ [.int .i64 4, .int .i64 aH, .int .i64 index, .string text, .int .i64 low, .int .i64 high]) :
  Calls Tryz.prog 52 #[.pointer (some ⟨B, 0, none⟩), .agg #[.int .i64 4, .int .i64 aH, .int .i64 index, .string text, .int .i64 low, .int .i64 high]] w fun e w' => e = .returned (.bool (Zi r ⟨4, aH, index, text, ⟨low, high⟩⟩)) ∧ Below w.heap.size w w' := by
 have HWF := zh (fun x => Zq ⟨4, aH, index, text, ⟨low, high⟩⟩ _ F x (show Zd F x _ _ from hv));have hin : Zs aH ∧ Zs index := ⟨hv.2.2.1, hv.2.2.2.1⟩;have HST := zh (h.later ((Za.refl w).alloc (.cells #[.int .i64 4, .int .i64 aH, .int .i64 index, .string text, .int .i64 low, .int .i64 high] 34)));have HM := zh (heap_alloc_new w (.cells #[.int .i64 4, .int .i64 aH, .int .i64 index, .string text, .int .i64 low, .int .i64 high] 34));have HB := zh ((Below.refl w.heap.size w).alloc (Nat.le_refl _) (.cells #[.int .i64 4, .int .i64 aH, .int .i64 index, .string text, .int .i64 low, .int .i64 high] 34));obtain ⟨p, hp⟩ : ∃ p, Zl ⟨4, aH, index, text, ⟨low, high⟩⟩ = p := ⟨_, rfl⟩;obtain ⟨R, hR⟩ : ∃ R, Zi r ⟨4, aH, index, text, ⟨low, high⟩⟩ = R := ⟨_, rfl⟩;rw [hR];rw [hp] at HWF;unfold Zi at hR;rw [hp] at hR;clear h hv;have HP := zh hp;clear hp
 cases p with
 | false =>
  have HR := zh (show R = false from hR.symm);clear hR;go_enter Tryz.func52, Tryz.ntmps52;go_wp2_with fail;refine (HWF.o _).mono ?_;rintro e w2 ⟨rfl, hb2⟩;have HB2 := zh (HB.o.trans (Below.mono hb2 HB.o.size));clear hb2;go_wp2_with fail;go_ret;exact ⟨Zx HR.o.symm, HB2.o⟩
 | true =>
  rw [Bool.true_and] at hR;have HR := zh (show R = Zaq r aH 2 from by rw [← hR]; simp [Zaz, Zau]);clear hR;go_enter Tryz.func52, Tryz.ntmps52;go_wp2_with fail;refine (HWF.o _).mono ?_;rintro e w2 ⟨rfl, hb2⟩;replace HST := zh (HST.o.later hb2);replace HM := zC hb2 HM;replace HB := zh (HB.o.trans (Below.mono hb2 HB.o.size));clear hb2;have m0 := cz3 HM.o;go_wp2_with fail;refine (Zal r B cs F w2 aH 2 HST.o).mono ?_;rintro e w3 ⟨rfl, rfl⟩;go_wp2_with fail;go_ret;exact ⟨Zx HR.o.symm, HB.o⟩
theorem Zr0 (r : Zf) (B : Nat) (cs : List Value) (F : Nat → Prop) (w : World) (aH index low high : Int) (text : ByteArray) (h : Z1 F w B r cs) (hv : Zd F w ⟨5, aH, index, text, ⟨low, high⟩⟩ [.int .i64 5, .int .i64 aH, .int .i64 index, .string text, .int .i64 low, .int .i64 high]) :
  Calls Tryz.prog 52 #[.pointer (some ⟨B, 0, none⟩), .agg #[.int .i64 5, .int .i64 aH, .int .i64 index, .string text, .int .i64 low, .int .i64 high]] w fun e w' => e = .returned (.bool (Zi r ⟨5, aH, index, text, ⟨low, high⟩⟩)) ∧ Below w.heap.size w w' := by
 have HWF := zh (fun x => Zq ⟨5, aH, index, text, ⟨low, high⟩⟩ _ F x (show Zd F x _ _ from hv));have hin : Zs aH ∧ Zs index := ⟨hv.2.2.1, hv.2.2.2.1⟩;have HST := zh (h.later ((Za.refl w).alloc (.cells #[.int .i64 5, .int .i64 aH, .int .i64 index, .string text, .int .i64 low, .int .i64 high] 34)));have HM := zh (heap_alloc_new w (.cells #[.int .i64 5, .int .i64 aH, .int .i64 index, .string text, .int .i64 low, .int .i64 high] 34));have HB := zh ((Below.refl w.heap.size w).alloc (Nat.le_refl _) (.cells #[.int .i64 5, .int .i64 aH, .int .i64 index, .string text, .int .i64 low, .int .i64 high] 34));obtain ⟨p, hp⟩ : ∃ p, Zl ⟨5, aH, index, text, ⟨low, high⟩⟩ = p := ⟨_, rfl⟩;obtain ⟨R, hR⟩ : ∃ R, Zi r ⟨5, aH, index, text, ⟨low, high⟩⟩ = R := ⟨_, rfl⟩;rw [hR];rw [hp] at HWF;unfold Zi at hR;rw [hp] at hR;clear h hv;have HP := zh hp;clear hp
 cases p with
 | false =>
  have HR := zh (show R = false from hR.symm);clear hR;go_enter Tryz.func52, Tryz.ntmps52;go_wp2_with fail;refine (HWF.o _).mono ?_;rintro e w2 ⟨rfl, hb2⟩;have HB2 := zh (HB.o.trans (Below.mono hb2 HB.o.size));clear hb2;go_wp2_with fail;go_ret;exact ⟨Zx HR.o.symm, HB2.o⟩
 | true =>
  rw [Bool.true_and] at hR;have HR := zh (show R = Zaq r aH 3 from by rw [← hR]; simp [Zaz, Zau]);clear hR;go_enter Tryz.func52, Tryz.ntmps52;go_wp2_with fail;refine (HWF.o _).mono ?_;rintro e w2 ⟨rfl, hb2⟩;replace HST := zh (HST.o.later hb2);replace HM := zC hb2 HM;replace HB := zh (HB.o.trans (Below.mono hb2 HB.o.size));clear hb2;have m0 := cz3 HM.o;go_wp2_with fail;refine (Zal r B cs F w2 aH 3 HST.o).mono ?_;rintro e w3 ⟨rfl, rfl⟩;go_wp2_with fail;go_ret;exact ⟨Zx HR.o.symm, HB.o⟩
theorem Zr1 (r : Zf) (B : Nat) (cs : List Value) (F : Nat → Prop) (w : World) (aH index low high : Int) (text : ByteArray) (h : Z1 F w B r cs) (hv : Zd F w ⟨6, aH, index, text, ⟨low, high⟩⟩ [.int .i64 6, .int .i64 aH, .int .i64 index, .string text, .int .i64 low, .int .i64 high]) :
  Calls Tryz.prog 52 #[.pointer (some ⟨B, 0, none⟩), .agg #[.int .i64 6, .int .i64 aH, .int .i64 index, .string text, .int .i64 low, .int .i64 high]] w fun e w' => e = .returned (.bool (Zi r ⟨6, aH, index, text, ⟨low, high⟩⟩)) ∧ Below w.heap.size w w' := by
 have HWF := zh (fun x => Zq ⟨6, aH, index, text, ⟨low, high⟩⟩ _ F x (show Zd F x _ _ from hv));have hin : Zs aH ∧ Zs index := ⟨hv.2.2.1, hv.2.2.2.1⟩;have HST := zh (h.later ((Za.refl w).alloc (.cells #[.int .i64 6, .int .i64 aH, .int .i64 index, .string text, .int .i64 low, .int .i64 high] 34)));have HM := zh (heap_alloc_new w (.cells #[.int .i64 6, .int .i64 aH, .int .i64 index, .string text, .int .i64 low, .int .i64 high] 34));have HB := zh ((Below.refl w.heap.size w).alloc (Nat.le_refl _) (.cells #[.int .i64 6, .int .i64 aH, .int .i64 index, .string text, .int .i64 low, .int .i64 high] 34));obtain ⟨p, hp⟩ : ∃ p, Zl ⟨6, aH, index, text, ⟨low, high⟩⟩ = p := ⟨_, rfl⟩;obtain ⟨R, hR⟩ : ∃ R, Zi r ⟨6, aH, index, text, ⟨low, high⟩⟩ = R := ⟨_, rfl⟩;rw [hR];rw [hp] at HWF;unfold Zi at hR;rw [hp] at hR;clear h hv;have HP := zh hp;clear hp
 cases p with
 | false =>
  have HR := zh (show R = false from hR.symm);clear hR;go_enter Tryz.func52, Tryz.ntmps52;go_wp2_with fail;refine (HWF.o _).mono ?_;rintro e w2 ⟨rfl, hb2⟩;have HB2 := zh (HB.o.trans (Below.mono hb2 HB.o.size));clear hb2;go_wp2_with fail;go_ret;exact ⟨Zx HR.o.symm, HB2.o⟩
 | true =>
  rw [Bool.true_and] at hR;have HR := zh (show R = Zaq r aH 4 from by rw [← hR]; simp [Zaz, Zau]);clear hR;go_enter Tryz.func52, Tryz.ntmps52;go_wp2_with fail;refine (HWF.o _).mono ?_;rintro e w2 ⟨rfl, hb2⟩;replace HST := zh (HST.o.later hb2);replace HM := zC hb2 HM;replace HB := zh (HB.o.trans (Below.mono hb2 HB.o.size));clear hb2;have m0 := cz3 HM.o;go_wp2_with fail;refine (Zal r B cs F w2 aH 4 HST.o).mono ?_;rintro e w3 ⟨rfl, rfl⟩;go_wp2_with fail;go_ret;exact ⟨Zx HR.o.symm, HB.o⟩
theorem Zr2 (r : Zf) (B : Nat) (cs : List Value) (F : Nat → Prop) (w : World) (aH index low high : Int) (text : ByteArray) (h : Z1 F w B r cs) (hv : Zd F w ⟨7, aH, index, text, ⟨low, high⟩⟩ [.int .i64 7, .int .i64 aH, .int .i64 index, .string text, .int .i64 low, .int .i64 high]) :
  Calls Tryz.prog 52 #[.pointer (some ⟨B, 0, none⟩), .agg #[.int .i64 7, .int .i64 aH, .int .i64 index, .string text, .int .i64 low, .int .i64 high]] w fun e w' => e = .returned (.bool (Zi r ⟨7, aH, index, text, ⟨low, high⟩⟩)) ∧ Below w.heap.size w w' := by
 have HWF := zh (fun x => Zq ⟨7, aH, index, text, ⟨low, high⟩⟩ _ F x (show Zd F x _ _ from hv));have hin : Zs aH ∧ Zs index := ⟨hv.2.2.1, hv.2.2.2.1⟩;have HST := zh (h.later ((Za.refl w).alloc (.cells #[.int .i64 7, .int .i64 aH, .int .i64 index, .string text, .int .i64 low, .int .i64 high] 34)));have HM := zh (heap_alloc_new w (.cells #[.int .i64 7, .int .i64 aH, .int .i64 index, .string text, .int .i64 low, .int .i64 high] 34));have HB := zh ((Below.refl w.heap.size w).alloc (Nat.le_refl _) (.cells #[.int .i64 7, .int .i64 aH, .int .i64 index, .string text, .int .i64 low, .int .i64 high] 34));obtain ⟨p, hp⟩ : ∃ p, Zl ⟨7, aH, index, text, ⟨low, high⟩⟩ = p := ⟨_, rfl⟩;obtain ⟨R, hR⟩ : ∃ R, Zi r ⟨7, aH, index, text, ⟨low, high⟩⟩ = R := ⟨_, rfl⟩;rw [hR];rw [hp] at HWF;unfold Zi at hR;rw [hp] at hR;clear h hv;have HP := zh hp;clear hp
 cases p with
 | false =>
  have HR := zh (show R = false from hR.symm);clear hR;go_enter Tryz.func52, Tryz.ntmps52;go_wp2_with fail;refine (HWF.o _).mono ?_;rintro e w2 ⟨rfl, hb2⟩;have HB2 := zh (HB.o.trans (Below.mono hb2 HB.o.size));clear hb2;go_wp2_with fail;go_ret;exact ⟨Zx HR.o.symm, HB2.o⟩
 | true =>
  rw [Bool.true_and] at hR;have HR := zh (show R = Zaq r aH 5 from by rw [← hR]; simp [Zaz, Zau]);clear hR;go_enter Tryz.func52, Tryz.ntmps52;go_wp2_with fail;refine (HWF.o _).mono ?_;rintro e w2 ⟨rfl, hb2⟩;replace HST := zh (HST.o.later hb2);replace HM := zC hb2 HM;replace HB := zh (HB.o.trans (Below.mono hb2 HB.o.size));clear hb2;have m0 := cz3 HM.o;go_wp2_with fail;refine (Zal r B cs F w2 aH 5 HST.o).mono ?_;rintro e w3 ⟨rfl, rfl⟩;go_wp2_with fail;go_ret;exact ⟨Zx HR.o.symm, HB.o⟩
theorem Zr3 (r : Zf) (B : Nat) (cs : List Value) (F : Nat → Prop) (w : World) (aH index low high : Int) (text : ByteArray) (h : Z1 F w B r cs) (hv : Zd F w ⟨8, aH, index, text, ⟨low, high⟩⟩ [.int .i64 8, .int .i64 aH, .int .i64 index, .string text, .int .i64 low, .int .i64 high]) :
  Calls Tryz.prog 52 #[.pointer (some ⟨B, 0, none⟩), .agg #[.int .i64 8, .int .i64 aH, .int .i64 index, .string text, .int .i64 low, .int .i64 high]] w fun e w' => e = .returned (.bool (Zi r ⟨8, aH, index, text, ⟨low, high⟩⟩)) ∧ Below w.heap.size w w' := by
 have HWF := zh (fun x => Zq ⟨8, aH, index, text, ⟨low, high⟩⟩ _ F x (show Zd F x _ _ from hv));have hin : Zs aH ∧ Zs index := ⟨hv.2.2.1, hv.2.2.2.1⟩;have HST := zh (h.later ((Za.refl w).alloc (.cells #[.int .i64 8, .int .i64 aH, .int .i64 index, .string text, .int .i64 low, .int .i64 high] 34)));have HM := zh (heap_alloc_new w (.cells #[.int .i64 8, .int .i64 aH, .int .i64 index, .string text, .int .i64 low, .int .i64 high] 34));have HB := zh ((Below.refl w.heap.size w).alloc (Nat.le_refl _) (.cells #[.int .i64 8, .int .i64 aH, .int .i64 index, .string text, .int .i64 low, .int .i64 high] 34));obtain ⟨p, hp⟩ : ∃ p, Zl ⟨8, aH, index, text, ⟨low, high⟩⟩ = p := ⟨_, rfl⟩;obtain ⟨R, hR⟩ : ∃ R, Zi r ⟨8, aH, index, text, ⟨low, high⟩⟩ = R := ⟨_, rfl⟩;rw [hR];rw [hp] at HWF;unfold Zi at hR;rw [hp] at hR;clear h hv;have HP := zh hp;clear hp
 cases p with
 | false =>
  have HR := zh (show R = false from hR.symm);clear hR;go_enter Tryz.func52, Tryz.ntmps52;go_wp2_with fail;refine (HWF.o _).mono ?_;rintro e w2 ⟨rfl, hb2⟩;have HB2 := zh (HB.o.trans (Below.mono hb2 HB.o.size));clear hb2;go_wp2_with fail;go_ret;exact ⟨Zx HR.o.symm, HB2.o⟩
 | true =>
  rw [Bool.true_and] at hR;have HR := zh (show R = decide (aH < (r.names.length : Int)) from by rw [← hR]; simp [Zaz, Zau]);clear hR;go_enter Tryz.func52, Tryz.ntmps52;go_wp2_with fail;refine (HWF.o _).mono ?_;rintro e w2 ⟨rfl, hb2⟩;replace HST := zh (HST.o.later hb2);replace HM := zC hb2 HM;replace HB := zh (HB.o.trans (Below.mono hb2 HB.o.size));clear hb2;have m0 := cz3 HM.o;go_upto_region 29 with (fail);clear m0;obtain ⟨M, hM⟩ : ∃ M, w.heap.size = M := ⟨_, rfl⟩;rw [hM] at HM ⊢;refine Zu (fun W hW => ?_);have hWL : Za w2 W := by rw [hW]; exact (Za.refl _).drew
  have HMW := zC hWL HM;have HSW := zh (HST.o.later hWL);have HBW := zh (HB.o.trans (Below.mono hWL HB.o.size));have hMW : M < W.heap.size := Zb HMW.o;have mW0 := cz3 HMW.o;obtain ⟨A, c, cW, hc, hcm, hrow⟩ := HSW.o.names;have hSB := HSW.o.lt;unfold maxLen at hcm;clear hW hWL hrow
  repeat go_big_quiet_step (fail)
  refine wpQuiet_nil ?_;go_wp2_with fail;go_ret;exact ⟨Zx HR.o.symm, HBW.o⟩
theorem Zr4 (r : Zf) (B : Nat) (cs : List Value) (F : Nat → Prop) (w : World) (aH index low high : Int) (text : ByteArray) (h : Z1 F w B r cs) (hv : Zd F w ⟨9, aH, index, text, ⟨low, high⟩⟩ [.int .i64 9, .int .i64 aH, .int .i64 index, .string text, .int .i64 low, .int .i64 high]) :
  Calls Tryz.prog 52 #[.pointer (some ⟨B, 0, none⟩), .agg #[.int .i64 9, .int .i64 aH, .int .i64 index, .string text, .int .i64 low, .int .i64 high]] w fun e w' => e = .returned (.bool (Zi r ⟨9, aH, index, text, ⟨low, high⟩⟩)) ∧ Below w.heap.size w w' := by
 have HWF := zh (fun x => Zq ⟨9, aH, index, text, ⟨low, high⟩⟩ _ F x (show Zd F x _ _ from hv));have hin : Zs aH ∧ Zs index := ⟨hv.2.2.1, hv.2.2.2.1⟩;have HST := zh (h.later ((Za.refl w).alloc (.cells #[.int .i64 9, .int .i64 aH, .int .i64 index, .string text, .int .i64 low, .int .i64 high] 34)));have HM := zh (heap_alloc_new w (.cells #[.int .i64 9, .int .i64 aH, .int .i64 index, .string text, .int .i64 low, .int .i64 high] 34));have HB := zh ((Below.refl w.heap.size w).alloc (Nat.le_refl _) (.cells #[.int .i64 9, .int .i64 aH, .int .i64 index, .string text, .int .i64 low, .int .i64 high] 34));obtain ⟨p, hp⟩ : ∃ p, Zl ⟨9, aH, index, text, ⟨low, high⟩⟩ = p := ⟨_, rfl⟩;obtain ⟨R, hR⟩ : ∃ R, Zi r ⟨9, aH, index, text, ⟨low, high⟩⟩ = R := ⟨_, rfl⟩;rw [hR];rw [hp] at HWF;unfold Zi at hR;rw [hp] at hR;clear h hv;have HP := zh hp;clear hp
 cases p with
 | false =>
  have HR := zh (show R = false from hR.symm);clear hR;go_enter Tryz.func52, Tryz.ntmps52;go_wp2_with fail;refine (HWF.o _).mono ?_;rintro e w2 ⟨rfl, hb2⟩;have HB2 := zh (HB.o.trans (Below.mono hb2 HB.o.size));clear hb2;go_wp2_with fail;go_ret;exact ⟨Zx HR.o.symm, HB2.o⟩
 | true =>
  rw [Bool.true_and] at hR;have HR := zh (show R = decide (aH ≤ 54) from by rw [← hR]; simp [Zaz, Zau]);clear hR;go_enter Tryz.func52, Tryz.ntmps52;go_wp2_with fail;refine (HWF.o _).mono ?_;rintro e w2 ⟨rfl, hb2⟩;replace HST := zh (HST.o.later hb2);replace HM := zC hb2 HM;replace HB := zh (HB.o.trans (Below.mono hb2 HB.o.size));clear hb2;have m0 := cz3 HM.o;go_wp2_with fail;go_ret;exact ⟨Zx HR.o.symm, HB.o⟩
theorem Zqc (r : Zf) (B : Nat) (cs : List Value) (F : Nat → Prop) (w : World) (aH index low high : Int) (text : ByteArray) (h : Z1 F w B r cs) (hv : Zd F w ⟨10, aH, index, text, ⟨low, high⟩⟩ [.int .i64 10, .int .i64 aH, .int .i64 index, .string text, .int .i64 low, .int .i64 high]) :
  Calls Tryz.prog 52 #[.pointer (some ⟨B, 0, none⟩), .agg #[.int .i64 10, .int .i64 aH, .int .i64 index, .string text, .int .i64 low, .int .i64 high]] w fun e w' => e = .returned (.bool (Zi r ⟨10, aH, index, text, ⟨low, high⟩⟩)) ∧ Below w.heap.size w w' := by
 have HWF := zh (fun x => Zq ⟨10, aH, index, text, ⟨low, high⟩⟩ _ F x (show Zd F x _ _ from hv));have hin : Zs aH ∧ Zs index := ⟨hv.2.2.1, hv.2.2.2.1⟩;have HST := zh (h.later ((Za.refl w).alloc (.cells #[.int .i64 10, .int .i64 aH, .int .i64 index, .string text, .int .i64 low, .int .i64 high] 34)));have HM := zh (heap_alloc_new w (.cells #[.int .i64 10, .int .i64 aH, .int .i64 index, .string text, .int .i64 low, .int .i64 high] 34));have HB := zh ((Below.refl w.heap.size w).alloc (Nat.le_refl _) (.cells #[.int .i64 10, .int .i64 aH, .int .i64 index, .string text, .int .i64 low, .int .i64 high] 34));obtain ⟨p, hp⟩ : ∃ p, Zl ⟨10, aH, index, text, ⟨low, high⟩⟩ = p := ⟨_, rfl⟩;obtain ⟨R, hR⟩ : ∃ R, Zi r ⟨10, aH, index, text, ⟨low, high⟩⟩ = R := ⟨_, rfl⟩;rw [hR];rw [hp] at HWF;unfold Zi at hR;rw [hp] at hR;clear h hv;have HP := zh hp;clear hp
 cases p with
 | false =>
  have HR := zh (show R = false from hR.symm);clear hR;go_enter Tryz.func52, Tryz.ntmps52;go_wp2_with fail;refine (HWF.o _).mono ?_;rintro e w2 ⟨rfl, hb2⟩;have HB2 := zh (HB.o.trans (Below.mono hb2 HB.o.size));clear hb2;go_wp2_with fail;go_ret;exact ⟨Zx HR.o.symm, HB2.o⟩
 | true =>
  rw [Bool.true_and] at hR;have HR := zh (show R = decide (aH < (r.aB.length : Int)) from by rw [← hR]; simp [Zaz, Zau]);clear hR;go_enter Tryz.func52, Tryz.ntmps52;go_wp2_with fail;refine (HWF.o _).mono ?_;rintro e w2 ⟨rfl, hb2⟩;replace HST := zh (HST.o.later hb2);replace HM := zC hb2 HM;replace HB := zh (HB.o.trans (Below.mono hb2 HB.o.size));clear hb2;have m0 := cz3 HM.o;go_upto_region 33 with (fail);clear m0;obtain ⟨M, hM⟩ : ∃ M, w.heap.size = M := ⟨_, rfl⟩;rw [hM] at HM ⊢;refine Zu (fun W hW => ?_);have hWL : Za w2 W := by rw [hW]; exact (Za.refl _).drew
  have HMW := zC hWL HM;have HSW := zh (HST.o.later hWL);have HBW := zh (HB.o.trans (Below.mono hWL HB.o.size));have hMW : M < W.heap.size := Zb HMW.o;have mW0 := cz3 HMW.o;obtain ⟨A, c, cW, hc, hcm, hrow⟩ := HSW.o.aB;have hSB := HSW.o.lt;unfold maxLen at hcm;clear hW hWL hrow
  repeat go_big_quiet_step (fail)
  refine wpQuiet_nil ?_;go_wp2_with fail;go_ret;exact ⟨Zx HR.o.symm, HBW.o⟩
theorem Zqd (r : Zf) (B : Nat) (cs : List Value) (F : Nat → Prop) (w : World) (aH index low high : Int) (text : ByteArray) (h : Z1 F w B r cs) (hv : Zd F w ⟨11, aH, index, text, ⟨low, high⟩⟩ [.int .i64 11, .int .i64 aH, .int .i64 index, .string text, .int .i64 low, .int .i64 high]) :
  Calls Tryz.prog 52 #[.pointer (some ⟨B, 0, none⟩), .agg #[.int .i64 11, .int .i64 aH, .int .i64 index, .string text, .int .i64 low, .int .i64 high]] w fun e w' => e = .returned (.bool (Zi r ⟨11, aH, index, text, ⟨low, high⟩⟩)) ∧ Below w.heap.size w w' := by
 have HWF := zh (fun x => Zq ⟨11, aH, index, text, ⟨low, high⟩⟩ _ F x (show Zd F x _ _ from hv));have hin : Zs aH ∧ Zs index := ⟨hv.2.2.1, hv.2.2.2.1⟩;have HST := zh (h.later ((Za.refl w).alloc (.cells #[.int .i64 11, .int .i64 aH, .int .i64 index, .string text, .int .i64 low, .int .i64 high] 34)));have HM := zh (heap_alloc_new w (.cells #[.int .i64 11, .int .i64 aH, .int .i64 index, .string text, .int .i64 low, .int .i64 high] 34));have HB := zh ((Below.refl w.heap.size w).alloc (Nat.le_refl _) (.cells #[.int .i64 11, .int .i64 aH, .int .i64 index, .string text, .int .i64 low, .int .i64 high] 34));obtain ⟨p, hp⟩ : ∃ p, Zl ⟨11, aH, index, text, ⟨low, high⟩⟩ = p := ⟨_, rfl⟩;obtain ⟨R, hR⟩ : ∃ R, Zi r ⟨11, aH, index, text, ⟨low, high⟩⟩ = R := ⟨_, rfl⟩;rw [hR];rw [hp] at HWF;unfold Zi at hR;rw [hp] at hR;clear h hv;have HP := zh hp;clear hp
 cases p with
 | false =>
  have HR := zh (show R = false from hR.symm);clear hR;go_enter Tryz.func52, Tryz.ntmps52;go_wp2_with fail;refine (HWF.o _).mono ?_;rintro e w2 ⟨rfl, hb2⟩;have HB2 := zh (HB.o.trans (Below.mono hb2 HB.o.size));clear hb2;go_wp2_with fail;go_ret;exact ⟨Zx HR.o.symm, HB2.o⟩
 | true =>
  rw [Bool.true_and] at hR;have HR := zh (show R = Zaq r aH 6 from by rw [← hR]; simp [Zaz, Zau]);clear hR;go_enter Tryz.func52, Tryz.ntmps52;go_wp2_with fail;refine (HWF.o _).mono ?_;rintro e w2 ⟨rfl, hb2⟩;replace HST := zh (HST.o.later hb2);replace HM := zC hb2 HM;replace HB := zh (HB.o.trans (Below.mono hb2 HB.o.size));clear hb2;have m0 := cz3 HM.o;go_wp2_with fail;refine (Zal r B cs F w2 aH 6 HST.o).mono ?_;rintro e w3 ⟨rfl, rfl⟩;go_wp2_with fail;go_ret;exact ⟨Zx HR.o.symm, HB.o⟩
theorem Zqe (r : Zf) (B : Nat) (cs : List Value) (F : Nat → Prop) (w : World) (aH index low high : Int) (text : ByteArray) (h : Z1 F w B r cs) (hv : Zd F w ⟨12, aH, index, text, ⟨low, high⟩⟩ [.int .i64 12, .int .i64 aH, .int .i64 index, .string text, .int .i64 low, .int .i64 high]) :
  Calls Tryz.prog 52 #[.pointer (some ⟨B, 0, none⟩), .agg #[.int .i64 12, .int .i64 aH, .int .i64 index, .string text, .int .i64 low, .int .i64 high]] w fun e w' => e = .returned (.bool (Zi r ⟨12, aH, index, text, ⟨low, high⟩⟩)) ∧ Below w.heap.size w w' := by
 have HWF := zh (fun x => Zq ⟨12, aH, index, text, ⟨low, high⟩⟩ _ F x (show Zd F x _ _ from hv));have hin : Zs aH ∧ Zs index := ⟨hv.2.2.1, hv.2.2.2.1⟩;have HST := zh (h.later ((Za.refl w).alloc (.cells #[.int .i64 12, .int .i64 aH, .int .i64 index, .string text, .int .i64 low, .int .i64 high] 34)));have HM := zh (heap_alloc_new w (.cells #[.int .i64 12, .int .i64 aH, .int .i64 index, .string text, .int .i64 low, .int .i64 high] 34));have HB := zh ((Below.refl w.heap.size w).alloc (Nat.le_refl _) (.cells #[.int .i64 12, .int .i64 aH, .int .i64 index, .string text, .int .i64 low, .int .i64 high] 34));obtain ⟨p, hp⟩ : ∃ p, Zl ⟨12, aH, index, text, ⟨low, high⟩⟩ = p := ⟨_, rfl⟩;obtain ⟨R, hR⟩ : ∃ R, Zi r ⟨12, aH, index, text, ⟨low, high⟩⟩ = R := ⟨_, rfl⟩;rw [hR];rw [hp] at HWF;unfold Zi at hR;rw [hp] at hR;clear h hv;have HP := zh hp;clear hp
 cases p with
 | false =>
  have HR := zh (show R = false from hR.symm);clear hR;go_enter Tryz.func52, Tryz.ntmps52;go_wp2_with fail;refine (HWF.o _).mono ?_;rintro e w2 ⟨rfl, hb2⟩;have HB2 := zh (HB.o.trans (Below.mono hb2 HB.o.size));clear hb2;go_wp2_with fail;go_ret;exact ⟨Zx HR.o.symm, HB2.o⟩
 | true =>
  rw [Bool.true_and] at hR;have HR := zh (show R = Zaq r aH 7 from by rw [← hR]; simp [Zaz, Zau]);clear hR;go_enter Tryz.func52, Tryz.ntmps52;go_wp2_with fail;refine (HWF.o _).mono ?_;rintro e w2 ⟨rfl, hb2⟩;replace HST := zh (HST.o.later hb2);replace HM := zC hb2 HM;replace HB := zh (HB.o.trans (Below.mono hb2 HB.o.size));clear hb2;have m0 := cz3 HM.o;go_wp2_with fail;refine (Zal r B cs F w2 aH 7 HST.o).mono ?_;rintro e w3 ⟨rfl, rfl⟩;go_wp2_with fail;go_ret;exact ⟨Zx HR.o.symm, HB.o⟩
theorem Zqf (r : Zf) (B : Nat) (cs : List Value) (F : Nat → Prop) (w : World) (aH index low high : Int) (text : ByteArray) (h : Z1 F w B r cs) (hv : Zd F w ⟨13, aH, index, text, ⟨low, high⟩⟩ [.int .i64 13, .int .i64 aH, .int .i64 index, .string text, .int .i64 low, .int .i64 high]) :
  Calls Tryz.prog 52 #[.pointer (some ⟨B, 0, none⟩), .agg #[.int .i64 13, .int .i64 aH, .int .i64 index, .string text, .int .i64 low, .int .i64 high]] w fun e w' => e = .returned (.bool (Zi r ⟨13, aH, index, text, ⟨low, high⟩⟩)) ∧ Below w.heap.size w w' := by
 have HWF := zh (fun x => Zq ⟨13, aH, index, text, ⟨low, high⟩⟩ _ F x (show Zd F x _ _ from hv));have hin : Zs aH ∧ Zs index := ⟨hv.2.2.1, hv.2.2.2.1⟩;have HST := zh (h.later ((Za.refl w).alloc (.cells #[.int .i64 13, .int .i64 aH, .int .i64 index, .string text, .int .i64 low, .int .i64 high] 34)));have HM := zh (heap_alloc_new w (.cells #[.int .i64 13, .int .i64 aH, .int .i64 index, .string text, .int .i64 low, .int .i64 high] 34));have HB := zh ((Below.refl w.heap.size w).alloc (Nat.le_refl _) (.cells #[.int .i64 13, .int .i64 aH, .int .i64 index, .string text, .int .i64 low, .int .i64 high] 34));obtain ⟨p, hp⟩ : ∃ p, Zl ⟨13, aH, index, text, ⟨low, high⟩⟩ = p := ⟨_, rfl⟩;obtain ⟨R, hR⟩ : ∃ R, Zi r ⟨13, aH, index, text, ⟨low, high⟩⟩ = R := ⟨_, rfl⟩;rw [hR];rw [hp] at HWF;unfold Zi at hR;rw [hp] at hR;clear h hv;have HP := zh hp;clear hp
 cases p with
 | false =>
  have HR := zh (show R = false from hR.symm);clear hR;go_enter Tryz.func52, Tryz.ntmps52;go_wp2_with fail;refine (HWF.o _).mono ?_;rintro e w2 ⟨rfl, hb2⟩;have HB2 := zh (HB.o.trans (Below.mono hb2 HB.o.size));clear hb2;go_wp2_with fail;go_ret;exact ⟨Zx HR.o.symm, HB2.o⟩
 | true =>
  rw [Bool.true_and] at hR;have HR := zh (show R = (Zaq r aH 1 && decide (index < (Zca r aH : Int))) from by rw [← hR]; simp [Zaz, Zau]);have HN := zh (Zdt HP.o (Or.inl (by simp [Zau])));have HI := zh (Zii HP.o);clear hR;go_enter Tryz.func52, Tryz.ntmps52;go_wp2_with fail;refine (HWF.o _).mono ?_;rintro e w2 ⟨rfl, hb2⟩;replace HST := zh (HST.o.later hb2);replace HM := zC hb2 HM;replace HB := zh (HB.o.trans (Below.mono hb2 HB.o.size));clear hb2;have m0 := cz3 HM.o;go_upto_region 25 with (fail);clear m0;obtain ⟨M, hM⟩ : ∃ M, w.heap.size = M := ⟨_, rfl⟩;rw [hM] at HM ⊢;obtain ⟨q, hq⟩ : ∃ q, Zaq r aH 1 = q := ⟨_, rfl⟩;rw [hq] at HR;have HQ := zh hq;clear hq
  cases q with
  | false =>
   refine Zu (fun W hW => ?_);have hWL : Za w2 W := by rw [hW]; exact (Za.refl _).drew
   have HMW := zC hWL HM;have HSW := zh (HST.o.later hWL);have HBW := zh (HB.o.trans (Below.mono hWL HB.o.size));have hMW : M < W.heap.size := Zb HMW.o;have mW0 := cz3 HMW.o;have hSB := HSW.o.lt;clear hW hWL
   repeat go_big_quiet_step (fail)
   go_big_quiet_want
   go_big_quiet_op
   apply Exists.intro
   refine ⟨?_, ?_⟩
   ·refine (Zal r B cs F W aH 1 HSW.o).mono ?_; rw [HQ.o]; rintro e w6 ⟨rfl, rfl⟩; exact ⟨rfl, rfl⟩
   go_big_quiet_on
   repeat go_big_quiet_step (fail)
   refine wpQuiet_nil ?_;go_wp2_with fail;go_ret;exact ⟨Zx HR.o.symm, HBW.o⟩
  | true =>
   have hlen : aH < (r.aA.length : Int) := by
    rcases Int.lt_or_le aH r.aA.length with h | h
    ·exact h
    ·have := Zda (r := r) (n := aH) (k := 1) (by omega); rw [HQ.o] at this; cases this
   obtain ⟨i, hi⟩ : ∃ i : Nat, aH = i := ⟨aH.toNat, by have := HN.o; omega⟩;subst hi;have hlt : i < r.aA.length := by omega
   have hlt' : (i : Int) < r.aA.length := hlen;have HR2 := zh (show R = decide (index < (r.aA[i].aJ.length : Int)) from by rw [HR.o, Zbm hlt]; rfl);refine Zu (fun W hW => ?_);have hWL : Za w2 W := by rw [hW]; exact (Za.refl _).drew
   have HMW := zC hWL HM;have HSW := zh (HST.o.later hWL);have HBW := zh (HB.o.trans (Below.mono hWL HB.o.size));have hMW : M < W.heap.size := Zb HMW.o;have mW0 := cz3 HMW.o;obtain ⟨A, c, cW, hc, hcm, hrow⟩ := HSW.o.aA;have hSB := HSW.o.lt;unfold maxLen at hcm;obtain ⟨b, o, Ai, ci, Ak, ck, rfl, hb, e0, e1, e2, e3, e4, hIt, hKy, _⟩ := Z1.obj hrow hlt;clear hW hWL hrow hIt hKy
   repeat go_big_quiet_step (fail)
   go_big_quiet_want
   go_big_quiet_op
   apply Exists.intro
   refine ⟨?_, ?_⟩
   ·refine (Zal r B cs F W (i : Int) 1 HSW.o).mono ?_; rw [HQ.o]; rintro e w6 ⟨rfl, rfl⟩; exact ⟨rfl, rfl⟩
   go_big_quiet_on
   repeat go_big_quiet_step (fail)
   refine wpQuiet_nil ?_;go_wp2_with fail;go_ret;exact ⟨Zx HR2.o.symm, HBW.o⟩
theorem Zqg (r : Zf) (B : Nat) (cs : List Value) (F : Nat → Prop) (w : World) (aH index low high : Int) (text : ByteArray) (h : Z1 F w B r cs) (hv : Zd F w ⟨14, aH, index, text, ⟨low, high⟩⟩ [.int .i64 14, .int .i64 aH, .int .i64 index, .string text, .int .i64 low, .int .i64 high]) :
  Calls Tryz.prog 52 #[.pointer (some ⟨B, 0, none⟩), .agg #[.int .i64 14, .int .i64 aH, .int .i64 index, .string text, .int .i64 low, .int .i64 high]] w fun e w' => e = .returned (.bool (Zi r ⟨14, aH, index, text, ⟨low, high⟩⟩)) ∧ Below w.heap.size w w' := by
 have HWF := zh (fun x => Zq ⟨14, aH, index, text, ⟨low, high⟩⟩ _ F x (show Zd F x _ _ from hv));have hin : Zs aH ∧ Zs index := ⟨hv.2.2.1, hv.2.2.2.1⟩;have HST := zh (h.later ((Za.refl w).alloc (.cells #[.int .i64 14, .int .i64 aH, .int .i64 index, .string text, .int .i64 low, .int .i64 high] 34)));have HM := zh (heap_alloc_new w (.cells #[.int .i64 14, .int .i64 aH, .int .i64 index, .string text, .int .i64 low, .int .i64 high] 34));have HB := zh ((Below.refl w.heap.size w).alloc (Nat.le_refl _) (.cells #[.int .i64 14, .int .i64 aH, .int .i64 index, .string text, .int .i64 low, .int .i64 high] 34));obtain ⟨p, hp⟩ : ∃ p, Zl ⟨14, aH, index, text, ⟨low, high⟩⟩ = p := ⟨_, rfl⟩;obtain ⟨R, hR⟩ : ∃ R, Zi r ⟨14, aH, index, text, ⟨low, high⟩⟩ = R := ⟨_, rfl⟩;rw [hR];rw [hp] at HWF;unfold Zi at hR;rw [hp] at hR;clear h hv;have HP := zh hp;clear hp
 cases p with
 | false =>
  have HR := zh (show R = false from hR.symm);clear hR;go_enter Tryz.func52, Tryz.ntmps52;go_wp2_with fail;refine (HWF.o _).mono ?_;rintro e w2 ⟨rfl, hb2⟩;have HB2 := zh (HB.o.trans (Below.mono hb2 HB.o.size));clear hb2;go_wp2_with fail;go_ret;exact ⟨Zx HR.o.symm, HB2.o⟩
 | true =>
  rw [Bool.true_and] at hR;have HR := zh (show R = decide (index < (r.globals.length : Int)) from by rw [← hR]; simp [Zaz, Zau]);clear hR;go_enter Tryz.func52, Tryz.ntmps52;go_wp2_with fail;refine (HWF.o _).mono ?_;rintro e w2 ⟨rfl, hb2⟩;replace HST := zh (HST.o.later hb2);replace HM := zC hb2 HM;replace HB := zh (HB.o.trans (Below.mono hb2 HB.o.size));clear hb2;have m0 := cz3 HM.o;go_upto_region 35 with (fail);clear m0;obtain ⟨M, hM⟩ : ∃ M, w.heap.size = M := ⟨_, rfl⟩;rw [hM] at HM ⊢;refine Zu (fun W hW => ?_);have hWL : Za w2 W := by rw [hW]; exact (Za.refl _).drew
  have HMW := zC hWL HM;have HSW := zh (HST.o.later hWL);have HBW := zh (HB.o.trans (Below.mono hWL HB.o.size));have hMW : M < W.heap.size := Zb HMW.o;have mW0 := cz3 HMW.o;obtain ⟨A, c, cW, hc, hcm, hrow⟩ := HSW.o.globals;have hSB := HSW.o.lt;unfold maxLen at hcm;clear hW hWL hrow
  repeat go_big_quiet_step (fail)
  refine wpQuiet_nil ?_;go_wp2_with fail;go_ret;exact ⟨Zx HR.o.symm, HBW.o⟩
theorem Zqh (r : Zf) (B : Nat) (cs : List Value) (F : Nat → Prop) (w : World) (aH index low high : Int) (text : ByteArray) (h : Z1 F w B r cs) (hv : Zd F w ⟨15, aH, index, text, ⟨low, high⟩⟩ [.int .i64 15, .int .i64 aH, .int .i64 index, .string text, .int .i64 low, .int .i64 high]) :
  Calls Tryz.prog 52 #[.pointer (some ⟨B, 0, none⟩), .agg #[.int .i64 15, .int .i64 aH, .int .i64 index, .string text, .int .i64 low, .int .i64 high]] w fun e w' => e = .returned (.bool (Zi r ⟨15, aH, index, text, ⟨low, high⟩⟩)) ∧ Below w.heap.size w w' := by
 have HWF := zh (fun x => Zq ⟨15, aH, index, text, ⟨low, high⟩⟩ _ F x (show Zd F x _ _ from hv));have hin : Zs aH ∧ Zs index := ⟨hv.2.2.1, hv.2.2.2.1⟩;have HST := zh (h.later ((Za.refl w).alloc (.cells #[.int .i64 15, .int .i64 aH, .int .i64 index, .string text, .int .i64 low, .int .i64 high] 34)));have HM := zh (heap_alloc_new w (.cells #[.int .i64 15, .int .i64 aH, .int .i64 index, .string text, .int .i64 low, .int .i64 high] 34));have HB := zh ((Below.refl w.heap.size w).alloc (Nat.le_refl _) (.cells #[.int .i64 15, .int .i64 aH, .int .i64 index, .string text, .int .i64 low, .int .i64 high] 34));obtain ⟨p, hp⟩ : ∃ p, Zl ⟨15, aH, index, text, ⟨low, high⟩⟩ = p := ⟨_, rfl⟩;obtain ⟨R, hR⟩ : ∃ R, Zi r ⟨15, aH, index, text, ⟨low, high⟩⟩ = R := ⟨_, rfl⟩;rw [hR];rw [hp] at HWF;unfold Zi at hR;rw [hp] at hR;clear h hv;have HP := zh hp;clear hp
 cases p with
 | false =>
  have HR := zh (show R = false from hR.symm);clear hR;go_enter Tryz.func52, Tryz.ntmps52;go_wp2_with fail;refine (HWF.o _).mono ?_;rintro e w2 ⟨rfl, hb2⟩;have HB2 := zh (HB.o.trans (Below.mono hb2 HB.o.size));clear hb2;go_wp2_with fail;go_ret;exact ⟨Zx HR.o.symm, HB2.o⟩
 | true =>
  rw [Bool.true_and] at hR;have HR := zh (show R = Zaq r aH 2 from by rw [← hR]; simp [Zaz, Zau]);clear hR;go_enter Tryz.func52, Tryz.ntmps52;go_wp2_with fail;refine (HWF.o _).mono ?_;rintro e w2 ⟨rfl, hb2⟩;replace HST := zh (HST.o.later hb2);replace HM := zC hb2 HM;replace HB := zh (HB.o.trans (Below.mono hb2 HB.o.size));clear hb2;have m0 := cz3 HM.o;go_wp2_with fail;refine (Zal r B cs F w2 aH 2 HST.o).mono ?_;rintro e w3 ⟨rfl, rfl⟩;go_wp2_with fail;go_ret;exact ⟨Zx HR.o.symm, HB.o⟩
theorem Zqi (r : Zf) (B : Nat) (cs : List Value) (F : Nat → Prop) (w : World) (aH index low high : Int) (text : ByteArray) (h : Z1 F w B r cs) (hv : Zd F w ⟨16, aH, index, text, ⟨low, high⟩⟩ [.int .i64 16, .int .i64 aH, .int .i64 index, .string text, .int .i64 low, .int .i64 high]) :
  Calls Tryz.prog 52 #[.pointer (some ⟨B, 0, none⟩), .agg #[.int .i64 16, .int .i64 aH, .int .i64 index, .string text, .int .i64 low, .int .i64 high]] w fun e w' => e = .returned (.bool (Zi r ⟨16, aH, index, text, ⟨low, high⟩⟩)) ∧ Below w.heap.size w w' := by
 have HWF := zh (fun x => Zq ⟨16, aH, index, text, ⟨low, high⟩⟩ _ F x (show Zd F x _ _ from hv));have hin : Zs aH ∧ Zs index := ⟨hv.2.2.1, hv.2.2.2.1⟩;have HST := zh (h.later ((Za.refl w).alloc (.cells #[.int .i64 16, .int .i64 aH, .int .i64 index, .string text, .int .i64 low, .int .i64 high] 34)));have HM := zh (heap_alloc_new w (.cells #[.int .i64 16, .int .i64 aH, .int .i64 index, .string text, .int .i64 low, .int .i64 high] 34));have HB := zh ((Below.refl w.heap.size w).alloc (Nat.le_refl _) (.cells #[.int .i64 16, .int .i64 aH, .int .i64 index, .string text, .int .i64 low, .int .i64 high] 34));obtain ⟨p, hp⟩ : ∃ p, Zl ⟨16, aH, index, text, ⟨low, high⟩⟩ = p := ⟨_, rfl⟩;obtain ⟨R, hR⟩ : ∃ R, Zi r ⟨16, aH, index, text, ⟨low, high⟩⟩ = R := ⟨_, rfl⟩;rw [hR];rw [hp] at HWF;unfold Zi at hR;rw [hp] at hR;clear h hv;have HP := zh hp;clear hp
 cases p with
 | false =>
  have HR := zh (show R = false from hR.symm);clear hR;go_enter Tryz.func52, Tryz.ntmps52;go_wp2_with fail;refine (HWF.o _).mono ?_;rintro e w2 ⟨rfl, hb2⟩;have HB2 := zh (HB.o.trans (Below.mono hb2 HB.o.size));clear hb2;go_wp2_with fail;go_ret;exact ⟨Zx HR.o.symm, HB2.o⟩
 | true =>
  rw [Bool.true_and] at hR;have HR := zh (show R = (Zaq r aH 5 && decide (index < (Zca r aH : Int))) from by rw [← hR]; simp [Zaz, Zau]);have HN := zh (Zdt HP.o (Or.inl (by simp [Zau])));have HI := zh (Zii HP.o);clear hR;go_enter Tryz.func52, Tryz.ntmps52;go_wp2_with fail;refine (HWF.o _).mono ?_;rintro e w2 ⟨rfl, hb2⟩;replace HST := zh (HST.o.later hb2);replace HM := zC hb2 HM;replace HB := zh (HB.o.trans (Below.mono hb2 HB.o.size));clear hb2;have m0 := cz3 HM.o;go_upto_region 27 with (fail);clear m0;obtain ⟨M, hM⟩ : ∃ M, w.heap.size = M := ⟨_, rfl⟩;rw [hM] at HM ⊢;obtain ⟨q, hq⟩ : ∃ q, Zaq r aH 5 = q := ⟨_, rfl⟩;rw [hq] at HR;have HQ := zh hq;clear hq
  cases q with
  | false =>
   refine Zu (fun W hW => ?_);have hWL : Za w2 W := by rw [hW]; exact (Za.refl _).drew
   have HMW := zC hWL HM;have HSW := zh (HST.o.later hWL);have HBW := zh (HB.o.trans (Below.mono hWL HB.o.size));have hMW : M < W.heap.size := Zb HMW.o;have mW0 := cz3 HMW.o;have hSB := HSW.o.lt;clear hW hWL
   repeat go_big_quiet_step (fail)
   go_big_quiet_want
   go_big_quiet_op
   apply Exists.intro
   refine ⟨?_, ?_⟩
   ·refine (Zal r B cs F W aH 5 HSW.o).mono ?_; rw [HQ.o]; rintro e w6 ⟨rfl, rfl⟩; exact ⟨rfl, rfl⟩
   go_big_quiet_on
   repeat go_big_quiet_step (fail)
   refine wpQuiet_nil ?_;go_wp2_with fail;go_ret;exact ⟨Zx HR.o.symm, HBW.o⟩
  | true =>
   have hlen : aH < (r.aA.length : Int) := by
    rcases Int.lt_or_le aH r.aA.length with h | h
    ·exact h
    ·have := Zda (r := r) (n := aH) (k := 5) (by omega); rw [HQ.o] at this; cases this
   obtain ⟨i, hi⟩ : ∃ i : Nat, aH = i := ⟨aH.toNat, by have := HN.o; omega⟩;subst hi;have hlt : i < r.aA.length := by omega
   have hlt' : (i : Int) < r.aA.length := hlen;have HR2 := zh (show R = decide (index < (r.aA[i].aJ.length : Int)) from by rw [HR.o, Zbm hlt]; rfl);refine Zu (fun W hW => ?_);have hWL : Za w2 W := by rw [hW]; exact (Za.refl _).drew
   have HMW := zC hWL HM;have HSW := zh (HST.o.later hWL);have HBW := zh (HB.o.trans (Below.mono hWL HB.o.size));have hMW : M < W.heap.size := Zb HMW.o;have mW0 := cz3 HMW.o;obtain ⟨A, c, cW, hc, hcm, hrow⟩ := HSW.o.aA;have hSB := HSW.o.lt;unfold maxLen at hcm;obtain ⟨b, o, Ai, ci, Ak, ck, rfl, hb, e0, e1, e2, e3, e4, hIt, hKy, _⟩ := Z1.obj hrow hlt;clear hW hWL hrow hIt hKy
   repeat go_big_quiet_step (fail)
   go_big_quiet_want
   go_big_quiet_op
   apply Exists.intro
   refine ⟨?_, ?_⟩
   ·refine (Zal r B cs F W (i : Int) 5 HSW.o).mono ?_; rw [HQ.o]; rintro e w6 ⟨rfl, rfl⟩; exact ⟨rfl, rfl⟩
   go_big_quiet_on
   repeat go_big_quiet_step (fail)
   refine wpQuiet_nil ?_;go_wp2_with fail;go_ret;exact ⟨Zx HR2.o.symm, HBW.o⟩
theorem Zqj (r : Zf) (B : Nat) (cs : List Value) (F : Nat → Prop) (w : World) (aH index low high : Int) (text : ByteArray) (h : Z1 F w B r cs) (hv : Zd F w ⟨17, aH, index, text, ⟨low, high⟩⟩ [.int .i64 17, .int .i64 aH, .int .i64 index, .string text, .int .i64 low, .int .i64 high]) :
  Calls Tryz.prog 52 #[.pointer (some ⟨B, 0, none⟩), .agg #[.int .i64 17, .int .i64 aH, .int .i64 index, .string text, .int .i64 low, .int .i64 high]] w fun e w' => e = .returned (.bool (Zi r ⟨17, aH, index, text, ⟨low, high⟩⟩)) ∧ Below w.heap.size w w' := by
 have HWF := zh (fun x => Zq ⟨17, aH, index, text, ⟨low, high⟩⟩ _ F x (show Zd F x _ _ from hv));have hin : Zs aH ∧ Zs index := ⟨hv.2.2.1, hv.2.2.2.1⟩;have HST := zh (h.later ((Za.refl w).alloc (.cells #[.int .i64 17, .int .i64 aH, .int .i64 index, .string text, .int .i64 low, .int .i64 high] 34)));have HM := zh (heap_alloc_new w (.cells #[.int .i64 17, .int .i64 aH, .int .i64 index, .string text, .int .i64 low, .int .i64 high] 34));have HB := zh ((Below.refl w.heap.size w).alloc (Nat.le_refl _) (.cells #[.int .i64 17, .int .i64 aH, .int .i64 index, .string text, .int .i64 low, .int .i64 high] 34));obtain ⟨p, hp⟩ : ∃ p, Zl ⟨17, aH, index, text, ⟨low, high⟩⟩ = p := ⟨_, rfl⟩;obtain ⟨R, hR⟩ : ∃ R, Zi r ⟨17, aH, index, text, ⟨low, high⟩⟩ = R := ⟨_, rfl⟩;rw [hR];rw [hp] at HWF;unfold Zi at hR;rw [hp] at hR;clear h hv;have HP := zh hp;clear hp
 cases p with
 | false =>
  have HR := zh (show R = false from hR.symm);clear hR;go_enter Tryz.func52, Tryz.ntmps52;go_wp2_with fail;refine (HWF.o _).mono ?_;rintro e w2 ⟨rfl, hb2⟩;have HB2 := zh (HB.o.trans (Below.mono hb2 HB.o.size));clear hb2;go_wp2_with fail;go_ret;exact ⟨Zx HR.o.symm, HB2.o⟩
 | true =>
  rw [Bool.true_and] at hR;have HR := zh (show R = Zaq r aH 8 from by rw [← hR]; simp [Zaz, Zau]);clear hR;go_enter Tryz.func52, Tryz.ntmps52;go_wp2_with fail;refine (HWF.o _).mono ?_;rintro e w2 ⟨rfl, hb2⟩;replace HST := zh (HST.o.later hb2);replace HM := zC hb2 HM;replace HB := zh (HB.o.trans (Below.mono hb2 HB.o.size));clear hb2;have m0 := cz3 HM.o;go_wp2_with fail;refine (Zal r B cs F w2 aH 8 HST.o).mono ?_;rintro e w3 ⟨rfl, rfl⟩;go_wp2_with fail;go_ret;exact ⟨Zx HR.o.symm, HB.o⟩
theorem Zqk (r : Zf) (B : Nat) (cs : List Value) (F : Nat → Prop) (w : World) (aH index low high : Int) (text : ByteArray) (h : Z1 F w B r cs) (hv : Zd F w ⟨18, aH, index, text, ⟨low, high⟩⟩ [.int .i64 18, .int .i64 aH, .int .i64 index, .string text, .int .i64 low, .int .i64 high]) :
  Calls Tryz.prog 52 #[.pointer (some ⟨B, 0, none⟩), .agg #[.int .i64 18, .int .i64 aH, .int .i64 index, .string text, .int .i64 low, .int .i64 high]] w fun e w' => e = .returned (.bool (Zi r ⟨18, aH, index, text, ⟨low, high⟩⟩)) ∧ Below w.heap.size w w' := by
 have HWF := zh (fun x => Zq ⟨18, aH, index, text, ⟨low, high⟩⟩ _ F x (show Zd F x _ _ from hv));have hin : Zs aH ∧ Zs index := ⟨hv.2.2.1, hv.2.2.2.1⟩;have HST := zh (h.later ((Za.refl w).alloc (.cells #[.int .i64 18, .int .i64 aH, .int .i64 index, .string text, .int .i64 low, .int .i64 high] 34)));have HM := zh (heap_alloc_new w (.cells #[.int .i64 18, .int .i64 aH, .int .i64 index, .string text, .int .i64 low, .int .i64 high] 34));have HB := zh ((Below.refl w.heap.size w).alloc (Nat.le_refl _) (.cells #[.int .i64 18, .int .i64 aH, .int .i64 index, .string text, .int .i64 low, .int .i64 high] 34));obtain ⟨p, hp⟩ : ∃ p, Zl ⟨18, aH, index, text, ⟨low, high⟩⟩ = p := ⟨_, rfl⟩;obtain ⟨R, hR⟩ : ∃ R, Zi r ⟨18, aH, index, text, ⟨low, high⟩⟩ = R := ⟨_, rfl⟩;rw [hR];rw [hp] at HWF;unfold Zi at hR;rw [hp] at hR;clear h hv;have HP := zh hp;clear hp
 cases p with
 | false =>
  have HR := zh (show R = false from hR.symm);clear hR;go_enter Tryz.func52, Tryz.ntmps52;go_wp2_with fail;refine (HWF.o _).mono ?_;rintro e w2 ⟨rfl, hb2⟩;have HB2 := zh (HB.o.trans (Below.mono hb2 HB.o.size));clear hb2;go_wp2_with fail;go_ret;exact ⟨Zx HR.o.symm, HB2.o⟩
 | true =>
  rw [Bool.true_and] at hR;have HR := zh (show R = true from by rw [← hR]; simp [Zaz, Zau]);clear hR;go_enter Tryz.func52, Tryz.ntmps52;go_wp2_with fail;refine (HWF.o _).mono ?_;rintro e w2 ⟨rfl, hb2⟩;replace HST := zh (HST.o.later hb2);replace HM := zC hb2 HM;replace HB := zh (HB.o.trans (Below.mono hb2 HB.o.size));clear hb2;have m0 := cz3 HM.o;go_wp2_with fail;go_ret;exact ⟨Zx HR.o.symm, HB.o⟩
theorem Zql (r : Zf) (B : Nat) (cs : List Value) (F : Nat → Prop) (w : World) (aH index low high : Int) (text : ByteArray) (h : Z1 F w B r cs) (hv : Zd F w ⟨19, aH, index, text, ⟨low, high⟩⟩ [.int .i64 19, .int .i64 aH, .int .i64 index, .string text, .int .i64 low, .int .i64 high]) :
  Calls Tryz.prog 52 #[.pointer (some ⟨B, 0, none⟩), .agg #[.int .i64 19, .int .i64 aH, .int .i64 index, .string text, .int .i64 low, .int .i64 high]] w fun e w' => e = .returned (.bool (Zi r ⟨19, aH, index, text, ⟨low, high⟩⟩)) ∧ Below w.heap.size w w' := by
 have HWF := zh (fun x => Zq ⟨19, aH, index, text, ⟨low, high⟩⟩ _ F x (show Zd F x _ _ from hv));have hin : Zs aH ∧ Zs index := ⟨hv.2.2.1, hv.2.2.2.1⟩;have HST := zh (h.later ((Za.refl w).alloc (.cells #[.int .i64 19, .int .i64 aH, .int .i64 index, .string text, .int .i64 low, .int .i64 high] 34)));have HM := zh (heap_alloc_new w (.cells #[.int .i64 19, .int .i64 aH, .int .i64 index, .string text, .int .i64 low, .int .i64 high] 34));have HB := zh ((Below.refl w.heap.size w).alloc (Nat.le_refl _) (.cells #[.int .i64 19, .int .i64 aH, .int .i64 index, .string text, .int .i64 low, .int .i64 high] 34));obtain ⟨p, hp⟩ : ∃ p, Zl ⟨19, aH, index, text, ⟨low, high⟩⟩ = p := ⟨_, rfl⟩;obtain ⟨R, hR⟩ : ∃ R, Zi r ⟨19, aH, index, text, ⟨low, high⟩⟩ = R := ⟨_, rfl⟩;rw [hR];rw [hp] at HWF;unfold Zi at hR;rw [hp] at hR;clear h hv;have HP := zh hp;clear hp
 cases p with
 | false =>
  have HR := zh (show R = false from hR.symm);clear hR;go_enter Tryz.func52, Tryz.ntmps52;go_wp2_with fail;refine (HWF.o _).mono ?_;rintro e w2 ⟨rfl, hb2⟩;have HB2 := zh (HB.o.trans (Below.mono hb2 HB.o.size));clear hb2;go_wp2_with fail;go_ret;exact ⟨Zx HR.o.symm, HB2.o⟩
 | true =>
  rw [Bool.true_and] at hR;have HR := zh (show R = Zaq r aH 1 from by rw [← hR]; simp [Zaz, Zau]);clear hR;go_enter Tryz.func52, Tryz.ntmps52;go_wp2_with fail;refine (HWF.o _).mono ?_;rintro e w2 ⟨rfl, hb2⟩;replace HST := zh (HST.o.later hb2);replace HM := zC hb2 HM;replace HB := zh (HB.o.trans (Below.mono hb2 HB.o.size));clear hb2;have m0 := cz3 HM.o;go_wp2_with fail;refine (Zal r B cs F w2 aH 1 HST.o).mono ?_;rintro e w3 ⟨rfl, rfl⟩;go_wp2_with fail;go_ret;exact ⟨Zx HR.o.symm, HB.o⟩
theorem Zqm (r : Zf) (B : Nat) (cs : List Value) (F : Nat → Prop) (w : World) (aH index low high : Int) (text : ByteArray) (h : Z1 F w B r cs) (hv : Zd F w ⟨20, aH, index, text, ⟨low, high⟩⟩ [.int .i64 20, .int .i64 aH, .int .i64 index, .string text, .int .i64 low, .int .i64 high]) :
  Calls Tryz.prog 52 #[.pointer (some ⟨B, 0, none⟩), .agg #[.int .i64 20, .int .i64 aH, .int .i64 index, .string text, .int .i64 low, .int .i64 high]] w fun e w' => e = .returned (.bool (Zi r ⟨20, aH, index, text, ⟨low, high⟩⟩)) ∧ Below w.heap.size w w' := by
 have HWF := zh (fun x => Zq ⟨20, aH, index, text, ⟨low, high⟩⟩ _ F x (show Zd F x _ _ from hv));have hin : Zs aH ∧ Zs index := ⟨hv.2.2.1, hv.2.2.2.1⟩;have HST := zh (h.later ((Za.refl w).alloc (.cells #[.int .i64 20, .int .i64 aH, .int .i64 index, .string text, .int .i64 low, .int .i64 high] 34)));have HM := zh (heap_alloc_new w (.cells #[.int .i64 20, .int .i64 aH, .int .i64 index, .string text, .int .i64 low, .int .i64 high] 34));have HB := zh ((Below.refl w.heap.size w).alloc (Nat.le_refl _) (.cells #[.int .i64 20, .int .i64 aH, .int .i64 index, .string text, .int .i64 low, .int .i64 high] 34));obtain ⟨p, hp⟩ : ∃ p, Zl ⟨20, aH, index, text, ⟨low, high⟩⟩ = p := ⟨_, rfl⟩;obtain ⟨R, hR⟩ : ∃ R, Zi r ⟨20, aH, index, text, ⟨low, high⟩⟩ = R := ⟨_, rfl⟩;rw [hR];rw [hp] at HWF;unfold Zi at hR;rw [hp] at hR;clear h hv;have HP := zh hp;clear hp
 cases p with
 | false =>
  have HR := zh (show R = false from hR.symm);clear hR;go_enter Tryz.func52, Tryz.ntmps52;go_wp2_with fail;refine (HWF.o _).mono ?_;rintro e w2 ⟨rfl, hb2⟩;have HB2 := zh (HB.o.trans (Below.mono hb2 HB.o.size));clear hb2;go_wp2_with fail;go_ret;exact ⟨Zx HR.o.symm, HB2.o⟩
 | true =>
  rw [Bool.true_and] at hR;have HR := zh (show R = Zaq r aH 9 from by rw [← hR]; simp [Zaz, Zau]);clear hR;go_enter Tryz.func52, Tryz.ntmps52;go_wp2_with fail;refine (HWF.o _).mono ?_;rintro e w2 ⟨rfl, hb2⟩;replace HST := zh (HST.o.later hb2);replace HM := zC hb2 HM;replace HB := zh (HB.o.trans (Below.mono hb2 HB.o.size));clear hb2;have m0 := cz3 HM.o;go_wp2_with fail;refine (Zal r B cs F w2 aH 9 HST.o).mono ?_;rintro e w3 ⟨rfl, rfl⟩;go_wp2_with fail;go_ret;exact ⟨Zx HR.o.symm, HB.o⟩
theorem Zag (r : Zf) (B : Nat) (cs : List Value) (F : Nat → Prop) (w : World) (v : Ze) (vs : List Value) (h : Z1 F w B r cs) (hv : Zd F w v vs) :
  Calls Tryz.prog 52 #[.pointer (some ⟨B, 0, none⟩), .agg vs.toArray] w fun e w' => e = .returned (.bool (Zi r v)) ∧ Below w.heap.size w w' := by
 have hv0 := hv;obtain ⟨rfl, _⟩ := hv;obtain ⟨kind, aH, index, text, low, high⟩ := v
 by_cases hk : 0 ≤ kind ∧ kind ≤ 20
 ·have hk2 : kind = 0 ∨ kind = 1 ∨ kind = 2 ∨ kind = 3 ∨ kind = 4 ∨ kind = 5 ∨ kind = 6 ∨ kind = 7 ∨ kind = 8 ∨ kind = 9 ∨ kind = 10 ∨ kind = 11 ∨ kind = 12 ∨ kind = 13 ∨ kind = 14 ∨ kind = 15 ∨ kind = 16 ∨ kind = 17 ∨ kind = 18 ∨ kind = 19 ∨ kind = 20 := by omega
  clear hk
  rcases hk2 with rfl | rfl | rfl | rfl | rfl | rfl | rfl | rfl | rfl | rfl | rfl | rfl | rfl | rfl | rfl | rfl | rfl | rfl | rfl | rfl | rfl
  ·exact Zrv r B cs F w aH index low high text h hv0
  ·exact Zrw r B cs F w aH index low high text h hv0
  ·exact Zrx r B cs F w aH index low high text h hv0
  ·exact Zry r B cs F w aH index low high text h hv0
  ·exact Zrz r B cs F w aH index low high text h hv0
  ·exact Zr0 r B cs F w aH index low high text h hv0
  ·exact Zr1 r B cs F w aH index low high text h hv0
  ·exact Zr2 r B cs F w aH index low high text h hv0
  ·exact Zr3 r B cs F w aH index low high text h hv0
  ·exact Zr4 r B cs F w aH index low high text h hv0
  ·exact Zqc r B cs F w aH index low high text h hv0
  ·exact Zqd r B cs F w aH index low high text h hv0
  ·exact Zqe r B cs F w aH index low high text h hv0
  ·exact Zqf r B cs F w aH index low high text h hv0
  ·exact Zqg r B cs F w aH index low high text h hv0
  ·exact Zqh r B cs F w aH index low high text h hv0
  ·exact Zqi r B cs F w aH index low high text h hv0
  ·exact Zqj r B cs F w aH index low high text h hv0
  ·exact Zqk r B cs F w aH index low high text h hv0
  ·exact Zql r B cs F w aH index low high text h hv0
  ·exact Zqm r B cs F w aH index low high text h hv0
 ·have hp : Zl ⟨kind, aH, index, text, ⟨low, high⟩⟩ = false := by
   cases hq : Zl ⟨kind, aH, index, text, ⟨low, high⟩⟩ with
   | false => rfl
   | true => exact absurd (Zgz hq) hk
  have HWF := zh (fun x => Zq ⟨kind, aH, index, text, ⟨low, high⟩⟩ _ F x (show Zd F x _ _ from hv0));have HB := zh ((Below.refl w.heap.size w).alloc (Nat.le_refl _) (.cells #[.int .i64 kind, .int .i64 aH, .int .i64 index, .string text, .int .i64 low, .int .i64 high] 34));have HR := zh (show Zi r ⟨kind, aH, index, text, ⟨low, high⟩⟩ = false by unfold Zi; rw [hp]; rfl);rw [hp] at HWF;rw [HR.o];clear hp hk h hv0;go_enter Tryz.func52, Tryz.ntmps52;go_wp2_with fail;refine (HWF.o _).mono ?_;rintro e w2 ⟨rfl, hb2⟩;have HB2 := zh (HB.o.trans (Below.mono hb2 HB.o.size));clear hb2;go_wp2_with fail;go_ret;exact ⟨rfl, HB2.o⟩
theorem Zk9 (k : Int) (w : World) (h : 0 ≤ k ∧ k ≤ 20) :
  Calls Tryz.prog 103 #[.int .i64 k] w fun e w' => e = .returned (.int .i64 (Zau k)) ∧ w' = w := by
 have hk : k = 0 ∨ k = 1 ∨ k = 2 ∨ k = 3 ∨ k = 4 ∨ k = 5 ∨ k = 6 ∨ k = 7 ∨ k = 8 ∨ k = 9 ∨ k = 10 ∨ k = 11 ∨ k = 12 ∨ k = 13 ∨ k = 14 ∨ k = 15 ∨ k = 16 ∨ k = 17 ∨ k = 18 ∨ k = 19 ∨ k = 20 := by omega
 clear h
 rcases hk with rfl | rfl | rfl | rfl | rfl | rfl | rfl | rfl | rfl | rfl | rfl | rfl | rfl | rfl | rfl | rfl | rfl | rfl | rfl | rfl | rfl
 all_goals
  go_enter Tryz.func103, Tryz.ntmps103;go_wp2_with fail;go_ret;exact ⟨rfl, rfl⟩
theorem Zqn (aH index low high : Int) (text : ByteArray) (w : World) :
  Calls Tryz.prog 102 #[.agg #[.int .i64 (0), .int .i64 aH, .int .i64 index, .string text, .int .i64 low, .int .i64 high]] w fun e w' => e = .returned (.bool (Zl ⟨0, aH, index, text, ⟨low, high⟩⟩)) ∧ Below w.heap.size w w' := by
 have HTS := zh (fun h => Zn (t := text) h);obtain ⟨R, hR⟩ : ∃ R, Zl ⟨0, aH, index, text, ⟨low, high⟩⟩ = R := ⟨_, rfl⟩;rw [hR];have HR := zh hR;clear hR;go_enter Tryz.func102, Tryz.ntmps102;go_wp2_with fail
 all_goals go_ret
 all_goals (refine ⟨?_, (Below.refl _ _).alloc (Nat.le_refl _) _⟩; rw [← HR.o])
 all_goals first
  | (simp [Zl, *]; done)
  | (simp only [Zl]; simp [*]; omega)
  | (have h0 := HTS.o (by assumption); simp only [Zl]; simp [*] <;> omega)
theorem Zqo (aH index low high : Int) (text : ByteArray) (w : World) :
  Calls Tryz.prog 102 #[.agg #[.int .i64 (1), .int .i64 aH, .int .i64 index, .string text, .int .i64 low, .int .i64 high]] w fun e w' => e = .returned (.bool (Zl ⟨1, aH, index, text, ⟨low, high⟩⟩)) ∧ Below w.heap.size w w' := by
 have HTS := zh (fun h => Zn (t := text) h);obtain ⟨R, hR⟩ : ∃ R, Zl ⟨1, aH, index, text, ⟨low, high⟩⟩ = R := ⟨_, rfl⟩;rw [hR];have HR := zh hR;clear hR;go_enter Tryz.func102, Tryz.ntmps102;go_wp2_with fail
 all_goals go_ret
 all_goals (refine ⟨?_, (Below.refl _ _).alloc (Nat.le_refl _) _⟩; rw [← HR.o])
 all_goals first
  | (simp [Zl, *]; done)
  | (simp only [Zl]; simp [*]; omega)
  | (have h0 := HTS.o (by assumption); simp only [Zl]; simp [*] <;> omega)
theorem Zqp (aH index low high : Int) (text : ByteArray) (w : World) :
  Calls Tryz.prog 102 #[.agg #[.int .i64 (2), .int .i64 aH, .int .i64 index, .string text, .int .i64 low, .int .i64 high]] w fun e w' => e = .returned (.bool (Zl ⟨2, aH, index, text, ⟨low, high⟩⟩)) ∧ Below w.heap.size w w' := by
 have HTS := zh (fun h => Zn (t := text) h);obtain ⟨R, hR⟩ : ∃ R, Zl ⟨2, aH, index, text, ⟨low, high⟩⟩ = R := ⟨_, rfl⟩;rw [hR];have HR := zh hR;clear hR;go_enter Tryz.func102, Tryz.ntmps102;go_wp2_with fail
 all_goals go_ret
 all_goals (refine ⟨?_, (Below.refl _ _).alloc (Nat.le_refl _) _⟩; rw [← HR.o])
 all_goals first
  | (simp [Zl, *]; done)
  | (simp only [Zl]; simp [*]; omega)
  | (have h0 := HTS.o (by assumption); simp only [Zl]; simp [*] <;> omega)
theorem Zqq (aH index low high : Int) (text : ByteArray) (w : World) :
  Calls Tryz.prog 102 #[.agg #[.int .i64 (3), .int .i64 aH, .int .i64 index, .string text, .int .i64 low, .int .i64 high]] w fun e w' => e = .returned (.bool (Zl ⟨3, aH, index, text, ⟨low, high⟩⟩)) ∧ Below w.heap.size w w' := by
 have HTS := zh (fun h => Zn (t := text) h);obtain ⟨R, hR⟩ : ∃ R, Zl ⟨3, aH, index, text, ⟨low, high⟩⟩ = R := ⟨_, rfl⟩;rw [hR];have HR := zh hR;clear hR;go_enter Tryz.func102, Tryz.ntmps102;go_wp2_with fail
 all_goals go_ret
 all_goals (refine ⟨?_, (Below.refl _ _).alloc (Nat.le_refl _) _⟩; rw [← HR.o])
 all_goals first
  | (simp [Zl, *]; done)
  | (simp only [Zl]; simp [*]; omega)
  | (have h0 := HTS.o (by assumption); simp only [Zl]; simp [*] <;> omega)
theorem Zqr (aH index low high : Int) (text : ByteArray) (w : World) :
  Calls Tryz.prog 102 #[.agg #[.int .i64 (4), .int .i64 aH, .int .i64 index, .string text, .int .i64 low, .int .i64 high]] w fun e w' => e = .returned (.bool (Zl ⟨4, aH, index, text, ⟨low, high⟩⟩)) ∧ Below w.heap.size w w' := by
 have HTS := zh (fun h => Zn (t := text) h);obtain ⟨R, hR⟩ : ∃ R, Zl ⟨4, aH, index, text, ⟨low, high⟩⟩ = R := ⟨_, rfl⟩;rw [hR];have HR := zh hR;clear hR;go_enter Tryz.func102, Tryz.ntmps102;go_wp2_with fail
 all_goals go_ret
 all_goals (refine ⟨?_, (Below.refl _ _).alloc (Nat.le_refl _) _⟩; rw [← HR.o])
 all_goals first
  | (simp [Zl, *]; done)
  | (simp only [Zl]; simp [*]; omega)
  | (have h0 := HTS.o (by assumption); simp only [Zl]; simp [*] <;> omega)
theorem Zqs (aH index low high : Int) (text : ByteArray) (w : World) :
  Calls Tryz.prog 102 #[.agg #[.int .i64 (5), .int .i64 aH, .int .i64 index, .string text, .int .i64 low, .int .i64 high]] w fun e w' => e = .returned (.bool (Zl ⟨5, aH, index, text, ⟨low, high⟩⟩)) ∧ Below w.heap.size w w' := by
 have HTS := zh (fun h => Zn (t := text) h);obtain ⟨R, hR⟩ : ∃ R, Zl ⟨5, aH, index, text, ⟨low, high⟩⟩ = R := ⟨_, rfl⟩;rw [hR];have HR := zh hR;clear hR;go_enter Tryz.func102, Tryz.ntmps102;go_wp2_with fail
 all_goals go_ret
 all_goals (refine ⟨?_, (Below.refl _ _).alloc (Nat.le_refl _) _⟩; rw [← HR.o])
 all_goals first
  | (simp [Zl, *]; done)
  | (simp only [Zl]; simp [*]; omega)
  | (have h0 := HTS.o (by assumption); simp only [Zl]; simp [*] <;> omega)
theorem Zqt (aH index low high : Int) (text : ByteArray) (w : World) :
  Calls Tryz.prog 102 #[.agg #[.int .i64 (6), .int .i64 aH, .int .i64 index, .string text, .int .i64 low, .int .i64 high]] w fun e w' => e = .returned (.bool (Zl ⟨6, aH, index, text, ⟨low, high⟩⟩)) ∧ Below w.heap.size w w' := by
 have HTS := zh (fun h => Zn (t := text) h);obtain ⟨R, hR⟩ : ∃ R, Zl ⟨6, aH, index, text, ⟨low, high⟩⟩ = R := ⟨_, rfl⟩;rw [hR];have HR := zh hR;clear hR;go_enter Tryz.func102, Tryz.ntmps102;go_wp2_with fail
 all_goals go_ret
 all_goals (refine ⟨?_, (Below.refl _ _).alloc (Nat.le_refl _) _⟩; rw [← HR.o])
 all_goals first
  | (simp [Zl, *]; done)
  | (simp only [Zl]; simp [*]; omega)
  | (have h0 := HTS.o (by assumption); simp only [Zl]; simp [*] <;> omega)
theorem Zqu (aH index low high : Int) (text : ByteArray) (w : World) :
  Calls Tryz.prog 102 #[.agg #[.int .i64 (7), .int .i64 aH, .int .i64 index, .string text, .int .i64 low, .int .i64 high]] w fun e w' => e = .returned (.bool (Zl ⟨7, aH, index, text, ⟨low, high⟩⟩)) ∧ Below w.heap.size w w' := by
 have HTS := zh (fun h => Zn (t := text) h);obtain ⟨R, hR⟩ : ∃ R, Zl ⟨7, aH, index, text, ⟨low, high⟩⟩ = R := ⟨_, rfl⟩;rw [hR];have HR := zh hR;clear hR;go_enter Tryz.func102, Tryz.ntmps102;go_wp2_with fail
 all_goals go_ret
 all_goals (refine ⟨?_, (Below.refl _ _).alloc (Nat.le_refl _) _⟩; rw [← HR.o])
 all_goals first
  | (simp [Zl, *]; done)
  | (simp only [Zl]; simp [*]; omega)
  | (have h0 := HTS.o (by assumption); simp only [Zl]; simp [*] <;> omega)
theorem Zqv (aH index low high : Int) (text : ByteArray) (w : World) :
  Calls Tryz.prog 102 #[.agg #[.int .i64 (8), .int .i64 aH, .int .i64 index, .string text, .int .i64 low, .int .i64 high]] w fun e w' => e = .returned (.bool (Zl ⟨8, aH, index, text, ⟨low, high⟩⟩)) ∧ Below w.heap.size w w' := by
 have HTS := zh (fun h => Zn (t := text) h);obtain ⟨R, hR⟩ : ∃ R, Zl ⟨8, aH, index, text, ⟨low, high⟩⟩ = R := ⟨_, rfl⟩;rw [hR];have HR := zh hR;clear hR;go_enter Tryz.func102, Tryz.ntmps102;go_wp2_with fail
 all_goals go_ret
 all_goals (refine ⟨?_, (Below.refl _ _).alloc (Nat.le_refl _) _⟩; rw [← HR.o])
 all_goals first
  | (simp [Zl, *]; done)
  | (simp only [Zl]; simp [*]; omega)
  | (have h0 := HTS.o (by assumption); simp only [Zl]; simp [*] <;> omega)
theorem Zqw (aH index low high : Int) (text : ByteArray) (w : World) :
  Calls Tryz.prog 102 #[.agg #[.int .i64 (9), .int .i64 aH, .int .i64 index, .string text, .int .i64 low, .int .i64 high]] w fun e w' => e = .returned (.bool (Zl ⟨9, aH, index, text, ⟨low, high⟩⟩)) ∧ Below w.heap.size w w' := by
 have HTS := zh (fun h => Zn (t := text) h);obtain ⟨R, hR⟩ : ∃ R, Zl ⟨9, aH, index, text, ⟨low, high⟩⟩ = R := ⟨_, rfl⟩;rw [hR];have HR := zh hR;clear hR;go_enter Tryz.func102, Tryz.ntmps102;go_wp2_with fail
 all_goals go_ret
 all_goals (refine ⟨?_, (Below.refl _ _).alloc (Nat.le_refl _) _⟩; rw [← HR.o])
 all_goals first
  | (simp [Zl, *]; done)
  | (simp only [Zl]; simp [*]; omega)
  | (have h0 := HTS.o (by assumption); simp only [Zl]; simp [*] <;> omega)
theorem Zon (aH index low high : Int) (text : ByteArray) (w : World) :
  Calls Tryz.prog 102 #[.agg #[.int .i64 (10), .int .i64 aH, .int .i64 index, .string text, .int .i64 low, .int .i64 high]] w fun e w' => e = .returned (.bool (Zl ⟨10, aH, index, text, ⟨low, high⟩⟩)) ∧ Below w.heap.size w w' := by
 have HTS := zh (fun h => Zn (t := text) h);obtain ⟨R, hR⟩ : ∃ R, Zl ⟨10, aH, index, text, ⟨low, high⟩⟩ = R := ⟨_, rfl⟩;rw [hR];have HR := zh hR;clear hR;go_enter Tryz.func102, Tryz.ntmps102;go_wp2_with fail
 all_goals go_ret
 all_goals (refine ⟨?_, (Below.refl _ _).alloc (Nat.le_refl _) _⟩; rw [← HR.o])
 all_goals first
  | (simp [Zl, *]; done)
  | (simp only [Zl]; simp [*]; omega)
  | (have h0 := HTS.o (by assumption); simp only [Zl]; simp [*] <;> omega)
theorem Zoo (aH index low high : Int) (text : ByteArray) (w : World) :
  Calls Tryz.prog 102 #[.agg #[.int .i64 (11), .int .i64 aH, .int .i64 index, .string text, .int .i64 low, .int .i64 high]] w fun e w' => e = .returned (.bool (Zl ⟨11, aH, index, text, ⟨low, high⟩⟩)) ∧ Below w.heap.size w w' := by
 have HTS := zh (fun h => Zn (t := text) h);obtain ⟨R, hR⟩ : ∃ R, Zl ⟨11, aH, index, text, ⟨low, high⟩⟩ = R := ⟨_, rfl⟩;rw [hR];have HR := zh hR;clear hR;go_enter Tryz.func102, Tryz.ntmps102;go_wp2_with fail
 all_goals go_ret
 all_goals (refine ⟨?_, (Below.refl _ _).alloc (Nat.le_refl _) _⟩; rw [← HR.o])
 all_goals first
  | (simp [Zl, *]; done)
  | (simp only [Zl]; simp [*]; omega)
  | (have h0 := HTS.o (by assumption); simp only [Zl]; simp [*] <;> omega)
theorem Zop (aH index low high : Int) (text : ByteArray) (w : World) :
  Calls Tryz.prog 102 #[.agg #[.int .i64 (12), .int .i64 aH, .int .i64 index, .string text, .int .i64 low, .int .i64 high]] w fun e w' => e = .returned (.bool (Zl ⟨12, aH, index, text, ⟨low, high⟩⟩)) ∧ Below w.heap.size w w' := by
 have HTS := zh (fun h => Zn (t := text) h);obtain ⟨R, hR⟩ : ∃ R, Zl ⟨12, aH, index, text, ⟨low, high⟩⟩ = R := ⟨_, rfl⟩;rw [hR];have HR := zh hR;clear hR;go_enter Tryz.func102, Tryz.ntmps102;go_wp2_with fail
 all_goals go_ret
 all_goals (refine ⟨?_, (Below.refl _ _).alloc (Nat.le_refl _) _⟩; rw [← HR.o])
 all_goals first
  | (simp [Zl, *]; done)
  | (simp only [Zl]; simp [*]; omega)
  | (have h0 := HTS.o (by assumption); simp only [Zl]; simp [*] <;> omega)
theorem Zoq (aH index low high : Int) (text : ByteArray) (w : World) :
  Calls Tryz.prog 102 #[.agg #[.int .i64 (13), .int .i64 aH, .int .i64 index, .string text, .int .i64 low, .int .i64 high]] w fun e w' => e = .returned (.bool (Zl ⟨13, aH, index, text, ⟨low, high⟩⟩)) ∧ Below w.heap.size w w' := by
 have HTS := zh (fun h => Zn (t := text) h);obtain ⟨R, hR⟩ : ∃ R, Zl ⟨13, aH, index, text, ⟨low, high⟩⟩ = R := ⟨_, rfl⟩;rw [hR];have HR := zh hR;clear hR;go_enter Tryz.func102, Tryz.ntmps102;go_wp2_with fail
 all_goals go_ret
 all_goals (refine ⟨?_, (Below.refl _ _).alloc (Nat.le_refl _) _⟩; rw [← HR.o])
 all_goals first
  | (simp [Zl, *]; done)
  | (simp only [Zl]; simp [*]; omega)
  | (have h0 := HTS.o (by assumption); simp only [Zl]; simp [*] <;> omega)
theorem Zor (aH index low high : Int) (text : ByteArray) (w : World) :
  Calls Tryz.prog 102 #[.agg #[.int .i64 (14), .int .i64 aH, .int .i64 index, .string text, .int .i64 low, .int .i64 high]] w fun e w' => e = .returned (.bool (Zl ⟨14, aH, index, text, ⟨low, high⟩⟩)) ∧ Below w.heap.size w w' := by
 have HTS := zh (fun h => Zn (t := text) h);obtain ⟨R, hR⟩ : ∃ R, Zl ⟨14, aH, index, text, ⟨low, high⟩⟩ = R := ⟨_, rfl⟩;rw [hR];have HR := zh hR;clear hR;go_enter Tryz.func102, Tryz.ntmps102;go_wp2_with fail
 all_goals go_ret
 all_goals (refine ⟨?_, (Below.refl _ _).alloc (Nat.le_refl _) _⟩; rw [← HR.o])
 all_goals first
  | (simp [Zl, *]; done)
  | (simp only [Zl]; simp [*]; omega)
  | (have h0 := HTS.o (by assumption); simp only [Zl]; simp [*] <;> omega)
theorem Zos (aH index low high : Int) (text : ByteArray) (w : World) :
  Calls Tryz.prog 102 #[.agg #[.int .i64 (15), .int .i64 aH, .int .i64 index, .string text, .int .i64 low, .int .i64 high]] w fun e w' => e = .returned (.bool (Zl ⟨15, aH, index, text, ⟨low, high⟩⟩)) ∧ Below w.heap.size w w' := by
 have HTS := zh (fun h => Zn (t := text) h);obtain ⟨R, hR⟩ : ∃ R, Zl ⟨15, aH, index, text, ⟨low, high⟩⟩ = R := ⟨_, rfl⟩;rw [hR];have HR := zh hR;clear hR;go_enter Tryz.func102, Tryz.ntmps102;go_wp2_with fail
 all_goals go_ret
 all_goals (refine ⟨?_, (Below.refl _ _).alloc (Nat.le_refl _) _⟩; rw [← HR.o])
 all_goals first
  | (simp [Zl, *]; done)
  | (simp only [Zl]; simp [*]; omega)
  | (have h0 := HTS.o (by assumption); simp only [Zl]; simp [*] <;> omega)
theorem Zot (aH index low high : Int) (text : ByteArray) (w : World) :
  Calls Tryz.prog 102 #[.agg #[.int .i64 (16), .int .i64 aH, .int .i64 index, .string text, .int .i64 low, .int .i64 high]] w fun e w' => e = .returned (.bool (Zl ⟨16, aH, index, text, ⟨low, high⟩⟩)) ∧ Below w.heap.size w w' := by
 have HTS := zh (fun h => Zn (t := text) h);obtain ⟨R, hR⟩ : ∃ R, Zl ⟨16, aH, index, text, ⟨low, high⟩⟩ = R := ⟨_, rfl⟩;rw [hR];have HR := zh hR;clear hR;go_enter Tryz.func102, Tryz.ntmps102;go_wp2_with fail
 all_goals go_ret
 all_goals (refine ⟨?_, (Below.refl _ _).alloc (Nat.le_refl _) _⟩; rw [← HR.o])
 all_goals first
  | (simp [Zl, *]; done)
  | (simp only [Zl]; simp [*]; omega)
  | (have h0 := HTS.o (by assumption); simp only [Zl]; simp [*] <;> omega)
theorem Zou (aH index low high : Int) (text : ByteArray) (w : World) :
  Calls Tryz.prog 102 #[.agg #[.int .i64 (17), .int .i64 aH, .int .i64 index, .string text, .int .i64 low, .int .i64 high]] w fun e w' => e = .returned (.bool (Zl ⟨17, aH, index, text, ⟨low, high⟩⟩)) ∧ Below w.heap.size w w' := by
 have HTS := zh (fun h => Zn (t := text) h);obtain ⟨R, hR⟩ : ∃ R, Zl ⟨17, aH, index, text, ⟨low, high⟩⟩ = R := ⟨_, rfl⟩;rw [hR];have HR := zh hR;clear hR;go_enter Tryz.func102, Tryz.ntmps102;go_wp2_with fail
 all_goals go_ret
 all_goals (refine ⟨?_, (Below.refl _ _).alloc (Nat.le_refl _) _⟩; rw [← HR.o])
 all_goals first
  | (simp [Zl, *]; done)
  | (simp only [Zl]; simp [*]; omega)
  | (have h0 := HTS.o (by assumption); simp only [Zl]; simp [*] <;> omega)
theorem Zov (aH index low high : Int) (text : ByteArray) (w : World) :
  Calls Tryz.prog 102 #[.agg #[.int .i64 (18), .int .i64 aH, .int .i64 index, .string text, .int .i64 low, .int .i64 high]] w fun e w' => e = .returned (.bool (Zl ⟨18, aH, index, text, ⟨low, high⟩⟩)) ∧ Below w.heap.size w w' := by
 have HTS := zh (fun h => Zn (t := text) h);obtain ⟨R, hR⟩ : ∃ R, Zl ⟨18, aH, index, text, ⟨low, high⟩⟩ = R := ⟨_, rfl⟩;rw [hR];have HR := zh hR;clear hR;go_enter Tryz.func102, Tryz.ntmps102;go_wp2_with fail
 all_goals go_ret
 all_goals (refine ⟨?_, (Below.refl _ _).alloc (Nat.le_refl _) _⟩; rw [← HR.o])
 all_goals first
  | (simp [Zl, *]; done)
  | (simp only [Zl]; simp [*]; omega)
  | (have h0 := HTS.o (by assumption); simp only [Zl]; simp [*] <;> omega)
theorem Zow (aH index low high : Int) (text : ByteArray) (w : World) :
  Calls Tryz.prog 102 #[.agg #[.int .i64 (19), .int .i64 aH, .int .i64 index, .string text, .int .i64 low, .int .i64 high]] w fun e w' => e = .returned (.bool (Zl ⟨19, aH, index, text, ⟨low, high⟩⟩)) ∧ Below w.heap.size w w' := by
 have HTS := zh (fun h => Zn (t := text) h);obtain ⟨R, hR⟩ : ∃ R, Zl ⟨19, aH, index, text, ⟨low, high⟩⟩ = R := ⟨_, rfl⟩;rw [hR];have HR := zh hR;clear hR;go_enter Tryz.func102, Tryz.ntmps102;go_wp2_with fail
 all_goals go_ret
 all_goals (refine ⟨?_, (Below.refl _ _).alloc (Nat.le_refl _) _⟩; rw [← HR.o])
 all_goals first
  | (simp [Zl, *]; done)
  | (simp only [Zl]; simp [*]; omega)
  | (have h0 := HTS.o (by assumption); simp only [Zl]; simp [*] <;> omega)
theorem Zox (aH index low high : Int) (text : ByteArray) (w : World) :
  Calls Tryz.prog 102 #[.agg #[.int .i64 (20), .int .i64 aH, .int .i64 index, .string text, .int .i64 low, .int .i64 high]] w fun e w' => e = .returned (.bool (Zl ⟨20, aH, index, text, ⟨low, high⟩⟩)) ∧ Below w.heap.size w w' := by
 have HTS := zh (fun h => Zn (t := text) h);obtain ⟨R, hR⟩ : ∃ R, Zl ⟨20, aH, index, text, ⟨low, high⟩⟩ = R := ⟨_, rfl⟩;rw [hR];have HR := zh hR;clear hR;go_enter Tryz.func102, Tryz.ntmps102;go_wp2_with fail
 all_goals go_ret
 all_goals (refine ⟨?_, (Below.refl _ _).alloc (Nat.le_refl _) _⟩; rw [← HR.o])
 all_goals first
  | (simp [Zl, *]; done)
  | (simp only [Zl]; simp [*]; omega)
  | (have h0 := HTS.o (by assumption); simp only [Zl]; simp [*] <;> omega)
theorem Zmw (kind aH index low high : Int) (text : ByteArray) (w : World) (hk : kind < 0) :
  Calls Tryz.prog 102 #[.agg #[.int .i64 (kind), .int .i64 aH, .int .i64 index, .string text, .int .i64 low, .int .i64 high]] w fun e w' => e = .returned (.bool (Zl ⟨kind, aH, index, text, ⟨low, high⟩⟩)) ∧ Below w.heap.size w w' := by
 have HTS := zh (fun h => Zn (t := text) h);obtain ⟨R, hR⟩ : ∃ R, Zl ⟨kind, aH, index, text, ⟨low, high⟩⟩ = R := ⟨_, rfl⟩;rw [hR];have HR := zh hR;clear hR;have t0 : (kind == 0) = false := by rw [nH]; omega
 have t1 : (kind == 1) = false := by rw [nH]; omega
 have t2 : (kind == 2) = false := by rw [nH]; omega
 have t3 : (kind == 3) = false := by rw [nH]; omega
 have t4 : (kind == 4) = false := by rw [nH]; omega
 have t5 : (kind == 5) = false := by rw [nH]; omega
 have t6 : (kind == 6) = false := by rw [nH]; omega
 have t7 : (kind == 7) = false := by rw [nH]; omega
 have t8 : (kind == 8) = false := by rw [nH]; omega
 have t9 : (kind == 9) = false := by rw [nH]; omega
 have t10 : (kind == 10) = false := by rw [nH]; omega
 have t11 : (kind == 11) = false := by rw [nH]; omega
 have t12 : (kind == 12) = false := by rw [nH]; omega
 have t13 : (kind == 13) = false := by rw [nH]; omega
 have t14 : (kind == 14) = false := by rw [nH]; omega
 have t15 : (kind == 15) = false := by rw [nH]; omega
 have t16 : (kind == 16) = false := by rw [nH]; omega
 have t17 : (kind == 17) = false := by rw [nH]; omega
 have t18 : (kind == 18) = false := by rw [nH]; omega
 have t19 : (kind == 19) = false := by rw [nH]; omega
 have t20 : (kind == 20) = false := by rw [nH]; omega
 have HK := zh (show kind < 0 ∨ 20 < kind by omega);have s1 : decide (kind < 0) = true := by simp; omega
 have s2 : decide ((20 : Int) < kind) = false := by simp; omega
 clear hk;go_enter Tryz.func102, Tryz.ntmps102;go_wp2_with fail
 all_goals go_ret
 all_goals (refine ⟨?_, (Below.refl _ _).alloc (Nat.le_refl _) _⟩; rw [← HR.o])
 all_goals first
  | (simp [Zl, *]; done)
  | (have h0 := HK.o; simp only [Zl]; rw [if_neg (by omega), if_neg (by omega), if_neg (by omega), if_neg (by omega), if_neg (by omega), if_neg (by omega), if_neg (by omega), if_neg (by omega)]; first | done | rfl | simp)
theorem Zmx (kind aH index low high : Int) (text : ByteArray) (w : World) (hk : 20 < kind) :
  Calls Tryz.prog 102 #[.agg #[.int .i64 (kind), .int .i64 aH, .int .i64 index, .string text, .int .i64 low, .int .i64 high]] w fun e w' => e = .returned (.bool (Zl ⟨kind, aH, index, text, ⟨low, high⟩⟩)) ∧ Below w.heap.size w w' := by
 have HTS := zh (fun h => Zn (t := text) h);obtain ⟨R, hR⟩ : ∃ R, Zl ⟨kind, aH, index, text, ⟨low, high⟩⟩ = R := ⟨_, rfl⟩;rw [hR];have HR := zh hR;clear hR;have t0 : (kind == 0) = false := by rw [nH]; omega
 have t1 : (kind == 1) = false := by rw [nH]; omega
 have t2 : (kind == 2) = false := by rw [nH]; omega
 have t3 : (kind == 3) = false := by rw [nH]; omega
 have t4 : (kind == 4) = false := by rw [nH]; omega
 have t5 : (kind == 5) = false := by rw [nH]; omega
 have t6 : (kind == 6) = false := by rw [nH]; omega
 have t7 : (kind == 7) = false := by rw [nH]; omega
 have t8 : (kind == 8) = false := by rw [nH]; omega
 have t9 : (kind == 9) = false := by rw [nH]; omega
 have t10 : (kind == 10) = false := by rw [nH]; omega
 have t11 : (kind == 11) = false := by rw [nH]; omega
 have t12 : (kind == 12) = false := by rw [nH]; omega
 have t13 : (kind == 13) = false := by rw [nH]; omega
 have t14 : (kind == 14) = false := by rw [nH]; omega
 have t15 : (kind == 15) = false := by rw [nH]; omega
 have t16 : (kind == 16) = false := by rw [nH]; omega
 have t17 : (kind == 17) = false := by rw [nH]; omega
 have t18 : (kind == 18) = false := by rw [nH]; omega
 have t19 : (kind == 19) = false := by rw [nH]; omega
 have t20 : (kind == 20) = false := by rw [nH]; omega
 have HK := zh (show kind < 0 ∨ 20 < kind by omega);have s1 : decide (kind < 0) = false := by simp; omega
 have s2 : decide ((20 : Int) < kind) = true := by simp; omega
 clear hk;go_enter Tryz.func102, Tryz.ntmps102;go_wp2_with fail
 all_goals go_ret
 all_goals (refine ⟨?_, (Below.refl _ _).alloc (Nat.le_refl _) _⟩; rw [← HR.o])
 all_goals first
  | (simp [Zl, *]; done)
  | (have h0 := HK.o; simp only [Zl]; rw [if_neg (by omega), if_neg (by omega), if_neg (by omega), if_neg (by omega), if_neg (by omega), if_neg (by omega), if_neg (by omega), if_neg (by omega)]; first | done | rfl | simp)
theorem Ze6 (v : Ze) (cs : List Value) (F : Nat → Prop) (w : World) (h : Zd F w v cs) :
  Calls Tryz.prog 102 #[.agg cs.toArray] w fun e w' => e = .returned (.bool (Zl v)) ∧ Below w.heap.size w w' := by
 obtain ⟨rfl, _⟩ := h;obtain ⟨kind, aH, index, text, low, high⟩ := v;have hk : kind = 0 ∨ kind = 1 ∨ kind = 2 ∨ kind = 3 ∨ kind = 4 ∨ kind = 5 ∨ kind = 6 ∨ kind = 7 ∨ kind = 8 ∨ kind = 9 ∨ kind = 10 ∨ kind = 11 ∨ kind = 12 ∨ kind = 13 ∨ kind = 14 ∨ kind = 15 ∨ kind = 16 ∨ kind = 17 ∨ kind = 18 ∨ kind = 19 ∨ kind = 20 ∨ kind < 0 ∨ 20 < kind := by omega
 rcases hk with rfl | rfl | rfl | rfl | rfl | rfl | rfl | rfl | rfl | rfl | rfl | rfl | rfl | rfl | rfl | rfl | rfl | rfl | rfl | rfl | rfl | hk
 ·exact Zqn aH index low high text w
 ·exact Zqo aH index low high text w
 ·exact Zqp aH index low high text w
 ·exact Zqq aH index low high text w
 ·exact Zqr aH index low high text w
 ·exact Zqs aH index low high text w
 ·exact Zqt aH index low high text w
 ·exact Zqu aH index low high text w
 ·exact Zqv aH index low high text w
 ·exact Zqw aH index low high text w
 ·exact Zon aH index low high text w
 ·exact Zoo aH index low high text w
 ·exact Zop aH index low high text w
 ·exact Zoq aH index low high text w
 ·exact Zor aH index low high text w
 ·exact Zos aH index low high text w
 ·exact Zot aH index low high text w
 ·exact Zou aH index low high text w
 ·exact Zov aH index low high text w
 ·exact Zow aH index low high text w
 ·exact Zox aH index low high text w
 ·rcases hk with hk | hk
  ·exact Zmw kind aH index low high text w hk
  ·exact Zmx kind aH index low high text w hk
theorem Za3 (r : Zf) (B : Nat) (cs : List Value) (F : Nat → Prop) (w : World) (v : Ze) (vs : List Value) (h : Z1 F w B r cs) (hv : Zd F w v vs) :
  Calls Tryz.prog 46 #[.pointer (some ⟨B, 0, none⟩), .agg vs.toArray] w fun e w' => e = .returned (.bool (Zi r v)) ∧ Below w.heap.size w w' := by
 have HWF := zh (fun x => Ze6 v vs F x (show Zd F x _ _ from hv));obtain ⟨rfl, hin⟩ := hv;obtain ⟨kind, aH, index, text, low, high⟩ := v;simp only at HWF hin ⊢;have HST := zh (h.later ((Za.refl w).alloc (.cells #[.int .i64 kind, .int .i64 aH, .int .i64 index, .string text, .int .i64 low, .int .i64 high] 34)));have HM := zh (heap_alloc_new w (.cells #[.int .i64 kind, .int .i64 aH, .int .i64 index, .string text, .int .i64 low, .int .i64 high] 34));have HB := zh ((Below.refl w.heap.size w).alloc (Nat.le_refl _) (.cells #[.int .i64 kind, .int .i64 aH, .int .i64 index, .string text, .int .i64 low, .int .i64 high] 34));obtain ⟨p, hp⟩ : ∃ p, Zl ⟨kind, aH, index, text, ⟨low, high⟩⟩ = p := ⟨_, rfl⟩;obtain ⟨R, hR⟩ : ∃ R, Zi r ⟨kind, aH, index, text, ⟨low, high⟩⟩ = R := ⟨_, rfl⟩;rw [hR];rw [hp] at HWF;unfold Zi at hR;rw [hp] at hR;clear h;have HP := zh hp;clear hp
 cases p with
 | false =>
  have HR := zh (show R = false from hR.symm);clear hR;go_enter Tryz.func46, Tryz.ntmps46;go_wp2_with fail;refine (HWF.o _).mono ?_;rintro e w2 ⟨rfl, hb2⟩;have HB2 := zh (HB.o.trans (Below.mono hb2 HB.o.size));clear hb2;go_wp2_with fail;go_ret;exact ⟨Zx HR.o.symm, HB2.o⟩
 | true =>
  rw [Bool.true_and] at hR;have hkb := Zgz HP.o;simp only at hkb;have HR0 := zh hR;clear hR;go_enter Tryz.func46, Tryz.ntmps46;go_wp2_with fail;refine (HWF.o _).mono ?_;rintro e w2 ⟨rfl, hb2⟩;replace HST := zh (HST.o.later hb2);replace HM := zC hb2 HM;replace HB := zh (HB.o.trans (Below.mono hb2 HB.o.size));clear hb2;have m0 := cq HM.o 0;simp only [nD, nE, nF] at m0;go_wp2_with fail;refine (Zk9 kind _ hkb).mono ?_;rintro e w3 ⟨rfl, rfl⟩;clear m0;obtain ⟨kk, hkk⟩ : ∃ kk, Zau kind = kk := ⟨_, rfl⟩;rw [hkk];have HKK := zh hkk;clear hkk;obtain ⟨M, hM⟩ : ∃ M, w.heap.size = M := ⟨_, rfl⟩;rw [hM] at HM ⊢
  by_cases h0 : kk = 0
  ·have t0 : (kk != 0) = false := by simp [h0]
   have HK0 := zh (show Zau kind = 0 by rw [HKK.o, h0]);have HR1 := zh (show R = (if kind = 8 then decide (aH < (r.names.length : Int)) else if kind = 9 then decide (aH ≤ 54) else if kind = 10 then decide (aH < (r.aB.length : Int)) else if kind = 14 then decide (index < (r.globals.length : Int)) else true) by rw [← HR0.o]; simp [Zaz, HK0.o]);clear h0
   by_cases h8 : kind = 8
   ·have t8 : (kind == 8) = true := by simp [h8]
    have HR := zh (show R = decide (aH < (r.names.length : Int)) by rw [HR1.o]; simp [h8]);clear h8;obtain ⟨m0, m1, m2⟩ := cz3 HM.o;go_upto_region 12 with (fail);clear m0 m1 m2;refine Zu (fun W hW => ?_);have hWL : Za w3 W := by rw [hW]; exact (Za.refl _).drew
    have HMW := zC hWL HM;have HSW := zh (HST.o.later hWL);have HBW := zh (HB.o.trans (Below.mono hWL HB.o.size));have hMW : M < W.heap.size := Zb HMW.o;have mW0 := cz3 HMW.o;obtain ⟨A, c, cW, hc, hcm, hrow⟩ := HSW.o.names;have hSB := HSW.o.lt;unfold maxLen at hcm;clear hW hWL hrow
    repeat go_big_quiet_step (fail)
    refine wpQuiet_nil ?_;go_wp2_with fail;go_ret;exact ⟨Zx HR.o.symm, HBW.o⟩
   have t8 : (kind == 8) = false := by simp [h8]
   by_cases h9 : kind = 9
   ·have t9 : (kind == 9) = true := by simp [h9]
    have HR := zh (show R = decide (aH ≤ 54) by rw [HR1.o]; simp [h9]);clear h9;obtain ⟨m0, m1, m2⟩ := cz3 HM.o;go_wp2_with fail;go_ret;exact ⟨Zx HR.o.symm, HB.o⟩
   have t9 : (kind == 9) = false := by simp [h9]
   by_cases h10 : kind = 10
   ·have t10 : (kind == 10) = true := by simp [h10]
    have HR := zh (show R = decide (aH < (r.aB.length : Int)) by rw [HR1.o]; simp [h10]);clear h10;obtain ⟨m0, m1, m2⟩ := cz3 HM.o;go_upto_region 16 with (fail);clear m0 m1 m2;refine Zu (fun W hW => ?_);have hWL : Za w3 W := by rw [hW]; exact (Za.refl _).drew
    have HMW := zC hWL HM;have HSW := zh (HST.o.later hWL);have HBW := zh (HB.o.trans (Below.mono hWL HB.o.size));have hMW : M < W.heap.size := Zb HMW.o;have mW0 := cz3 HMW.o;obtain ⟨A, c, cW, hc, hcm, hrow⟩ := HSW.o.aB;have hSB := HSW.o.lt;unfold maxLen at hcm;clear hW hWL hrow
    repeat go_big_quiet_step (fail)
    refine wpQuiet_nil ?_;go_wp2_with fail;go_ret;exact ⟨Zx HR.o.symm, HBW.o⟩
   have t10 : (kind == 10) = false := by simp [h10]
   by_cases h14 : kind = 14
   ·have t14 : (kind == 14) = true := by simp [h14]
    have HR := zh (show R = decide (index < (r.globals.length : Int)) by rw [HR1.o]; simp [h14]);clear h14;obtain ⟨m0, m1, m2⟩ := cz3 HM.o;go_upto_region 18 with (fail);clear m0 m1 m2;refine Zu (fun W hW => ?_);have hWL : Za w3 W := by rw [hW]; exact (Za.refl _).drew
    have HMW := zC hWL HM;have HSW := zh (HST.o.later hWL);have HBW := zh (HB.o.trans (Below.mono hWL HB.o.size));have hMW : M < W.heap.size := Zb HMW.o;have mW0 := cz3 HMW.o;obtain ⟨A, c, cW, hc, hcm, hrow⟩ := HSW.o.globals;have hSB := HSW.o.lt;unfold maxLen at hcm;clear hW hWL hrow
    repeat go_big_quiet_step (fail)
    refine wpQuiet_nil ?_;go_wp2_with fail;go_ret;exact ⟨Zx HR.o.symm, HBW.o⟩
   have t14 : (kind == 14) = false := by simp [h14]
   have HR := zh (show R = true by rw [HR1.o]; simp [h8, h9, h10, h14]);clear h8 h9 h10 h14;obtain ⟨m0, m1, m2⟩ := cz3 HM.o;go_wp2_with fail;go_ret;exact ⟨Zx HR.o.symm, HB.o⟩
  ·have t0 : (kk != 0) = true := by simp [h0]
   have HN := zh (Zdt HP.o (Or.inl (by show Zau kind ≠ 0; rw [HKK.o]; exact h0)));obtain ⟨i, hi⟩ : ∃ i : Nat, aH = i := ⟨aH.toNat, by have := HN.o; simp only at this; omega⟩;subst hi;have HR1 := zh (show R = (Zaq r (i : Int) kk && (if kind = 13 ∨ kind = 16 then decide (index < (Zca r (i : Int) : Int)) else true)) by rw [← HR0.o]; simp [Zaz, HKK.o, h0]);clear h0;go_upto_region 5 with (fail)
   by_cases hlt : i < r.aA.length
   ·have hlt' : (i : Int) < r.aA.length := by omega
    have t5 : decide (r.aA.length ≤ i) = false := decide_eq_false (by omega);have HR2 := zh (show R = ((r.aA[i].kind == kk) && (if kind = 13 ∨ kind = 16 then decide (index < (r.aA[i].aJ.length : Int)) else true)) by rw [HR1.o, Zd5 hlt, Zbm hlt]);refine Zu (fun W hW => ?_);have hWL : Za w3 W := by rw [hW]; exact (Za.refl _).drew
    have HMW := zC hWL HM;have HSW := zh (HST.o.later hWL);have HBW := zh (HB.o.trans (Below.mono hWL HB.o.size));have hMW : M < W.heap.size := Zb HMW.o;have mW0 := cz3 HMW.o;obtain ⟨A, c, cW, hc, hcm, hrow⟩ := HSW.o.aA;have hSB := HSW.o.lt;unfold maxLen at hcm;obtain ⟨b, o, Ai, ci, Ak, ck, rfl, hb, e0, e1, e2, e3, e4, hIt, hKy, _⟩ := Z1.obj hrow hlt;clear hW hWL hrow hIt hKy
    repeat go_big_quiet_step (fail)
    refine wpQuiet_nil ?_;obtain ⟨q, hq⟩ : ∃ q, (r.aA[i].kind == kk) = q := ⟨_, rfl⟩;have hq2 : (r.aA[i].kind != kk) = !q := by rw [← hq]; rfl
    have HQ := zh hq;clear hq
    cases q with
    | false =>
     have HR := zh (show R = false by rw [HR2.o, HQ.o]; rfl);simp only [Bool.not_false] at hq2;clear mW0 cW e0 e1 e2 e3 e4;go_wp2_with fail;go_ret;exact ⟨Zx HR.o.symm, HBW.o⟩
    | true =>
     simp only [Bool.not_true] at hq2;have HR3 := zh (show R = (if kind = 13 ∨ kind = 16 then decide (index < (r.aA[i].aJ.length : Int)) else true) by rw [HR2.o, HQ.o]; rfl)
     by_cases h1316 : kind = 13 ∨ kind = 16
     ·have HR := zh (show R = decide (index < (r.aA[i].aJ.length : Int)) by rw [HR3.o, if_pos h1316]);have HST := HSW;have HM := HMW;have HB := HBW;obtain ⟨p13, ht13⟩ : ∃ p, (kind == 13) = p := ⟨_, rfl⟩;obtain ⟨p16, ht16⟩ : ∃ p, (kind == 16) = p := ⟨_, rfl⟩;have hpp : p13 = true ∨ (p13 = false ∧ p16 = true) := by
       rw [← ht13, ← ht16]
       rcases h1316 with h | h
       ·left; simp [h]
       ·right; simp [h]
      clear h1316
      rcases hpp with rfl | ⟨rfl, rfl⟩
      all_goals
       go_upto_region 8 with (fail);clear mW0 cW e0 e1 e2 e3 e4 hMW hSB hb hc hcm;refine Zu (fun V hV => ?_);have hVL : Za W V := by rw [hV]; exact (Za.refl _).drew
       have HMV := zC hVL HM;have HSV := zh (HST.o.later hVL);have HBV := zh (HB.o.trans (Below.mono hVL HB.o.size));have hMV : M < V.heap.size := Zb HMV.o;have mV0 := cz3 HMV.o;obtain ⟨A9, c9, cW9, hc9, hcm9, hrow9⟩ := HSV.o.aA;have hSB9 := HSV.o.lt;unfold maxLen at hcm9;obtain ⟨b9, o9, Ai9, ci9, Ak9, ck9, rfl, hb9, g0, g1, g2, g3, g4, hIt9, hKy9, _⟩ := Z1.obj hrow9 hlt;clear hV hVL hrow9 hIt9 hKy9
       repeat go_big_quiet_step (fail)
       refine wpQuiet_nil ?_;go_wp2_with fail;go_ret;exact ⟨Zx HR.o.symm, HBV.o⟩
     ·have HR := zh (show R = true by rw [HR3.o, if_neg h1316]);have t13 : (kind == 13) = false := by simp; omega
      have t16 : (kind == 16) = false := by simp; omega
      clear h1316;go_wp2_with fail;go_ret;exact ⟨Zx HR.o.symm, HBW.o⟩
   ·have t5 : decide (r.aA.length ≤ i) = true := decide_eq_true (by omega);have HR := zh (show R = false by rw [HR1.o, Zda (by omega)]; rfl);refine Zu (fun W hW => ?_);have hWL : Za w3 W := by rw [hW]; exact (Za.refl _).drew
    have HMW := zC hWL HM;have HSW := zh (HST.o.later hWL);have HBW := zh (HB.o.trans (Below.mono hWL HB.o.size));have hMW : M < W.heap.size := Zb HMW.o;have mW0 := cz3 HMW.o;obtain ⟨A, c, cW, hc, hcm, hrow⟩ := HSW.o.aA;have hSB := HSW.o.lt;unfold maxLen at hcm;clear hW hWL hrow
    repeat go_big_quiet_step (fail)
    refine wpQuiet_nil ?_;go_wp2_with fail;go_ret;exact ⟨Zx HR.o.symm, HBW.o⟩
theorem Zfn (r : Zf) (B : Nat) (cs : List Value) (F : Nat → Prop) (w : World) (v : Ze) (vs : List Value) (h : Z1 F w B r cs) (hv : Zd F w v vs) :
  Calls Tryz.prog 41 #[.pointer (some ⟨B, 0, none⟩), .agg vs.toArray] w fun e w' => e = .returned (.bool (Zaw r v)) ∧ Below w.heap.size w w' := by
 have hv0 := hv;obtain ⟨rfl, _⟩ := hv;have hl0 := (Za.refl w).alloc (.cells #[.int .i64 v.kind, .int .i64 v.aH, .int .i64 v.index, .string v.text, .int .i64 v.set_.low, .int .i64 v.set_.high] 34);have HH := zh (Zag r B cs F _ v _ (h.later hl0) (Zc.keep hv0 (fun _ h => h) (Zg.later hl0)));have HL := zh hl0;clear hl0 h hv0;obtain ⟨R, hR⟩ : ∃ R, Zaw r v = R := ⟨_, rfl⟩;rw [hR];unfold Zaw at hR
 by_cases hk : v.kind ≤ 12
 ·have t1 : decide (v.kind ≤ 12) = true := decide_eq_true hk;rw [t1, Bool.true_and] at hR;rw [hR] at HH;go_enter Tryz.func41, Tryz.ntmps41;go_wp2_with fail;refine HH.o.mono ?_;rintro e w2 ⟨rfl, hl⟩;have HL2 := zh (HL.o.trans hl);clear hl;go_wp2_with fail;go_ret;exact ⟨rfl, HL2.o⟩
 ·have t1 : decide (v.kind ≤ 12) = false := decide_eq_false hk;rw [t1, Bool.false_and] at hR;subst hR;go_enter Tryz.func41, Tryz.ntmps41;go_wp2_with fail;go_ret;exact ⟨rfl, HL.o⟩
theorem Zcu (r : Zf) (B : Nat) (cs : List Value) (F : Nat → Prop) (w : World) (v : Ze) (vs : List Value) (h : Z1 F w B r cs) (hv : Zd F w v vs) :
  Calls Tryz.prog 58 #[.pointer (some ⟨B, 0, none⟩), .agg vs.toArray] w fun e w' => e = .returned (.bool (Zaw r v)) ∧ Below w.heap.size w w' := by
 have hv0 := hv;obtain ⟨rfl, _⟩ := hv;have hl0 := (Za.refl w).alloc (.cells #[.int .i64 v.kind, .int .i64 v.aH, .int .i64 v.index, .string v.text, .int .i64 v.set_.low, .int .i64 v.set_.high] 34);have HH := zh (Za3 r B cs F _ v _ (h.later hl0) (Zc.keep hv0 (fun _ h => h) (Zg.later hl0)));have HL := zh hl0;clear hl0 h hv0;obtain ⟨R, hR⟩ : ∃ R, Zaw r v = R := ⟨_, rfl⟩;rw [hR];unfold Zaw at hR
 by_cases hk : v.kind ≤ 12
 ·have t1 : decide (v.kind ≤ 12) = true := decide_eq_true hk;rw [t1, Bool.true_and] at hR;rw [hR] at HH;go_enter Tryz.func58, Tryz.ntmps58;go_wp2_with fail;refine HH.o.mono ?_;rintro e w2 ⟨rfl, hl⟩;have HL2 := zh (HL.o.trans hl);clear hl;go_wp2_with fail;go_ret;exact ⟨rfl, HL2.o⟩
 ·have t1 : decide (v.kind ≤ 12) = false := decide_eq_false hk;rw [t1, Bool.false_and] at hR;subst hR;go_enter Tryz.func58, Tryz.ntmps58;go_wp2_with fail;go_ret;exact ⟨rfl, HL.o⟩
theorem Zay (r : Zf) (B : Nat) (cs : List Value) (F : Nat → Prop) (w : World) (l : List Ze) (v : Value) (h : Z1 F w B r cs) (hr : Zp Zd 6 F w l v) :
  Calls Tryz.prog 50 #[.pointer (some ⟨B, 0, none⟩), v] w fun e w' => e = .returned (.bool (Zaf r l)) ∧ Below w.heap.size w w' := by
 obtain ⟨A, c, rfl, hc, hcm, _⟩ := id hr;unfold maxLen at hcm;have HR0 := zh hr;have HS := zh h;clear hr h;obtain ⟨R, hR⟩ : ∃ R, Zaf r l = R := ⟨_, rfl⟩;rw [hR];have HR := zh hR;clear hR;go_enter Tryz.func50, Tryz.ntmps50;go_wp2_with fail
 go_loopw [9] (fun i wr => ∃ j : Nat, i = .int .i64 j ∧ j ≤ l.length ∧ Hd (∀ k (h : k < l.length), k < j → Zaw r l[k] = true) ∧ Hd (Za w wr)) (fun i _ => l.length - (intOf i).toNat)
 case atStart => exact ⟨0, rfl, Nat.zero_le _, zh (fun k _ h => by omega), zh (Za.refl w)⟩
 case round =>
  obtain ⟨j, rfl, hj, HD, HLW⟩ := hrel
  by_cases hlt : j < l.length
  ·obtain ⟨b, o, rfl, hb, hat, hel⟩ := (HR0.o.later Zc HLW.o).vat hlt;have HEL := zh hel;clear hel;have t1 : decide ((j : Int) < l.length) = true := decide_eq_true (by omega);obtain ⟨p, hp⟩ : ∃ p, Zaw r l[j] = p := ⟨_, rfl⟩;have HP := zh hp;clear hp;obtain ⟨y, hy⟩ : ∃ y, l[j] = y := ⟨_, rfl⟩;rw [hy] at hat HEL HP;have HY := zh hy;clear hy;have HAT := zh hat;obtain ⟨c0, c1, c2, c3, c4, c5⟩ := hat;have hl0 := (Za.refl wr).alloc (.cells #[.int .i64 y.kind, .int .i64 y.aH, .int .i64 y.index, .string y.text, .int .i64 y.set_.low, .int .i64 y.set_.high] 34);have HLA := zh (HLW.o.trans hl0);have HH := zh (Zfn r B cs F _ y _ (HS.o.later (HLW.o.trans hl0)) (Zc.keep HEL.o (fun _ h => h) (Zg.later hl0)));clear hl0;rw [HP.o] at HH;go_wp2_with fail;refine HH.o.mono ?_;rintro e w2 ⟨rfl, hl⟩;have HL2 := zh (HLA.o.trans hl);clear hl c0 c1 c2 c3 c4 c5
   cases p with
   | false =>
    have hR0 : R = false := by rw [← HR.o]; exact Zdd hlt (by rw [HY.o]; exact HP.o)
    subst hR0;go_wp2_with fail;go_ret;exact ⟨rfl, HL2.o⟩
   | true =>
    have HD2 : Hd (∀ k (h : k < l.length), k < j + 1 → Zaw r l[k] = true) := zh (Zcq HD.o (fun _ => by rw [HY.o]; exact HP.o));go_wp2_with fail
    go_roundw
    case rel => exact ⟨j + 1, by go_num, by omega, HD2, HL2⟩
    case measure => simp [intOf]; omega
  ·have t1 : decide ((j : Int) < l.length) = false := decide_eq_false (by omega);have hR0 : R = true := by rw [← HR.o]; exact Zdz (fun k hk => HD.o k hk (by omega))
   subst hR0;go_wp2_with fail;go_ret;exact ⟨rfl, HLW.o⟩
theorem Zbn (r : Zf) (B : Nat) (cs : List Value) (F : Nat → Prop) (w : World) (l : List Ze) (v : Value) (h : Z1 F w B r cs) (hr : Zp Zd 6 F w l v) :
  Calls Tryz.prog 101 #[.pointer (some ⟨B, 0, none⟩), v] w fun e w' => e = .returned (.bool (Zaf r l)) ∧ Below w.heap.size w w' := by
 obtain ⟨A, c, rfl, hc, hcm, _⟩ := id hr;unfold maxLen at hcm;have HR0 := zh hr;have HS := zh h;clear hr h;obtain ⟨R, hR⟩ : ∃ R, Zaf r l = R := ⟨_, rfl⟩;rw [hR];have HR := zh hR;clear hR;go_enter Tryz.func101, Tryz.ntmps101;go_wp2_with fail
 go_loopw [5] (fun i wr => ∃ j : Nat, i = .int .i64 j ∧ j ≤ l.length ∧ Hd (∀ k (h : k < l.length), k < j → Zaw r l[k] = true) ∧ Hd (Za w wr)) (fun i _ => l.length - (intOf i).toNat)
 case atStart => exact ⟨0, rfl, Nat.zero_le _, zh (fun k _ h => by omega), zh (Za.refl w)⟩
 case round =>
  obtain ⟨j, rfl, hj, HD, HLW⟩ := hrel
  by_cases hlt : j < l.length
  ·obtain ⟨b, o, rfl, hb, hat, hel⟩ := (HR0.o.later Zc HLW.o).vat hlt;have HEL := zh hel;clear hel;have t1 : decide ((j : Int) < l.length) = true := decide_eq_true (by omega);obtain ⟨p, hp⟩ : ∃ p, Zaw r l[j] = p := ⟨_, rfl⟩;have HP := zh hp;clear hp;obtain ⟨y, hy⟩ : ∃ y, l[j] = y := ⟨_, rfl⟩;rw [hy] at hat HEL HP;have HY := zh hy;clear hy;have HAT := zh hat;obtain ⟨c0, c1, c2, c3, c4, c5⟩ := hat;have HLA := HLW;have HH := zh (Zcu r B cs F _ y _ (HS.o.later HLW.o) HEL.o);rw [HP.o] at HH;go_wp2_with fail;refine HH.o.mono ?_;rintro e w2 ⟨rfl, hl⟩;have HL2 := zh (HLA.o.trans hl);clear hl c0 c1 c2 c3 c4 c5
   cases p with
   | false =>
    have hR0 : R = false := by rw [← HR.o]; exact Zdd hlt (by rw [HY.o]; exact HP.o)
    subst hR0;go_wp2_with fail;go_ret;exact ⟨rfl, HL2.o⟩
   | true =>
    have HD2 : Hd (∀ k (h : k < l.length), k < j + 1 → Zaw r l[k] = true) := zh (Zcq HD.o (fun _ => by rw [HY.o]; exact HP.o));go_wp2_with fail
    go_roundw
    case rel => exact ⟨j + 1, by go_num, by omega, HD2, HL2⟩
    case measure => simp [intOf]; omega
  ·have t1 : decide ((j : Int) < l.length) = false := decide_eq_false (by omega);have hR0 : R = true := by rw [← HR.o]; exact Zdz (fun k hk => HD.o k hk (by omega))
   subst hR0;go_wp2_with fail;go_ret;exact ⟨rfl, HLW.o⟩
theorem Zqx (l : List Ze) (y : Ze) : decide (0 ≤ Zd7 l y) = Zd6 l y := by
 unfold Zd7
 cases h : Zd6 l y with
 | true => rw [if_pos rfl]; simp
 | false => rw [if_neg (by simp)]; rfl
theorem Zi9 (l : List Ze) (v : Value) (y : Ze) (F : Nat → Prop) (w : World) (hr : Zp Zd 6 F w l v) :
  Calls Tryz.prog 155 #[v, .agg #[.int .i64 y.kind, .int .i64 y.aH, .int .i64 y.index, .string y.text, .int .i64 y.set_.low, .int .i64 y.set_.high]] w fun e w' => e = .returned (.bool (Zd6 l y)) ∧ Za w w' := by
 obtain ⟨A, c, rfl, hc, hcm, _⟩ := id hr;have hl0 := (Za.refl w).alloc (.cells #[.int .i64 y.kind, .int .i64 y.aH, .int .i64 y.index, .string y.text, .int .i64 y.set_.low, .int .i64 y.set_.high] 34);have HI := Zmp l _ y F _ (hr.later Zc hl0);obtain ⟨R, hR⟩ : ∃ R, Zd7 l y = R := ⟨_, rfl⟩;have hd : decide (0 ≤ R) = Zd6 l y := by rw [← hR, Zqx]
 rw [hR] at HI;have HL := zh hl0;have HH := zh HI;clear hr hR HI hl0 hcm;go_enter Tryz.func155, Tryz.ntmps155;go_wp2_with fail;refine HH.o.mono ?_;rintro e w2 ⟨rfl, hl⟩;have HL2 := zh (HL.o.trans hl);clear hl;go_wp2_with fail;go_ret;exact ⟨rfl, HL2.o⟩
theorem Zdq (l : List Ze) (v : Value) (F : Nat → Prop) (w : World) (hr : Zp Zd 6 F w l v) :
  Calls Tryz.prog 106 #[v] w fun e w' => e = .returned (.bool (Zbg l)) ∧ Za w w' := by
 obtain ⟨A, c, rfl, hc, hcm, _⟩ := id hr;unfold maxLen at hcm;have HR0 := zh hr;clear hr;obtain ⟨R, hR⟩ : ∃ R, Zbg l = R := ⟨_, rfl⟩;rw [hR];have HR := zh hR;clear hR;go_enter Tryz.func106, Tryz.ntmps106;go_wp2_with fail
 go_loopw [6] (fun i wr => ∃ j : Nat, i = .int .i64 j ∧ j ≤ l.length ∧ Hd (∀ k (h : k < l.length), k < j → Zd6 (l.take k) l[k] = false) ∧ Hd (Za w wr)) (fun i _ => l.length - (intOf i).toNat)
 case atStart => exact ⟨0, rfl, Nat.zero_le _, zh (fun k _ h => by omega), zh (Za.refl w)⟩
 case round =>
  obtain ⟨j, rfl, hj, HD, HLW⟩ := hrel
  by_cases hlt : j < l.length
  ·obtain ⟨b, o, rfl, hb, hat, _⟩ := (HR0.o.later Zc HLW.o).vat hlt;have t1 : decide ((j : Int) < l.length) = true := decide_eq_true (by omega);go_wp2_with fail;refine Zbb [7] [] (by kernel_rfl) (fun W hW => ?_);have hWL : Za wr W := by rw [hW]; exact (Za.refl _).drew
   have HAT := zh (hat.later hWL);have HLW2 := zh (HLW.o.trans hWL);clear hW hWL hat;refine tU 0 9 (v := ?_) rfl rfl (fun x hx => ?_) ?_;rotate_left
   ·go_simp;first|done|with_reducible rfl
   simp only [Act.put, nA, nB, nC];refine tU 1 10 (v := ?_) rfl rfl (fun x hx => ?_) ?_;rotate_left
   ·go_simp;first|done|with_reducible rfl
   simp only [Act.put, nA, nB, nC];refine tU 2 11 (v := ?_) rfl rfl (fun x hx => ?_) ?_;rotate_left
   ·go_simp;first|done|with_reducible rfl|rw[if_neg (by omega)]|rw[if_pos (by omega)]
   simp only [Act.put, nA, nB, nC];refine tU 3 12 (v := ?_) rfl rfl (fun x hx => ?_) ?_;rotate_left
   ·go_simp;first|done|with_reducible rfl
   simp only [Act.put, nA, nB, nC];refine tU 4 13 (v := ?_) rfl rfl (fun x hx => ?_) ?_;rotate_left
   ·go_simp;first|done|with_reducible rfl
   simp only [Act.put, nA, nB, nC];refine tU 5 14 (v := ?_) rfl rfl (fun x hx => ?_) ?_;rotate_left
   ·go_simp;first|done|with_reducible rfl|rw[if_neg (by omega)]|rw[if_pos (by omega)]
   simp only [Act.put, nA, nB, nC];refine tU 6 15 (v := ?_) rfl rfl (fun x hx => ?_) ?_;rotate_left
   ·obtain ⟨c0, c1, c2, c3, c4, c5⟩ := HAT.o.later hx; go_simp;first|done|with_reducible rfl
   simp only [Act.put, nA, nB, nC];refine Zbl [_] (by kernel_rfl) rfl rfl ?_;simp only [List.getElem_toArray, List.getElem_cons_succ, List.getElem_cons_zero];have hjc : j ≤ c := by omega
   go_wp2_with fail;refine (Zi9 (l.take j) _ l[j] F _ ((HR0.o.later Zc HLW2.o).take (by omega))).mono ?_;obtain ⟨p, hp⟩ : ∃ p, Zd6 (l.take j) l[j] = p := ⟨_, rfl⟩;rw [hp];have HP := zh hp;clear hp;rintro e w2 ⟨rfl, hl⟩;have HL2 := zh (HLW2.o.trans hl);clear hl
   cases p with
   | true =>
    have hR0 : R = false := by rw [← HR.o, Zgc hlt HP.o]
    subst hR0;go_wp2_with fail;go_ret;exact ⟨rfl, HL2.o⟩
   | false =>
    have HD2 : Hd (∀ k (h : k < l.length), k < j + 1 → Zd6 (l.take k) l[k] = false) := zh (fun k hk h => by
     rcases Nat.lt_or_ge k j with h1 | h1
     ·exact HD.o k hk h1
     ·obtain rfl : k = j := by omega
      exact HP.o)
    go_wp2_with fail
    go_roundw
    case rel => exact ⟨j + 1, by go_num, by omega, HD2, HL2⟩
    case measure => simp [intOf]; omega
  ·have t1 : decide ((j : Int) < l.length) = false := decide_eq_false (by omega);have hR0 : R = true := by rw [← HR.o, Zfm (fun k hk => HD.o k hk (by omega))]
   subst hR0;go_wp2_with fail;go_ret;exact ⟨rfl, HLW.o⟩
theorem Zeo (l : List Ze) (v : Value) (F : Nat → Prop) (w : World) (hr : Zp Zd 6 F w l v) :
  Calls Tryz.prog 149 #[v] w fun e w' => e = .returned (.bool (Zbg l)) ∧ Za w w' := by
 obtain ⟨A, c, rfl, hc, hcm, _⟩ := id hr;unfold maxLen at hcm;have HR0 := zh hr;clear hr;obtain ⟨R, hR⟩ : ∃ R, Zbg l = R := ⟨_, rfl⟩;rw [hR];have HR := zh hR;clear hR;go_enter Tryz.func149, Tryz.ntmps149;go_wp2_with fail
 go_loopw [3] (fun i wr => ∃ j : Nat, i = .int .i64 j ∧ j ≤ l.length ∧ Hd (∀ k (h : k < l.length), k < j → Zd6 (l.take k) l[k] = false) ∧ Hd (Za w wr)) (fun i _ => l.length - (intOf i).toNat)
 case atStart => exact ⟨0, rfl, Nat.zero_le _, zh (fun k _ h => by omega), zh (Za.refl w)⟩
 case round =>
  obtain ⟨j, rfl, hj, HD, HLW⟩ := hrel
  by_cases hlt : j < l.length
  ·have t1 : decide ((j : Int) < l.length) = true := decide_eq_true (by omega);go_wp2_with fail
   go_loopw [4] (fun i wr2 => ∃ k : Nat, i = .int .i64 k ∧ k ≤ j ∧ Hd (∀ q (h : q < l.length), q < k → eqV l[q] l[j] = false) ∧ Hd (Za w wr2)) (fun i _ => j - (intOf i).toNat)
   case atStart => exact ⟨0, rfl, Nat.zero_le _, zh (fun k _ h => by omega), HLW⟩
   case round =>
    obtain ⟨i, rfl, hi, HE, HLX⟩ := hrel;clear HLW
    by_cases hlt2 : i < j
    ·have hil : i < l.length := by omega
     obtain ⟨b, o, rfl, hb, hat, _⟩ := (HR0.o.later Zc HLX.o).vat hlt;obtain ⟨b', o', e, _, hau, _⟩ := (HR0.o.later Zc HLX.o).vat hil;cases e;have t2 : decide ((i : Int) < j) = true := decide_eq_true (by omega);go_wp2_with fail;refine Zbb [] [] (by kernel_rfl) (fun W hW => ?_);have hWL := (show Za _ W by rw [hW]; exact (Za.refl _).drew);have HAT := zh (hat.later hWL);have HAU := zh (hau.later hWL);have HLW2 := zh (HLX.o.trans hWL);clear hW hWL hat hau;obtain ⟨p, hp⟩ : ∃ p, eqV l[i] l[j] = p := ⟨_, rfl⟩;refine tU 0 16 (v := ?_) rfl rfl (fun x hx => ?_) ?_;rotate_left
     ·go_simp;first|done|with_reducible rfl
     simp only [Act.put, nA, nB, nC];refine tU 1 17 (v := ?_) rfl rfl (fun x hx => ?_) ?_;rotate_left
     ·go_simp;first|done|with_reducible rfl
     simp only [Act.put, nA, nB, nC];refine tU 2 18 (v := ?_) rfl rfl (fun x hx => ?_) ?_;rotate_left
     ·go_simp;first|done|with_reducible rfl|rw[if_neg (by omega)]|rw[if_pos (by omega)]
     simp only [Act.put, nA, nB, nC];refine tU 3 19 (v := ?_) rfl rfl (fun x hx => ?_) ?_;rotate_left
     ·obtain ⟨c0, c1, c2, c3, c4, c5⟩ := HAT.o.later hx; obtain ⟨d0, d1, d2, d3, d4, d5⟩ := HAU.o.later hx; go_simp;first|done|with_reducible rfl
     simp only [Act.put, nA, nB, nC];refine tU 4 20 (v := ?_) rfl rfl (fun x hx => ?_) ?_;rotate_left
     ·go_simp;first|done|with_reducible rfl
     simp only [Act.put, nA, nB, nC];refine tU 5 21 (v := ?_) rfl rfl (fun x hx => ?_) ?_;rotate_left
     ·go_simp;first|done|with_reducible rfl
     simp only [Act.put, nA, nB, nC];refine tU 6 22 (v := ?_) rfl rfl (fun x hx => ?_) ?_;rotate_left
     ·go_simp;first|done|with_reducible rfl|rw[if_neg (by omega)]|rw[if_pos (by omega)]
     simp only [Act.put, nA, nB, nC];refine tU 7 23 (v := ?_) rfl rfl (fun x hx => ?_) ?_;rotate_left
     ·obtain ⟨c0, c1, c2, c3, c4, c5⟩ := HAT.o.later hx; obtain ⟨d0, d1, d2, d3, d4, d5⟩ := HAU.o.later hx; go_simp;first|done|with_reducible rfl
     simp only [Act.put, nA, nB, nC];refine tU 8 24 (v := ?_) rfl rfl (fun x hx => ?_) ?_;rotate_left
     ·go_simp; refine (Zin l[j] l[i] (fun q => Result.ok (Next.value (Value.bool q)) x)).trans ?_; rw [Zk6, hp];first|done|with_reducible rfl|rw[if_neg (by omega)]|rw[if_pos (by omega)]
     simp only [Act.put, nA, nB, nC];refine Zbl [] (by kernel_rfl) rfl rfl ?_;have HP := zh hp;clear hp
     cases p with
     | true =>
      have hR0 : R = false := by rw [← HR.o, Zgc hlt (Zim.2 (by rw [List.mem_take_iff_getElem]; exact ⟨i, by omega, Zfc.1 HP.o⟩))]
      subst hR0;go_wp2_with fail;go_ret;exact ⟨rfl, HLW2.o⟩
     | false =>
      have HE2 : Hd (∀ q (h : q < l.length), q < i + 1 → eqV l[q] l[j] = false) := zh (fun q hq h => by
       rcases Nat.lt_or_ge q i with h1 | h1
       ·exact HE.o q hq h1
       ·obtain rfl : q = i := by omega
        exact HP.o)
      go_wp2_with fail
      go_roundw
      case rel => exact ⟨i + 1, by go_num, by omega, HE2, HLW2⟩
      case measure => simp [intOf]; omega
    ·have t2 : decide ((i : Int) < j) = false := decide_eq_false (by omega);have HD2 : Hd (∀ k (h : k < l.length), k < j + 1 → Zd6 (l.take k) l[k] = false) := zh (fun k hk h => by
      rcases Nat.lt_or_ge k j with h1 | h1
      ·exact HD.o k hk h1
      ·obtain rfl : k = j := by omega
       exact Znq (fun q hq => by rw [List.length_take] at hq; rw [List.getElem_take]; exact HE.o q (by omega) (by omega)))
     go_wp2_with fail
     go_roundw
     case rel => exact ⟨j + 1, by go_num, by omega, HD2, HLX⟩
     case measure => simp [intOf]; omega
  ·have t1 : decide ((j : Int) < l.length) = false := decide_eq_false (by omega);have hR0 : R = true := by rw [← HR.o, Zfm (fun k hk => HD.o k hk (by omega))]
   subst hR0;go_wp2_with fail;go_ret;exact ⟨rfl, HLW.o⟩
theorem Zis (l : List Ze) (kd tg sr : Int) (vi v : Value) (y : Ze) (F : Nat → Prop) (w : World) (hr : Zp Zd 6 F w l v) :
  Calls Tryz.prog 134 #[.agg #[.int .i64 kd, .int .i64 tg, .int .i64 sr, vi, v], .agg #[.int .i64 y.kind, .int .i64 y.aH, .int .i64 y.index, .string y.text, .int .i64 y.set_.low, .int .i64 y.set_.high]] w fun e w' => e = .returned (.int .i64 (Zd7 l y)) ∧ Za w w' := by
 obtain ⟨A, c, rfl, hc, hcm, _⟩ := id hr;unfold maxLen at hcm;have HR0 := zh hr;clear hr;obtain ⟨R, hR⟩ : ∃ R, Zd7 l y = R := ⟨_, rfl⟩;rw [hR];have HR := zh hR;clear hR;have HM0 := zh (((Za.refl (w.alloc (.cells #[.int .i64 kd, .int .i64 tg, .int .i64 sr, vi, .slice A l.length c] 94))).alloc (.cells #[.int .i64 y.kind, .int .i64 y.aH, .int .i64 y.index, .string y.text, .int .i64 y.set_.low, .int .i64 y.set_.high] 34)).block _ (Zb (heap_alloc_new w (.cells #[.int .i64 kd, .int .i64 tg, .int .i64 sr, vi, .slice A l.length c] 94))) |>.trans (heap_alloc_new w (.cells #[.int .i64 kd, .int .i64 tg, .int .i64 sr, vi, .slice A l.length c] 94)));have HV0 := zh (VAt.new (w.alloc (.cells #[.int .i64 kd, .int .i64 tg, .int .i64 sr, vi, .slice A l.length c] 94)) y);have HL := zh (((Za.refl w).alloc (.cells #[.int .i64 kd, .int .i64 tg, .int .i64 sr, vi, .slice A l.length c] 94)).trans ((Za.refl _).alloc (.cells #[.int .i64 y.kind, .int .i64 y.aH, .int .i64 y.index, .string y.text, .int .i64 y.set_.low, .int .i64 y.set_.high] 34)));go_enter Tryz.func134, Tryz.ntmps134;go_wp2_with fail
 go_loopw [5] (fun i wr => ∃ j : Nat, i = .int .i64 j ∧ j ≤ l.length ∧ Hd (∀ k (h : k < l.length), k < j → eqV l[k] y = false) ∧ Hd (Za w wr) ∧ Hd (wr.heap[w.heap.size]? = some (.cells #[.int .i64 kd, .int .i64 tg, .int .i64 sr, vi, .slice A l.length c] 94 (0, 0))) ∧ Hd (VAt wr (w.heap.size + 1) 0 y)) (fun i _ => l.length - (intOf i).toNat)
 case atStart => exact ⟨0, rfl, Nat.zero_le _, zh (fun k _ h => by omega), HL, HM0, zh (by have := HV0.o; simpa using this)⟩
 case round =>
  obtain ⟨j, rfl, hj, HD, HLW, HM, HV⟩ := hrel;have q4 := cq HM.o 4;simp only [nD, nE, nF] at q4
  by_cases hlt : j < l.length
  ·obtain ⟨b, o, rfl, hb, hat, _⟩ := (HR0.o.later Zc HLW.o).vat hlt;have t1 : decide ((j : Int) < l.length) = true := decide_eq_true (by omega);go_wp2_with fail;refine Zbb [] [] (by kernel_rfl) (fun W hW => ?_);have hWL : Za wr W := by rw [hW]; exact (Za.refl _).drew
   have HMW := zC hWL HM;have m4 := cq HMW.o 4;simp only [nD, nE, nF] at m4;have HAT := zh (hat.later hWL);have HVW := zh (HV.o.later hWL);have HLW2 := zh (HLW.o.trans hWL);clear hW hWL hat q4;obtain ⟨p, hp⟩ : ∃ p, eqV l[j] y = p := ⟨_, rfl⟩;refine tU 0 13 (v := ?_) rfl rfl (fun x hx => ?_) ?_;rotate_left
   ·go_simp;first|done|with_reducible rfl
   simp only [Act.put, nA, nB, nC];refine tU 1 14 (v := ?_) rfl rfl (fun x hx => ?_) ?_;rotate_left
   ·have x4 := (hx.cell ⟨w.heap.size, 4, none⟩ (Zb HMW.o)).trans m4; obtain ⟨c0, c1, c2, c3, c4, c5⟩ := HAT.o.later hx; obtain ⟨d0, d1, d2, d3, d4, d5⟩ := HVW.o.later hx; go_simp;first|done|with_reducible rfl
   simp only [Act.put, nA, nB, nC];refine tU 2 15 (v := ?_) rfl rfl (fun x hx => ?_) ?_;rotate_left
   ·go_simp;first|done|with_reducible rfl
   simp only [Act.put, nA, nB, nC];refine tU 3 16 (v := ?_) rfl rfl (fun x hx => ?_) ?_;rotate_left
   ·go_simp;first|done|with_reducible rfl|rw[if_neg (by omega)]|rw[if_pos (by omega)]
   simp only [Act.put, nA, nB, nC];refine tU 4 17 (v := ?_) rfl rfl (fun x hx => ?_) ?_;rotate_left
   ·have x4 := (hx.cell ⟨w.heap.size, 4, none⟩ (Zb HMW.o)).trans m4; obtain ⟨c0, c1, c2, c3, c4, c5⟩ := HAT.o.later hx; obtain ⟨d0, d1, d2, d3, d4, d5⟩ := HVW.o.later hx; go_simp;first|done|with_reducible rfl
   simp only [Act.put, nA, nB, nC];refine tU 5 18 (v := ?_) rfl rfl (fun x hx => ?_) ?_;rotate_left
   ·have x4 := (hx.cell ⟨w.heap.size, 4, none⟩ (Zb HMW.o)).trans m4; obtain ⟨c0, c1, c2, c3, c4, c5⟩ := HAT.o.later hx; obtain ⟨d0, d1, d2, d3, d4, d5⟩ := HVW.o.later hx; go_simp;first|done|with_reducible rfl
   simp only [Act.put, nA, nB, nC];refine tU 6 19 (v := ?_) rfl rfl (fun x hx => ?_) ?_;rotate_left
   ·go_simp; refine (Zin l[j] y (fun q => Result.ok (Next.value (Value.bool q)) x)).trans ?_; rw [hp];first|done|with_reducible rfl|rw[if_neg (by omega)]|rw[if_pos (by omega)]
   simp only [Act.put, nA, nB, nC];refine Zbl [] (by kernel_rfl) rfl rfl ?_;have HP := zh hp;clear hp
   cases p with
   | true =>
    have hR0 : R = (j : Int) := by rw [← HR.o, Zk4 hlt HP.o HD.o]
    subst hR0;go_wp2_with fail;go_ret;exact ⟨rfl, HLW2.o⟩
   | false =>
    have HD2 : Hd (∀ k (h : k < l.length), k < j + 1 → eqV l[k] y = false) := zh (fun k hk h => by
     rcases Nat.lt_or_ge k j with h1 | h1
     ·exact HD.o k hk h1
     ·obtain rfl : k = j := by omega
      exact HP.o)
    go_wp2_with fail
    go_roundw
    case rel => exact ⟨j + 1, by go_num, by omega, HD2, HLW2, HMW, HVW⟩
    case measure => simp [intOf]; omega
  ·have t1 : decide ((j : Int) < l.length) = false := decide_eq_false (by omega);have hR0 : R = -1 := by rw [← HR.o, Zk5 (fun k hk => HD.o k hk (by omega))]
   subst hR0;go_wp2_with fail;go_ret;exact ⟨rfl, HLW.o⟩
theorem Zmy (r : Zf) (B : Nat) (cs : List Value) (F : Nat → Prop) (w : World) (l : List Ze) (v : Value) (h : Z1 F w B r cs) (hr : Zp Zd 6 F w l v) :
  Calls Tryz.prog 107 #[.pointer (some ⟨B, 0, none⟩), .int .i64 1, v] w fun e w' => e = .returned (.bool (Z6 r 1 l)) ∧ Below w.heap.size w w' := by
 obtain ⟨R, hR⟩ : ∃ R, Z6 r 1 l = R := ⟨_, rfl⟩;rw [hR];have hR2 : Zh r [2] l = R := by rw [← hR]; simp [Z6, Zam]
 clear hR;obtain ⟨A, c, rfl, hc, hcm, _⟩ := id hr;unfold maxLen at hcm;have hl1 : Za w ((w.alloc (.cells #[] 3)).alloc (.cells #[.int .i64 2] 3)) := ((Za.refl w).alloc _).alloc _;have HS := zh (h.later hl1);have HRW := zh (hr.later Zc hl1);have HB := zh hl1;clear h hr hl1;have HKA := zh (show ((w.alloc (.cells #[] 3)).alloc (.cells #[.int .i64 2] 3)).heap[w.heap.size + 1]? = some (.cells #[.int .i64 2] 3 (0, 0)) by have := heap_alloc_new (w.alloc (.cells #[] 3)) (.cells #[.int .i64 2] 3); simpa using this)
 by_cases hN : l.length = 1
 ·obtain ⟨v0, rfl⟩ : ∃ v0, l = [v0] := by
   match l, hN with
   | [a0], _ => exact ⟨a0, rfl⟩
  clear hN;have HR2 := zh hR2;clear hR2;simp only [List.length_cons, List.length_nil, Nat.zero_add, Nat.reduceAdd] at hc HRW ⊢;go_enter Tryz.func107, Tryz.ntmps107;go_wp2_with fail;refine wp_loop_rounds 2 ?_;rw [rounds_succ];obtain ⟨x, hx⟩ : ∃ x, x = ((w.alloc (.cells #[] 3)).alloc (.cells #[.int .i64 2] 3)) := ⟨_, rfl⟩;rw [← hx] at HS HRW HB HKA ⊢;clear hx;have HLX := zh (Za.refl x);have HKX := zB HLX HKA;have k0 := cq HKX.o 0;simp only [nD, nE, nF] at k0;obtain ⟨b, o, e, hb, hat, hel0⟩ := (HRW.o.later Zc HLX.o).vat (j := 0) (by simp);cases e;simp only [List.getElem_cons_succ, List.getElem_cons_zero, Nat.reduceMul, Nat.add_zero] at hat hel0;obtain ⟨p, hp⟩ : ∃ p, (v0.kind == 2) = p := ⟨_, rfl⟩;have hq : (v0.kind != 2) = !p := by rw [← hp]; rfl
  have HP0 := zh hp;clear hp;obtain ⟨c0, c1, c2, c3, c4, c5⟩ := hat
  cases p with
  | false =>
   simp only [Bool.not_false] at hq;have hR0 : R = false := by rw [← HR2.o]; simp [Zh, Zw, HP0.o]
   subst hR0;go_wp2_with fail;go_ret;exact ⟨rfl, HB.o.trans HLX.o⟩
  | true =>
   simp only [Bool.not_true] at hq;obtain ⟨q, hqq⟩ : ∃ q, Zi r v0 = q := ⟨_, rfl⟩;have HQ0 := zh hqq;clear hqq;go_wp2_with fail;refine (Zag r B cs F _ v0 _ (HS.o.later HLX.o) hel0).mono ?_;rw [HQ0.o];rintro e y ⟨rfl, hy⟩;replace HLX := zh (HLX.o.trans hy);clear hy hel0 c0 c1 c2 c3 c4 c5 hb hq k0;clear HKX
   cases q with
   | false =>
    have hR0 : R = false := by rw [← HR2.o]; simp [Zh, Zw, HP0.o, HQ0.o]
    subst hR0;go_wp2_with fail;go_ret;exact ⟨rfl, HB.o.trans HLX.o⟩
   | true =>
    go_wp2_with fail;rw [rounds_succ];have HKX := zB HLX HKA;have hR0 : R = true := by rw [← HR2.o]; simp [Zh, Zw, HP0.o, HQ0.o]
    subst hR0;go_wp2_with fail;go_ret;exact ⟨rfl, HB.o.trans HLX.o⟩
 ·have t1 : ((l.length : Int) != 1) = true := bne_iff_ne.2 (by omega);have hR0 : R = false := by
   rw [← hR2]
   match l, hN with
   | [], _ => simp [Zh]
   | _ :: _ :: _, _ => simp [Zh]
   | [_], h => exact absurd rfl h
  subst hR0;go_enter Tryz.func107, Tryz.ntmps107;go_wp2_with fail;go_ret;exact ⟨rfl, HB.o⟩
theorem Zmz (r : Zf) (B : Nat) (cs : List Value) (F : Nat → Prop) (w : World) (l : List Ze) (v : Value) (h : Z1 F w B r cs) (hr : Zp Zd 6 F w l v) :
  Calls Tryz.prog 107 #[.pointer (some ⟨B, 0, none⟩), .int .i64 2, v] w fun e w' => e = .returned (.bool (Z6 r 2 l)) ∧ Below w.heap.size w w' := by
 obtain ⟨R, hR⟩ : ∃ R, Z6 r 2 l = R := ⟨_, rfl⟩;rw [hR];have hR2 : Zh r [1] l = R := by rw [← hR]; simp [Z6, Zam]
 clear hR;obtain ⟨A, c, rfl, hc, hcm, _⟩ := id hr;unfold maxLen at hcm;have hl1 : Za w ((w.alloc (.cells #[] 3)).alloc (.cells #[.int .i64 1] 3)) := ((Za.refl w).alloc _).alloc _;have HS := zh (h.later hl1);have HRW := zh (hr.later Zc hl1);have HB := zh hl1;clear h hr hl1;have HKA := zh (show ((w.alloc (.cells #[] 3)).alloc (.cells #[.int .i64 1] 3)).heap[w.heap.size + 1]? = some (.cells #[.int .i64 1] 3 (0, 0)) by have := heap_alloc_new (w.alloc (.cells #[] 3)) (.cells #[.int .i64 1] 3); simpa using this)
 by_cases hN : l.length = 1
 ·obtain ⟨v0, rfl⟩ : ∃ v0, l = [v0] := by
   match l, hN with
   | [a0], _ => exact ⟨a0, rfl⟩
  clear hN;have HR2 := zh hR2;clear hR2;simp only [List.length_cons, List.length_nil, Nat.zero_add, Nat.reduceAdd] at hc HRW ⊢;go_enter Tryz.func107, Tryz.ntmps107;go_wp2_with fail;refine wp_loop_rounds 2 ?_;rw [rounds_succ];obtain ⟨x, hx⟩ : ∃ x, x = ((w.alloc (.cells #[] 3)).alloc (.cells #[.int .i64 1] 3)) := ⟨_, rfl⟩;rw [← hx] at HS HRW HB HKA ⊢;clear hx;have HLX := zh (Za.refl x);have HKX := zB HLX HKA;have k0 := cq HKX.o 0;simp only [nD, nE, nF] at k0;obtain ⟨b, o, e, hb, hat, hel0⟩ := (HRW.o.later Zc HLX.o).vat (j := 0) (by simp);cases e;simp only [List.getElem_cons_succ, List.getElem_cons_zero, Nat.reduceMul, Nat.add_zero] at hat hel0;obtain ⟨p, hp⟩ : ∃ p, (v0.kind == 1) = p := ⟨_, rfl⟩;have hq : (v0.kind != 1) = !p := by rw [← hp]; rfl
  have HP0 := zh hp;clear hp;obtain ⟨c0, c1, c2, c3, c4, c5⟩ := hat
  cases p with
  | false =>
   simp only [Bool.not_false] at hq;have hR0 : R = false := by rw [← HR2.o]; simp [Zh, Zw, HP0.o]
   subst hR0;go_wp2_with fail;go_ret;exact ⟨rfl, HB.o.trans HLX.o⟩
  | true =>
   simp only [Bool.not_true] at hq;obtain ⟨q, hqq⟩ : ∃ q, Zi r v0 = q := ⟨_, rfl⟩;have HQ0 := zh hqq;clear hqq;go_wp2_with fail;refine (Zag r B cs F _ v0 _ (HS.o.later HLX.o) hel0).mono ?_;rw [HQ0.o];rintro e y ⟨rfl, hy⟩;replace HLX := zh (HLX.o.trans hy);clear hy hel0 c0 c1 c2 c3 c4 c5 hb hq k0;clear HKX
   cases q with
   | false =>
    have hR0 : R = false := by rw [← HR2.o]; simp [Zh, Zw, HP0.o, HQ0.o]
    subst hR0;go_wp2_with fail;go_ret;exact ⟨rfl, HB.o.trans HLX.o⟩
   | true =>
    go_wp2_with fail;rw [rounds_succ];have HKX := zB HLX HKA;have hR0 : R = true := by rw [← HR2.o]; simp [Zh, Zw, HP0.o, HQ0.o]
    subst hR0;go_wp2_with fail;go_ret;exact ⟨rfl, HB.o.trans HLX.o⟩
 ·have t1 : ((l.length : Int) != 1) = true := bne_iff_ne.2 (by omega);have hR0 : R = false := by
   rw [← hR2]
   match l, hN with
   | [], _ => simp [Zh]
   | _ :: _ :: _, _ => simp [Zh]
   | [_], h => exact absurd rfl h
  subst hR0;go_enter Tryz.func107, Tryz.ntmps107;go_wp2_with fail;go_ret;exact ⟨rfl, HB.o⟩
theorem Zm0 (r : Zf) (B : Nat) (cs : List Value) (F : Nat → Prop) (w : World) (l : List Ze) (v : Value) (h : Z1 F w B r cs) (hr : Zp Zd 6 F w l v) :
  Calls Tryz.prog 107 #[.pointer (some ⟨B, 0, none⟩), .int .i64 3, v] w fun e w' => e = .returned (.bool (Z6 r 3 l)) ∧ Below w.heap.size w w' := by
 obtain ⟨R, hR⟩ : ∃ R, Z6 r 3 l = R := ⟨_, rfl⟩;rw [hR];have hR2 : Zh r [1] l = R := by rw [← hR]; simp [Z6, Zam]
 clear hR;obtain ⟨A, c, rfl, hc, hcm, _⟩ := id hr;unfold maxLen at hcm;have hl1 : Za w ((w.alloc (.cells #[] 3)).alloc (.cells #[.int .i64 1] 3)) := ((Za.refl w).alloc _).alloc _;have HS := zh (h.later hl1);have HRW := zh (hr.later Zc hl1);have HB := zh hl1;clear h hr hl1;have HKA := zh (show ((w.alloc (.cells #[] 3)).alloc (.cells #[.int .i64 1] 3)).heap[w.heap.size + 1]? = some (.cells #[.int .i64 1] 3 (0, 0)) by have := heap_alloc_new (w.alloc (.cells #[] 3)) (.cells #[.int .i64 1] 3); simpa using this)
 by_cases hN : l.length = 1
 ·obtain ⟨v0, rfl⟩ : ∃ v0, l = [v0] := by
   match l, hN with
   | [a0], _ => exact ⟨a0, rfl⟩
  clear hN;have HR2 := zh hR2;clear hR2;simp only [List.length_cons, List.length_nil, Nat.zero_add, Nat.reduceAdd] at hc HRW ⊢;go_enter Tryz.func107, Tryz.ntmps107;go_wp2_with fail;refine wp_loop_rounds 2 ?_;rw [rounds_succ];obtain ⟨x, hx⟩ : ∃ x, x = ((w.alloc (.cells #[] 3)).alloc (.cells #[.int .i64 1] 3)) := ⟨_, rfl⟩;rw [← hx] at HS HRW HB HKA ⊢;clear hx;have HLX := zh (Za.refl x);have HKX := zB HLX HKA;have k0 := cq HKX.o 0;simp only [nD, nE, nF] at k0;obtain ⟨b, o, e, hb, hat, hel0⟩ := (HRW.o.later Zc HLX.o).vat (j := 0) (by simp);cases e;simp only [List.getElem_cons_succ, List.getElem_cons_zero, Nat.reduceMul, Nat.add_zero] at hat hel0;obtain ⟨p, hp⟩ : ∃ p, (v0.kind == 1) = p := ⟨_, rfl⟩;have hq : (v0.kind != 1) = !p := by rw [← hp]; rfl
  have HP0 := zh hp;clear hp;obtain ⟨c0, c1, c2, c3, c4, c5⟩ := hat
  cases p with
  | false =>
   simp only [Bool.not_false] at hq;have hR0 : R = false := by rw [← HR2.o]; simp [Zh, Zw, HP0.o]
   subst hR0;go_wp2_with fail;go_ret;exact ⟨rfl, HB.o.trans HLX.o⟩
  | true =>
   simp only [Bool.not_true] at hq;obtain ⟨q, hqq⟩ : ∃ q, Zi r v0 = q := ⟨_, rfl⟩;have HQ0 := zh hqq;clear hqq;go_wp2_with fail;refine (Zag r B cs F _ v0 _ (HS.o.later HLX.o) hel0).mono ?_;rw [HQ0.o];rintro e y ⟨rfl, hy⟩;replace HLX := zh (HLX.o.trans hy);clear hy hel0 c0 c1 c2 c3 c4 c5 hb hq k0;clear HKX
   cases q with
   | false =>
    have hR0 : R = false := by rw [← HR2.o]; simp [Zh, Zw, HP0.o, HQ0.o]
    subst hR0;go_wp2_with fail;go_ret;exact ⟨rfl, HB.o.trans HLX.o⟩
   | true =>
    go_wp2_with fail;rw [rounds_succ];have HKX := zB HLX HKA;have hR0 : R = true := by rw [← HR2.o]; simp [Zh, Zw, HP0.o, HQ0.o]
    subst hR0;go_wp2_with fail;go_ret;exact ⟨rfl, HB.o.trans HLX.o⟩
 ·have t1 : ((l.length : Int) != 1) = true := bne_iff_ne.2 (by omega);have hR0 : R = false := by
   rw [← hR2]
   match l, hN with
   | [], _ => simp [Zh]
   | _ :: _ :: _, _ => simp [Zh]
   | [_], h => exact absurd rfl h
  subst hR0;go_enter Tryz.func107, Tryz.ntmps107;go_wp2_with fail;go_ret;exact ⟨rfl, HB.o⟩
theorem Zm1 (r : Zf) (B : Nat) (cs : List Value) (F : Nat → Prop) (w : World) (l : List Ze) (v : Value) (h : Z1 F w B r cs) (hr : Zp Zd 6 F w l v) :
  Calls Tryz.prog 107 #[.pointer (some ⟨B, 0, none⟩), .int .i64 4, v] w fun e w' => e = .returned (.bool (Z6 r 4 l)) ∧ Below w.heap.size w w' := by
 obtain ⟨R, hR⟩ : ∃ R, Z6 r 4 l = R := ⟨_, rfl⟩;rw [hR];have hR2 : Zh r [1] l = R := by rw [← hR]; simp [Z6, Zam]
 clear hR;obtain ⟨A, c, rfl, hc, hcm, _⟩ := id hr;unfold maxLen at hcm;have hl1 : Za w ((w.alloc (.cells #[] 3)).alloc (.cells #[.int .i64 1] 3)) := ((Za.refl w).alloc _).alloc _;have HS := zh (h.later hl1);have HRW := zh (hr.later Zc hl1);have HB := zh hl1;clear h hr hl1;have HKA := zh (show ((w.alloc (.cells #[] 3)).alloc (.cells #[.int .i64 1] 3)).heap[w.heap.size + 1]? = some (.cells #[.int .i64 1] 3 (0, 0)) by have := heap_alloc_new (w.alloc (.cells #[] 3)) (.cells #[.int .i64 1] 3); simpa using this)
 by_cases hN : l.length = 1
 ·obtain ⟨v0, rfl⟩ : ∃ v0, l = [v0] := by
   match l, hN with
   | [a0], _ => exact ⟨a0, rfl⟩
  clear hN;have HR2 := zh hR2;clear hR2;simp only [List.length_cons, List.length_nil, Nat.zero_add, Nat.reduceAdd] at hc HRW ⊢;go_enter Tryz.func107, Tryz.ntmps107;go_wp2_with fail;refine wp_loop_rounds 2 ?_;rw [rounds_succ];obtain ⟨x, hx⟩ : ∃ x, x = ((w.alloc (.cells #[] 3)).alloc (.cells #[.int .i64 1] 3)) := ⟨_, rfl⟩;rw [← hx] at HS HRW HB HKA ⊢;clear hx;have HLX := zh (Za.refl x);have HKX := zB HLX HKA;have k0 := cq HKX.o 0;simp only [nD, nE, nF] at k0;obtain ⟨b, o, e, hb, hat, hel0⟩ := (HRW.o.later Zc HLX.o).vat (j := 0) (by simp);cases e;simp only [List.getElem_cons_succ, List.getElem_cons_zero, Nat.reduceMul, Nat.add_zero] at hat hel0;obtain ⟨p, hp⟩ : ∃ p, (v0.kind == 1) = p := ⟨_, rfl⟩;have hq : (v0.kind != 1) = !p := by rw [← hp]; rfl
  have HP0 := zh hp;clear hp;obtain ⟨c0, c1, c2, c3, c4, c5⟩ := hat
  cases p with
  | false =>
   simp only [Bool.not_false] at hq;have hR0 : R = false := by rw [← HR2.o]; simp [Zh, Zw, HP0.o]
   subst hR0;go_wp2_with fail;go_ret;exact ⟨rfl, HB.o.trans HLX.o⟩
  | true =>
   simp only [Bool.not_true] at hq;obtain ⟨q, hqq⟩ : ∃ q, Zi r v0 = q := ⟨_, rfl⟩;have HQ0 := zh hqq;clear hqq;go_wp2_with fail;refine (Zag r B cs F _ v0 _ (HS.o.later HLX.o) hel0).mono ?_;rw [HQ0.o];rintro e y ⟨rfl, hy⟩;replace HLX := zh (HLX.o.trans hy);clear hy hel0 c0 c1 c2 c3 c4 c5 hb hq k0;clear HKX
   cases q with
   | false =>
    have hR0 : R = false := by rw [← HR2.o]; simp [Zh, Zw, HP0.o, HQ0.o]
    subst hR0;go_wp2_with fail;go_ret;exact ⟨rfl, HB.o.trans HLX.o⟩
   | true =>
    go_wp2_with fail;rw [rounds_succ];have HKX := zB HLX HKA;have hR0 : R = true := by rw [← HR2.o]; simp [Zh, Zw, HP0.o, HQ0.o]
    subst hR0;go_wp2_with fail;go_ret;exact ⟨rfl, HB.o.trans HLX.o⟩
 ·have t1 : ((l.length : Int) != 1) = true := bne_iff_ne.2 (by omega);have hR0 : R = false := by
   rw [← hR2]
   match l, hN with
   | [], _ => simp [Zh]
   | _ :: _ :: _, _ => simp [Zh]
   | [_], h => exact absurd rfl h
  subst hR0;go_enter Tryz.func107, Tryz.ntmps107;go_wp2_with fail;go_ret;exact ⟨rfl, HB.o⟩
theorem Zm2 (r : Zf) (B : Nat) (cs : List Value) (F : Nat → Prop) (w : World) (l : List Ze) (v : Value) (h : Z1 F w B r cs) (hr : Zp Zd 6 F w l v) :
  Calls Tryz.prog 107 #[.pointer (some ⟨B, 0, none⟩), .int .i64 5, v] w fun e w' => e = .returned (.bool (Z6 r 5 l)) ∧ Below w.heap.size w w' := by
 obtain ⟨R, hR⟩ : ∃ R, Z6 r 5 l = R := ⟨_, rfl⟩;rw [hR];have hR2 : Zh r [1] l = R := by rw [← hR]; simp [Z6, Zam]
 clear hR;obtain ⟨A, c, rfl, hc, hcm, _⟩ := id hr;unfold maxLen at hcm;have hl1 : Za w ((w.alloc (.cells #[] 3)).alloc (.cells #[.int .i64 1] 3)) := ((Za.refl w).alloc _).alloc _;have HS := zh (h.later hl1);have HRW := zh (hr.later Zc hl1);have HB := zh hl1;clear h hr hl1;have HKA := zh (show ((w.alloc (.cells #[] 3)).alloc (.cells #[.int .i64 1] 3)).heap[w.heap.size + 1]? = some (.cells #[.int .i64 1] 3 (0, 0)) by have := heap_alloc_new (w.alloc (.cells #[] 3)) (.cells #[.int .i64 1] 3); simpa using this)
 by_cases hN : l.length = 1
 ·obtain ⟨v0, rfl⟩ : ∃ v0, l = [v0] := by
   match l, hN with
   | [a0], _ => exact ⟨a0, rfl⟩
  clear hN;have HR2 := zh hR2;clear hR2;simp only [List.length_cons, List.length_nil, Nat.zero_add, Nat.reduceAdd] at hc HRW ⊢;go_enter Tryz.func107, Tryz.ntmps107;go_wp2_with fail;refine wp_loop_rounds 2 ?_;rw [rounds_succ];obtain ⟨x, hx⟩ : ∃ x, x = ((w.alloc (.cells #[] 3)).alloc (.cells #[.int .i64 1] 3)) := ⟨_, rfl⟩;rw [← hx] at HS HRW HB HKA ⊢;clear hx;have HLX := zh (Za.refl x);have HKX := zB HLX HKA;have k0 := cq HKX.o 0;simp only [nD, nE, nF] at k0;obtain ⟨b, o, e, hb, hat, hel0⟩ := (HRW.o.later Zc HLX.o).vat (j := 0) (by simp);cases e;simp only [List.getElem_cons_succ, List.getElem_cons_zero, Nat.reduceMul, Nat.add_zero] at hat hel0;obtain ⟨p, hp⟩ : ∃ p, (v0.kind == 1) = p := ⟨_, rfl⟩;have hq : (v0.kind != 1) = !p := by rw [← hp]; rfl
  have HP0 := zh hp;clear hp;obtain ⟨c0, c1, c2, c3, c4, c5⟩ := hat
  cases p with
  | false =>
   simp only [Bool.not_false] at hq;have hR0 : R = false := by rw [← HR2.o]; simp [Zh, Zw, HP0.o]
   subst hR0;go_wp2_with fail;go_ret;exact ⟨rfl, HB.o.trans HLX.o⟩
  | true =>
   simp only [Bool.not_true] at hq;obtain ⟨q, hqq⟩ : ∃ q, Zi r v0 = q := ⟨_, rfl⟩;have HQ0 := zh hqq;clear hqq;go_wp2_with fail;refine (Zag r B cs F _ v0 _ (HS.o.later HLX.o) hel0).mono ?_;rw [HQ0.o];rintro e y ⟨rfl, hy⟩;replace HLX := zh (HLX.o.trans hy);clear hy hel0 c0 c1 c2 c3 c4 c5 hb hq k0;clear HKX
   cases q with
   | false =>
    have hR0 : R = false := by rw [← HR2.o]; simp [Zh, Zw, HP0.o, HQ0.o]
    subst hR0;go_wp2_with fail;go_ret;exact ⟨rfl, HB.o.trans HLX.o⟩
   | true =>
    go_wp2_with fail;rw [rounds_succ];have HKX := zB HLX HKA;have hR0 : R = true := by rw [← HR2.o]; simp [Zh, Zw, HP0.o, HQ0.o]
    subst hR0;go_wp2_with fail;go_ret;exact ⟨rfl, HB.o.trans HLX.o⟩
 ·have t1 : ((l.length : Int) != 1) = true := bne_iff_ne.2 (by omega);have hR0 : R = false := by
   rw [← hR2]
   match l, hN with
   | [], _ => simp [Zh]
   | _ :: _ :: _, _ => simp [Zh]
   | [_], h => exact absurd rfl h
  subst hR0;go_enter Tryz.func107, Tryz.ntmps107;go_wp2_with fail;go_ret;exact ⟨rfl, HB.o⟩
theorem Zm3 (r : Zf) (B : Nat) (cs : List Value) (F : Nat → Prop) (w : World) (l : List Ze) (v : Value) (h : Z1 F w B r cs) (hr : Zp Zd 6 F w l v) :
  Calls Tryz.prog 107 #[.pointer (some ⟨B, 0, none⟩), .int .i64 6, v] w fun e w' => e = .returned (.bool (Z6 r 6 l)) ∧ Below w.heap.size w w' := by
 obtain ⟨R, hR⟩ : ∃ R, Z6 r 6 l = R := ⟨_, rfl⟩;rw [hR];have hR2 : Zh r [1] l = R := by rw [← hR]; simp [Z6, Zam]
 clear hR;obtain ⟨A, c, rfl, hc, hcm, _⟩ := id hr;unfold maxLen at hcm;have hl1 : Za w ((w.alloc (.cells #[] 3)).alloc (.cells #[.int .i64 1] 3)) := ((Za.refl w).alloc _).alloc _;have HS := zh (h.later hl1);have HRW := zh (hr.later Zc hl1);have HB := zh hl1;clear h hr hl1;have HKA := zh (show ((w.alloc (.cells #[] 3)).alloc (.cells #[.int .i64 1] 3)).heap[w.heap.size + 1]? = some (.cells #[.int .i64 1] 3 (0, 0)) by have := heap_alloc_new (w.alloc (.cells #[] 3)) (.cells #[.int .i64 1] 3); simpa using this)
 by_cases hN : l.length = 1
 ·obtain ⟨v0, rfl⟩ : ∃ v0, l = [v0] := by
   match l, hN with
   | [a0], _ => exact ⟨a0, rfl⟩
  clear hN;have HR2 := zh hR2;clear hR2;simp only [List.length_cons, List.length_nil, Nat.zero_add, Nat.reduceAdd] at hc HRW ⊢;go_enter Tryz.func107, Tryz.ntmps107;go_wp2_with fail;refine wp_loop_rounds 2 ?_;rw [rounds_succ];obtain ⟨x, hx⟩ : ∃ x, x = ((w.alloc (.cells #[] 3)).alloc (.cells #[.int .i64 1] 3)) := ⟨_, rfl⟩;rw [← hx] at HS HRW HB HKA ⊢;clear hx;have HLX := zh (Za.refl x);have HKX := zB HLX HKA;have k0 := cq HKX.o 0;simp only [nD, nE, nF] at k0;obtain ⟨b, o, e, hb, hat, hel0⟩ := (HRW.o.later Zc HLX.o).vat (j := 0) (by simp);cases e;simp only [List.getElem_cons_succ, List.getElem_cons_zero, Nat.reduceMul, Nat.add_zero] at hat hel0;obtain ⟨p, hp⟩ : ∃ p, (v0.kind == 1) = p := ⟨_, rfl⟩;have hq : (v0.kind != 1) = !p := by rw [← hp]; rfl
  have HP0 := zh hp;clear hp;obtain ⟨c0, c1, c2, c3, c4, c5⟩ := hat
  cases p with
  | false =>
   simp only [Bool.not_false] at hq;have hR0 : R = false := by rw [← HR2.o]; simp [Zh, Zw, HP0.o]
   subst hR0;go_wp2_with fail;go_ret;exact ⟨rfl, HB.o.trans HLX.o⟩
  | true =>
   simp only [Bool.not_true] at hq;obtain ⟨q, hqq⟩ : ∃ q, Zi r v0 = q := ⟨_, rfl⟩;have HQ0 := zh hqq;clear hqq;go_wp2_with fail;refine (Zag r B cs F _ v0 _ (HS.o.later HLX.o) hel0).mono ?_;rw [HQ0.o];rintro e y ⟨rfl, hy⟩;replace HLX := zh (HLX.o.trans hy);clear hy hel0 c0 c1 c2 c3 c4 c5 hb hq k0;clear HKX
   cases q with
   | false =>
    have hR0 : R = false := by rw [← HR2.o]; simp [Zh, Zw, HP0.o, HQ0.o]
    subst hR0;go_wp2_with fail;go_ret;exact ⟨rfl, HB.o.trans HLX.o⟩
   | true =>
    go_wp2_with fail;rw [rounds_succ];have HKX := zB HLX HKA;have hR0 : R = true := by rw [← HR2.o]; simp [Zh, Zw, HP0.o, HQ0.o]
    subst hR0;go_wp2_with fail;go_ret;exact ⟨rfl, HB.o.trans HLX.o⟩
 ·have t1 : ((l.length : Int) != 1) = true := bne_iff_ne.2 (by omega);have hR0 : R = false := by
   rw [← hR2]
   match l, hN with
   | [], _ => simp [Zh]
   | _ :: _ :: _, _ => simp [Zh]
   | [_], h => exact absurd rfl h
  subst hR0;go_enter Tryz.func107, Tryz.ntmps107;go_wp2_with fail;go_ret;exact ⟨rfl, HB.o⟩
theorem Zm4 (r : Zf) (B : Nat) (cs : List Value) (F : Nat → Prop) (w : World) (l : List Ze) (v : Value) (h : Z1 F w B r cs) (hr : Zp Zd 6 F w l v) :
  Calls Tryz.prog 107 #[.pointer (some ⟨B, 0, none⟩), .int .i64 7, v] w fun e w' => e = .returned (.bool (Z6 r 7 l)) ∧ Below w.heap.size w w' := by
 obtain ⟨R, hR⟩ : ∃ R, Z6 r 7 l = R := ⟨_, rfl⟩;rw [hR];have hR2 : Zh r [3] l = R := by rw [← hR]; simp [Z6, Zam]
 clear hR;obtain ⟨A, c, rfl, hc, hcm, _⟩ := id hr;unfold maxLen at hcm;have hl1 : Za w ((w.alloc (.cells #[] 3)).alloc (.cells #[.int .i64 3] 3)) := ((Za.refl w).alloc _).alloc _;have HS := zh (h.later hl1);have HRW := zh (hr.later Zc hl1);have HB := zh hl1;clear h hr hl1;have HKA := zh (show ((w.alloc (.cells #[] 3)).alloc (.cells #[.int .i64 3] 3)).heap[w.heap.size + 1]? = some (.cells #[.int .i64 3] 3 (0, 0)) by have := heap_alloc_new (w.alloc (.cells #[] 3)) (.cells #[.int .i64 3] 3); simpa using this)
 by_cases hN : l.length = 1
 ·obtain ⟨v0, rfl⟩ : ∃ v0, l = [v0] := by
   match l, hN with
   | [a0], _ => exact ⟨a0, rfl⟩
  clear hN;have HR2 := zh hR2;clear hR2;simp only [List.length_cons, List.length_nil, Nat.zero_add, Nat.reduceAdd] at hc HRW ⊢;go_enter Tryz.func107, Tryz.ntmps107;go_wp2_with fail;refine wp_loop_rounds 2 ?_;rw [rounds_succ];obtain ⟨x, hx⟩ : ∃ x, x = ((w.alloc (.cells #[] 3)).alloc (.cells #[.int .i64 3] 3)) := ⟨_, rfl⟩;rw [← hx] at HS HRW HB HKA ⊢;clear hx;have HLX := zh (Za.refl x);have HKX := zB HLX HKA;have k0 := cq HKX.o 0;simp only [nD, nE, nF] at k0;obtain ⟨b, o, e, hb, hat, hel0⟩ := (HRW.o.later Zc HLX.o).vat (j := 0) (by simp);cases e;simp only [List.getElem_cons_succ, List.getElem_cons_zero, Nat.reduceMul, Nat.add_zero] at hat hel0;obtain ⟨p, hp⟩ : ∃ p, (v0.kind == 3) = p := ⟨_, rfl⟩;have hq : (v0.kind != 3) = !p := by rw [← hp]; rfl
  have HP0 := zh hp;clear hp;obtain ⟨c0, c1, c2, c3, c4, c5⟩ := hat
  cases p with
  | false =>
   simp only [Bool.not_false] at hq;have hR0 : R = false := by rw [← HR2.o]; simp [Zh, Zw, HP0.o]
   subst hR0;go_wp2_with fail;go_ret;exact ⟨rfl, HB.o.trans HLX.o⟩
  | true =>
   simp only [Bool.not_true] at hq;obtain ⟨q, hqq⟩ : ∃ q, Zi r v0 = q := ⟨_, rfl⟩;have HQ0 := zh hqq;clear hqq;go_wp2_with fail;refine (Zag r B cs F _ v0 _ (HS.o.later HLX.o) hel0).mono ?_;rw [HQ0.o];rintro e y ⟨rfl, hy⟩;replace HLX := zh (HLX.o.trans hy);clear hy hel0 c0 c1 c2 c3 c4 c5 hb hq k0;clear HKX
   cases q with
   | false =>
    have hR0 : R = false := by rw [← HR2.o]; simp [Zh, Zw, HP0.o, HQ0.o]
    subst hR0;go_wp2_with fail;go_ret;exact ⟨rfl, HB.o.trans HLX.o⟩
   | true =>
    go_wp2_with fail;rw [rounds_succ];have HKX := zB HLX HKA;have hR0 : R = true := by rw [← HR2.o]; simp [Zh, Zw, HP0.o, HQ0.o]
    subst hR0;go_wp2_with fail;go_ret;exact ⟨rfl, HB.o.trans HLX.o⟩
 ·have t1 : ((l.length : Int) != 1) = true := bne_iff_ne.2 (by omega);have hR0 : R = false := by
   rw [← hR2]
   match l, hN with
   | [], _ => simp [Zh]
   | _ :: _ :: _, _ => simp [Zh]
   | [_], h => exact absurd rfl h
  subst hR0;go_enter Tryz.func107, Tryz.ntmps107;go_wp2_with fail;go_ret;exact ⟨rfl, HB.o⟩
theorem Zm5 (r : Zf) (B : Nat) (cs : List Value) (F : Nat → Prop) (w : World) (l : List Ze) (v : Value) (h : Z1 F w B r cs) (hr : Zp Zd 6 F w l v) :
  Calls Tryz.prog 107 #[.pointer (some ⟨B, 0, none⟩), .int .i64 8, v] w fun e w' => e = .returned (.bool (Z6 r 8 l)) ∧ Below w.heap.size w w' := by
 obtain ⟨R, hR⟩ : ∃ R, Z6 r 8 l = R := ⟨_, rfl⟩;rw [hR];have hR2 : Zh r [3] l = R := by rw [← hR]; simp [Z6, Zam]
 clear hR;obtain ⟨A, c, rfl, hc, hcm, _⟩ := id hr;unfold maxLen at hcm;have hl1 : Za w ((w.alloc (.cells #[] 3)).alloc (.cells #[.int .i64 3] 3)) := ((Za.refl w).alloc _).alloc _;have HS := zh (h.later hl1);have HRW := zh (hr.later Zc hl1);have HB := zh hl1;clear h hr hl1;have HKA := zh (show ((w.alloc (.cells #[] 3)).alloc (.cells #[.int .i64 3] 3)).heap[w.heap.size + 1]? = some (.cells #[.int .i64 3] 3 (0, 0)) by have := heap_alloc_new (w.alloc (.cells #[] 3)) (.cells #[.int .i64 3] 3); simpa using this)
 by_cases hN : l.length = 1
 ·obtain ⟨v0, rfl⟩ : ∃ v0, l = [v0] := by
   match l, hN with
   | [a0], _ => exact ⟨a0, rfl⟩
  clear hN;have HR2 := zh hR2;clear hR2;simp only [List.length_cons, List.length_nil, Nat.zero_add, Nat.reduceAdd] at hc HRW ⊢;go_enter Tryz.func107, Tryz.ntmps107;go_wp2_with fail;refine wp_loop_rounds 2 ?_;rw [rounds_succ];obtain ⟨x, hx⟩ : ∃ x, x = ((w.alloc (.cells #[] 3)).alloc (.cells #[.int .i64 3] 3)) := ⟨_, rfl⟩;rw [← hx] at HS HRW HB HKA ⊢;clear hx;have HLX := zh (Za.refl x);have HKX := zB HLX HKA;have k0 := cq HKX.o 0;simp only [nD, nE, nF] at k0;obtain ⟨b, o, e, hb, hat, hel0⟩ := (HRW.o.later Zc HLX.o).vat (j := 0) (by simp);cases e;simp only [List.getElem_cons_succ, List.getElem_cons_zero, Nat.reduceMul, Nat.add_zero] at hat hel0;obtain ⟨p, hp⟩ : ∃ p, (v0.kind == 3) = p := ⟨_, rfl⟩;have hq : (v0.kind != 3) = !p := by rw [← hp]; rfl
  have HP0 := zh hp;clear hp;obtain ⟨c0, c1, c2, c3, c4, c5⟩ := hat
  cases p with
  | false =>
   simp only [Bool.not_false] at hq;have hR0 : R = false := by rw [← HR2.o]; simp [Zh, Zw, HP0.o]
   subst hR0;go_wp2_with fail;go_ret;exact ⟨rfl, HB.o.trans HLX.o⟩
  | true =>
   simp only [Bool.not_true] at hq;obtain ⟨q, hqq⟩ : ∃ q, Zi r v0 = q := ⟨_, rfl⟩;have HQ0 := zh hqq;clear hqq;go_wp2_with fail;refine (Zag r B cs F _ v0 _ (HS.o.later HLX.o) hel0).mono ?_;rw [HQ0.o];rintro e y ⟨rfl, hy⟩;replace HLX := zh (HLX.o.trans hy);clear hy hel0 c0 c1 c2 c3 c4 c5 hb hq k0;clear HKX
   cases q with
   | false =>
    have hR0 : R = false := by rw [← HR2.o]; simp [Zh, Zw, HP0.o, HQ0.o]
    subst hR0;go_wp2_with fail;go_ret;exact ⟨rfl, HB.o.trans HLX.o⟩
   | true =>
    go_wp2_with fail;rw [rounds_succ];have HKX := zB HLX HKA;have hR0 : R = true := by rw [← HR2.o]; simp [Zh, Zw, HP0.o, HQ0.o]
    subst hR0;go_wp2_with fail;go_ret;exact ⟨rfl, HB.o.trans HLX.o⟩
 ·have t1 : ((l.length : Int) != 1) = true := bne_iff_ne.2 (by omega);have hR0 : R = false := by
   rw [← hR2]
   match l, hN with
   | [], _ => simp [Zh]
   | _ :: _ :: _, _ => simp [Zh]
   | [_], h => exact absurd rfl h
  subst hR0;go_enter Tryz.func107, Tryz.ntmps107;go_wp2_with fail;go_ret;exact ⟨rfl, HB.o⟩
theorem Zm6 (r : Zf) (B : Nat) (cs : List Value) (F : Nat → Prop) (w : World) (l : List Ze) (v : Value) (h : Z1 F w B r cs) (hr : Zp Zd 6 F w l v) :
  Calls Tryz.prog 107 #[.pointer (some ⟨B, 0, none⟩), .int .i64 9, v] w fun e w' => e = .returned (.bool (Z6 r 9 l)) ∧ Below w.heap.size w w' := by
 obtain ⟨R, hR⟩ : ∃ R, Z6 r 9 l = R := ⟨_, rfl⟩;rw [hR];have hR2 : Zh r [3] l = R := by rw [← hR]; simp [Z6, Zam]
 clear hR;obtain ⟨A, c, rfl, hc, hcm, _⟩ := id hr;unfold maxLen at hcm;have hl1 : Za w ((w.alloc (.cells #[] 3)).alloc (.cells #[.int .i64 3] 3)) := ((Za.refl w).alloc _).alloc _;have HS := zh (h.later hl1);have HRW := zh (hr.later Zc hl1);have HB := zh hl1;clear h hr hl1;have HKA := zh (show ((w.alloc (.cells #[] 3)).alloc (.cells #[.int .i64 3] 3)).heap[w.heap.size + 1]? = some (.cells #[.int .i64 3] 3 (0, 0)) by have := heap_alloc_new (w.alloc (.cells #[] 3)) (.cells #[.int .i64 3] 3); simpa using this)
 by_cases hN : l.length = 1
 ·obtain ⟨v0, rfl⟩ : ∃ v0, l = [v0] := by
   match l, hN with
   | [a0], _ => exact ⟨a0, rfl⟩
  clear hN;have HR2 := zh hR2;clear hR2;simp only [List.length_cons, List.length_nil, Nat.zero_add, Nat.reduceAdd] at hc HRW ⊢;go_enter Tryz.func107, Tryz.ntmps107;go_wp2_with fail;refine wp_loop_rounds 2 ?_;rw [rounds_succ];obtain ⟨x, hx⟩ : ∃ x, x = ((w.alloc (.cells #[] 3)).alloc (.cells #[.int .i64 3] 3)) := ⟨_, rfl⟩;rw [← hx] at HS HRW HB HKA ⊢;clear hx;have HLX := zh (Za.refl x);have HKX := zB HLX HKA;have k0 := cq HKX.o 0;simp only [nD, nE, nF] at k0;obtain ⟨b, o, e, hb, hat, hel0⟩ := (HRW.o.later Zc HLX.o).vat (j := 0) (by simp);cases e;simp only [List.getElem_cons_succ, List.getElem_cons_zero, Nat.reduceMul, Nat.add_zero] at hat hel0;obtain ⟨p, hp⟩ : ∃ p, (v0.kind == 3) = p := ⟨_, rfl⟩;have hq : (v0.kind != 3) = !p := by rw [← hp]; rfl
  have HP0 := zh hp;clear hp;obtain ⟨c0, c1, c2, c3, c4, c5⟩ := hat
  cases p with
  | false =>
   simp only [Bool.not_false] at hq;have hR0 : R = false := by rw [← HR2.o]; simp [Zh, Zw, HP0.o]
   subst hR0;go_wp2_with fail;go_ret;exact ⟨rfl, HB.o.trans HLX.o⟩
  | true =>
   simp only [Bool.not_true] at hq;obtain ⟨q, hqq⟩ : ∃ q, Zi r v0 = q := ⟨_, rfl⟩;have HQ0 := zh hqq;clear hqq;go_wp2_with fail;refine (Zag r B cs F _ v0 _ (HS.o.later HLX.o) hel0).mono ?_;rw [HQ0.o];rintro e y ⟨rfl, hy⟩;replace HLX := zh (HLX.o.trans hy);clear hy hel0 c0 c1 c2 c3 c4 c5 hb hq k0;clear HKX
   cases q with
   | false =>
    have hR0 : R = false := by rw [← HR2.o]; simp [Zh, Zw, HP0.o, HQ0.o]
    subst hR0;go_wp2_with fail;go_ret;exact ⟨rfl, HB.o.trans HLX.o⟩
   | true =>
    go_wp2_with fail;rw [rounds_succ];have HKX := zB HLX HKA;have hR0 : R = true := by rw [← HR2.o]; simp [Zh, Zw, HP0.o, HQ0.o]
    subst hR0;go_wp2_with fail;go_ret;exact ⟨rfl, HB.o.trans HLX.o⟩
 ·have t1 : ((l.length : Int) != 1) = true := bne_iff_ne.2 (by omega);have hR0 : R = false := by
   rw [← hR2]
   match l, hN with
   | [], _ => simp [Zh]
   | _ :: _ :: _, _ => simp [Zh]
   | [_], h => exact absurd rfl h
  subst hR0;go_enter Tryz.func107, Tryz.ntmps107;go_wp2_with fail;go_ret;exact ⟨rfl, HB.o⟩
theorem Zla (r : Zf) (B : Nat) (cs : List Value) (F : Nat → Prop) (w : World) (l : List Ze) (v : Value) (h : Z1 F w B r cs) (hr : Zp Zd 6 F w l v) :
  Calls Tryz.prog 107 #[.pointer (some ⟨B, 0, none⟩), .int .i64 10, v] w fun e w' => e = .returned (.bool (Z6 r 10 l)) ∧ Below w.heap.size w w' := by
 obtain ⟨R, hR⟩ : ∃ R, Z6 r 10 l = R := ⟨_, rfl⟩;rw [hR];have hR2 : Zh r [3] l = R := by rw [← hR]; simp [Z6, Zam]
 clear hR;obtain ⟨A, c, rfl, hc, hcm, _⟩ := id hr;unfold maxLen at hcm;have hl1 : Za w ((w.alloc (.cells #[] 3)).alloc (.cells #[.int .i64 3] 3)) := ((Za.refl w).alloc _).alloc _;have HS := zh (h.later hl1);have HRW := zh (hr.later Zc hl1);have HB := zh hl1;clear h hr hl1;have HKA := zh (show ((w.alloc (.cells #[] 3)).alloc (.cells #[.int .i64 3] 3)).heap[w.heap.size + 1]? = some (.cells #[.int .i64 3] 3 (0, 0)) by have := heap_alloc_new (w.alloc (.cells #[] 3)) (.cells #[.int .i64 3] 3); simpa using this)
 by_cases hN : l.length = 1
 ·obtain ⟨v0, rfl⟩ : ∃ v0, l = [v0] := by
   match l, hN with
   | [a0], _ => exact ⟨a0, rfl⟩
  clear hN;have HR2 := zh hR2;clear hR2;simp only [List.length_cons, List.length_nil, Nat.zero_add, Nat.reduceAdd] at hc HRW ⊢;go_enter Tryz.func107, Tryz.ntmps107;go_wp2_with fail;refine wp_loop_rounds 2 ?_;rw [rounds_succ];obtain ⟨x, hx⟩ : ∃ x, x = ((w.alloc (.cells #[] 3)).alloc (.cells #[.int .i64 3] 3)) := ⟨_, rfl⟩;rw [← hx] at HS HRW HB HKA ⊢;clear hx;have HLX := zh (Za.refl x);have HKX := zB HLX HKA;have k0 := cq HKX.o 0;simp only [nD, nE, nF] at k0;obtain ⟨b, o, e, hb, hat, hel0⟩ := (HRW.o.later Zc HLX.o).vat (j := 0) (by simp);cases e;simp only [List.getElem_cons_succ, List.getElem_cons_zero, Nat.reduceMul, Nat.add_zero] at hat hel0;obtain ⟨p, hp⟩ : ∃ p, (v0.kind == 3) = p := ⟨_, rfl⟩;have hq : (v0.kind != 3) = !p := by rw [← hp]; rfl
  have HP0 := zh hp;clear hp;obtain ⟨c0, c1, c2, c3, c4, c5⟩ := hat
  cases p with
  | false =>
   simp only [Bool.not_false] at hq;have hR0 : R = false := by rw [← HR2.o]; simp [Zh, Zw, HP0.o]
   subst hR0;go_wp2_with fail;go_ret;exact ⟨rfl, HB.o.trans HLX.o⟩
  | true =>
   simp only [Bool.not_true] at hq;obtain ⟨q, hqq⟩ : ∃ q, Zi r v0 = q := ⟨_, rfl⟩;have HQ0 := zh hqq;clear hqq;go_wp2_with fail;refine (Zag r B cs F _ v0 _ (HS.o.later HLX.o) hel0).mono ?_;rw [HQ0.o];rintro e y ⟨rfl, hy⟩;replace HLX := zh (HLX.o.trans hy);clear hy hel0 c0 c1 c2 c3 c4 c5 hb hq k0;clear HKX
   cases q with
   | false =>
    have hR0 : R = false := by rw [← HR2.o]; simp [Zh, Zw, HP0.o, HQ0.o]
    subst hR0;go_wp2_with fail;go_ret;exact ⟨rfl, HB.o.trans HLX.o⟩
   | true =>
    go_wp2_with fail;rw [rounds_succ];have HKX := zB HLX HKA;have hR0 : R = true := by rw [← HR2.o]; simp [Zh, Zw, HP0.o, HQ0.o]
    subst hR0;go_wp2_with fail;go_ret;exact ⟨rfl, HB.o.trans HLX.o⟩
 ·have t1 : ((l.length : Int) != 1) = true := bne_iff_ne.2 (by omega);have hR0 : R = false := by
   rw [← hR2]
   match l, hN with
   | [], _ => simp [Zh]
   | _ :: _ :: _, _ => simp [Zh]
   | [_], h => exact absurd rfl h
  subst hR0;go_enter Tryz.func107, Tryz.ntmps107;go_wp2_with fail;go_ret;exact ⟨rfl, HB.o⟩
theorem Zlb (r : Zf) (B : Nat) (cs : List Value) (F : Nat → Prop) (w : World) (l : List Ze) (v : Value) (h : Z1 F w B r cs) (hr : Zp Zd 6 F w l v) :
  Calls Tryz.prog 107 #[.pointer (some ⟨B, 0, none⟩), .int .i64 11, v] w fun e w' => e = .returned (.bool (Z6 r 11 l)) ∧ Below w.heap.size w w' := by
 obtain ⟨R, hR⟩ : ∃ R, Z6 r 11 l = R := ⟨_, rfl⟩;rw [hR];have hR2 : Zh r [] l = R := by rw [← hR]; simp [Z6, Zam]
 clear hR;obtain ⟨A, c, rfl, hc, hcm, _⟩ := id hr;unfold maxLen at hcm;have hl1 : Za w (w.alloc (.cells #[] 3)) := (Za.refl w).alloc _;have HS := zh (h.later hl1);have HRW := zh (hr.later Zc hl1);have HB := zh hl1;clear h hr hl1
 by_cases hN : l.length = 0
 ·obtain rfl : l = [] := List.eq_nil_of_length_eq_zero hN;clear hN;have HR2 := zh hR2;clear hR2;simp only [List.length_cons, List.length_nil, Nat.zero_add, Nat.reduceAdd] at hc HRW ⊢;go_enter Tryz.func107, Tryz.ntmps107;go_wp2_with fail;refine wp_loop_rounds 1 ?_;rw [rounds_succ];obtain ⟨x, hx⟩ : ∃ x, x = (w.alloc (.cells #[] 3)) := ⟨_, rfl⟩;rw [← hx] at HS HRW HB ⊢;clear hx;have HLX := zh (Za.refl x);have hR0 : R = true := by rw [← HR2.o]; simp [Zh, Zw]
  subst hR0;go_wp2_with fail;go_ret;exact ⟨rfl, HB.o.trans HLX.o⟩
 ·have t1 : ((l.length : Int) != 0) = true := bne_iff_ne.2 (by omega);have hR0 : R = false := by
   rw [← hR2]
   match l, hN with
   | _ :: _, _ => simp [Zh]
   | [], h => exact absurd rfl h
  subst hR0;go_enter Tryz.func107, Tryz.ntmps107;go_wp2_with fail;go_ret;exact ⟨rfl, HB.o⟩
theorem Zlc (r : Zf) (B : Nat) (cs : List Value) (F : Nat → Prop) (w : World) (l : List Ze) (v : Value) (h : Z1 F w B r cs) (hr : Zp Zd 6 F w l v) :
  Calls Tryz.prog 107 #[.pointer (some ⟨B, 0, none⟩), .int .i64 12, v] w fun e w' => e = .returned (.bool (Z6 r 12 l)) ∧ Below w.heap.size w w' := by
 obtain ⟨R, hR⟩ : ∃ R, Z6 r 12 l = R := ⟨_, rfl⟩;rw [hR];have hR2 : Zh r [] l = R := by rw [← hR]; simp [Z6, Zam]
 clear hR;obtain ⟨A, c, rfl, hc, hcm, _⟩ := id hr;unfold maxLen at hcm;have hl1 : Za w (w.alloc (.cells #[] 3)) := (Za.refl w).alloc _;have HS := zh (h.later hl1);have HRW := zh (hr.later Zc hl1);have HB := zh hl1;clear h hr hl1
 by_cases hN : l.length = 0
 ·obtain rfl : l = [] := List.eq_nil_of_length_eq_zero hN;clear hN;have HR2 := zh hR2;clear hR2;simp only [List.length_cons, List.length_nil, Nat.zero_add, Nat.reduceAdd] at hc HRW ⊢;go_enter Tryz.func107, Tryz.ntmps107;go_wp2_with fail;refine wp_loop_rounds 1 ?_;rw [rounds_succ];obtain ⟨x, hx⟩ : ∃ x, x = (w.alloc (.cells #[] 3)) := ⟨_, rfl⟩;rw [← hx] at HS HRW HB ⊢;clear hx;have HLX := zh (Za.refl x);have hR0 : R = true := by rw [← HR2.o]; simp [Zh, Zw]
  subst hR0;go_wp2_with fail;go_ret;exact ⟨rfl, HB.o.trans HLX.o⟩
 ·have t1 : ((l.length : Int) != 0) = true := bne_iff_ne.2 (by omega);have hR0 : R = false := by
   rw [← hR2]
   match l, hN with
   | _ :: _, _ => simp [Zh]
   | [], h => exact absurd rfl h
  subst hR0;go_enter Tryz.func107, Tryz.ntmps107;go_wp2_with fail;go_ret;exact ⟨rfl, HB.o⟩
theorem Zld (r : Zf) (B : Nat) (cs : List Value) (F : Nat → Prop) (w : World) (l : List Ze) (v : Value) (h : Z1 F w B r cs) (hr : Zp Zd 6 F w l v) :
  Calls Tryz.prog 107 #[.pointer (some ⟨B, 0, none⟩), .int .i64 13, v] w fun e w' => e = .returned (.bool (Z6 r 13 l)) ∧ Below w.heap.size w w' := by
 obtain ⟨R, hR⟩ : ∃ R, Z6 r 13 l = R := ⟨_, rfl⟩;rw [hR];have hR2 : Zh r [12] l = R := by rw [← hR]; simp [Z6, Zam]
 clear hR;obtain ⟨A, c, rfl, hc, hcm, _⟩ := id hr;unfold maxLen at hcm;have hl1 : Za w ((w.alloc (.cells #[] 3)).alloc (.cells #[.int .i64 12] 3)) := ((Za.refl w).alloc _).alloc _;have HS := zh (h.later hl1);have HRW := zh (hr.later Zc hl1);have HB := zh hl1;clear h hr hl1;have HKA := zh (show ((w.alloc (.cells #[] 3)).alloc (.cells #[.int .i64 12] 3)).heap[w.heap.size + 1]? = some (.cells #[.int .i64 12] 3 (0, 0)) by have := heap_alloc_new (w.alloc (.cells #[] 3)) (.cells #[.int .i64 12] 3); simpa using this)
 by_cases hN : l.length = 1
 ·obtain ⟨v0, rfl⟩ : ∃ v0, l = [v0] := by
   match l, hN with
   | [a0], _ => exact ⟨a0, rfl⟩
  clear hN;have HR2 := zh hR2;clear hR2;simp only [List.length_cons, List.length_nil, Nat.zero_add, Nat.reduceAdd] at hc HRW ⊢;go_enter Tryz.func107, Tryz.ntmps107;go_wp2_with fail;refine wp_loop_rounds 2 ?_;rw [rounds_succ];obtain ⟨x, hx⟩ : ∃ x, x = ((w.alloc (.cells #[] 3)).alloc (.cells #[.int .i64 12] 3)) := ⟨_, rfl⟩;rw [← hx] at HS HRW HB HKA ⊢;clear hx;have HLX := zh (Za.refl x);have HKX := zB HLX HKA;have k0 := cq HKX.o 0;simp only [nD, nE, nF] at k0;obtain ⟨b, o, e, hb, hat, hel0⟩ := (HRW.o.later Zc HLX.o).vat (j := 0) (by simp);cases e;simp only [List.getElem_cons_succ, List.getElem_cons_zero, Nat.reduceMul, Nat.add_zero] at hat hel0;obtain ⟨p, hp⟩ : ∃ p, (v0.kind == 12) = p := ⟨_, rfl⟩;have hq : (v0.kind != 12) = !p := by rw [← hp]; rfl
  have HP0 := zh hp;clear hp;obtain ⟨c0, c1, c2, c3, c4, c5⟩ := hat
  cases p with
  | false =>
   simp only [Bool.not_false] at hq;have hR0 : R = false := by rw [← HR2.o]; simp [Zh, Zw, HP0.o]
   subst hR0;go_wp2_with fail;go_ret;exact ⟨rfl, HB.o.trans HLX.o⟩
  | true =>
   simp only [Bool.not_true] at hq;obtain ⟨q, hqq⟩ : ∃ q, Zi r v0 = q := ⟨_, rfl⟩;have HQ0 := zh hqq;clear hqq;go_wp2_with fail;refine (Zag r B cs F _ v0 _ (HS.o.later HLX.o) hel0).mono ?_;rw [HQ0.o];rintro e y ⟨rfl, hy⟩;replace HLX := zh (HLX.o.trans hy);clear hy hel0 c0 c1 c2 c3 c4 c5 hb hq k0;clear HKX
   cases q with
   | false =>
    have hR0 : R = false := by rw [← HR2.o]; simp [Zh, Zw, HP0.o, HQ0.o]
    subst hR0;go_wp2_with fail;go_ret;exact ⟨rfl, HB.o.trans HLX.o⟩
   | true =>
    go_wp2_with fail;rw [rounds_succ];have HKX := zB HLX HKA;have hR0 : R = true := by rw [← HR2.o]; simp [Zh, Zw, HP0.o, HQ0.o]
    subst hR0;go_wp2_with fail;go_ret;exact ⟨rfl, HB.o.trans HLX.o⟩
 ·have t1 : ((l.length : Int) != 1) = true := bne_iff_ne.2 (by omega);have hR0 : R = false := by
   rw [← hR2]
   match l, hN with
   | [], _ => simp [Zh]
   | _ :: _ :: _, _ => simp [Zh]
   | [_], h => exact absurd rfl h
  subst hR0;go_enter Tryz.func107, Tryz.ntmps107;go_wp2_with fail;go_ret;exact ⟨rfl, HB.o⟩
theorem Zle (r : Zf) (B : Nat) (cs : List Value) (F : Nat → Prop) (w : World) (l : List Ze) (v : Value) (h : Z1 F w B r cs) (hr : Zp Zd 6 F w l v) :
  Calls Tryz.prog 107 #[.pointer (some ⟨B, 0, none⟩), .int .i64 14, v] w fun e w' => e = .returned (.bool (Z6 r 14 l)) ∧ Below w.heap.size w w' := by
 obtain ⟨R, hR⟩ : ∃ R, Z6 r 14 l = R := ⟨_, rfl⟩;rw [hR];have hR2 : Zh r [12, 12] l = R := by rw [← hR]; simp [Z6, Zam]
 clear hR;obtain ⟨A, c, rfl, hc, hcm, _⟩ := id hr;unfold maxLen at hcm;have hl1 : Za w ((w.alloc (.cells #[] 3)).alloc (.cells #[.int .i64 12, .int .i64 12] 3)) := ((Za.refl w).alloc _).alloc _;have HS := zh (h.later hl1);have HRW := zh (hr.later Zc hl1);have HB := zh hl1;clear h hr hl1;have HKA := zh (show ((w.alloc (.cells #[] 3)).alloc (.cells #[.int .i64 12, .int .i64 12] 3)).heap[w.heap.size + 1]? = some (.cells #[.int .i64 12, .int .i64 12] 3 (0, 0)) by have := heap_alloc_new (w.alloc (.cells #[] 3)) (.cells #[.int .i64 12, .int .i64 12] 3); simpa using this)
 by_cases hN : l.length = 2
 ·obtain ⟨v0, v1, rfl⟩ : ∃ v0 v1, l = [v0, v1] := by
   match l, hN with
   | [a0, a1], _ => exact ⟨a0, a1, rfl⟩
  clear hN;have HR2 := zh hR2;clear hR2;simp only [List.length_cons, List.length_nil, Nat.zero_add, Nat.reduceAdd] at hc HRW ⊢;go_enter Tryz.func107, Tryz.ntmps107;go_wp2_with fail;refine wp_loop_rounds 3 ?_;rw [rounds_succ];obtain ⟨x, hx⟩ : ∃ x, x = ((w.alloc (.cells #[] 3)).alloc (.cells #[.int .i64 12, .int .i64 12] 3)) := ⟨_, rfl⟩;rw [← hx] at HS HRW HB HKA ⊢;clear hx;have HLX := zh (Za.refl x);have HKX := zB HLX HKA;have k0 := cz2 HKX.o;obtain ⟨b, o, e, hb, hat, hel0⟩ := (HRW.o.later Zc HLX.o).vat (j := 0) (by simp);cases e;simp only [List.getElem_cons_succ, List.getElem_cons_zero, Nat.reduceMul, Nat.add_zero] at hat hel0;obtain ⟨p, hp⟩ : ∃ p, (v0.kind == 12) = p := ⟨_, rfl⟩;have hq : (v0.kind != 12) = !p := by rw [← hp]; rfl
  have HP0 := zh hp;clear hp;obtain ⟨c0, c1, c2, c3, c4, c5⟩ := hat
  cases p with
  | false =>
   simp only [Bool.not_false] at hq;have hR0 : R = false := by rw [← HR2.o]; simp [Zh, Zw, HP0.o]
   subst hR0;go_wp2_with fail;go_ret;exact ⟨rfl, HB.o.trans HLX.o⟩
  | true =>
   simp only [Bool.not_true] at hq;obtain ⟨q, hqq⟩ : ∃ q, Zi r v0 = q := ⟨_, rfl⟩;have HQ0 := zh hqq;clear hqq;go_wp2_with fail;refine (Zag r B cs F _ v0 _ (HS.o.later HLX.o) hel0).mono ?_;rw [HQ0.o];rintro e y ⟨rfl, hy⟩;replace HLX := zh (HLX.o.trans hy);clear hy hel0 c0 c1 c2 c3 c4 c5 hb hq k0;clear HKX
   cases q with
   | false =>
    have hR0 : R = false := by rw [← HR2.o]; simp [Zh, Zw, HP0.o, HQ0.o]
    subst hR0;go_wp2_with fail;go_ret;exact ⟨rfl, HB.o.trans HLX.o⟩
   | true =>
    go_wp2_with fail;rw [rounds_succ];have HKX := zB HLX HKA;have k0 := cz2 HKX.o;obtain ⟨b, o, e, hb, hat, hel1⟩ := (HRW.o.later Zc HLX.o).vat (j := 1) (by simp);cases e;simp only [List.getElem_cons_succ, List.getElem_cons_zero, Nat.reduceMul, Nat.add_zero] at hat hel1;obtain ⟨p, hp⟩ : ∃ p, (v1.kind == 12) = p := ⟨_, rfl⟩;have hq : (v1.kind != 12) = !p := by rw [← hp]; rfl
    have HP1 := zh hp;clear hp;obtain ⟨c0, c1, c2, c3, c4, c5⟩ := hat
    cases p with
    | false =>
     simp only [Bool.not_false] at hq;have hR0 : R = false := by rw [← HR2.o]; simp [Zh, Zw, HP0.o, HP1.o]
     subst hR0;go_wp2_with fail;go_ret;exact ⟨rfl, HB.o.trans HLX.o⟩
    | true =>
     simp only [Bool.not_true] at hq;obtain ⟨q, hqq⟩ : ∃ q, Zi r v1 = q := ⟨_, rfl⟩;have HQ1 := zh hqq;clear hqq;go_wp2_with fail;refine (Zag r B cs F _ v1 _ (HS.o.later HLX.o) hel1).mono ?_;rw [HQ1.o];rintro e y ⟨rfl, hy⟩;replace HLX := zh (HLX.o.trans hy);clear hy hel1 c0 c1 c2 c3 c4 c5 hb hq k0;clear HKX
     cases q with
     | false =>
      have hR0 : R = false := by rw [← HR2.o]; simp [Zh, Zw, HP0.o, HQ0.o, HP1.o, HQ1.o]
      subst hR0;go_wp2_with fail;go_ret;exact ⟨rfl, HB.o.trans HLX.o⟩
     | true =>
      go_wp2_with fail;rw [rounds_succ];have HKX := zB HLX HKA;have hR0 : R = true := by rw [← HR2.o]; simp [Zh, Zw, HP0.o, HQ0.o, HP1.o, HQ1.o]
      subst hR0;go_wp2_with fail;go_ret;exact ⟨rfl, HB.o.trans HLX.o⟩
 ·have t1 : ((l.length : Int) != 2) = true := bne_iff_ne.2 (by omega);have hR0 : R = false := by
   rw [← hR2]
   match l, hN with
   | [], _ => simp [Zh]
   | [_], _ => simp [Zh]
   | _ :: _ :: _ :: _, _ => simp [Zh]
   | [_, _], h => exact absurd rfl h
  subst hR0;go_enter Tryz.func107, Tryz.ntmps107;go_wp2_with fail;go_ret;exact ⟨rfl, HB.o⟩
theorem Zlf (r : Zf) (B : Nat) (cs : List Value) (F : Nat → Prop) (w : World) (l : List Ze) (v : Value) (h : Z1 F w B r cs) (hr : Zp Zd 6 F w l v) :
  Calls Tryz.prog 107 #[.pointer (some ⟨B, 0, none⟩), .int .i64 15, v] w fun e w' => e = .returned (.bool (Z6 r 15 l)) ∧ Below w.heap.size w w' := by
 obtain ⟨R, hR⟩ : ∃ R, Z6 r 15 l = R := ⟨_, rfl⟩;rw [hR];have hR2 : Zh r [12, 12] l = R := by rw [← hR]; simp [Z6, Zam]
 clear hR;obtain ⟨A, c, rfl, hc, hcm, _⟩ := id hr;unfold maxLen at hcm;have hl1 : Za w ((w.alloc (.cells #[] 3)).alloc (.cells #[.int .i64 12, .int .i64 12] 3)) := ((Za.refl w).alloc _).alloc _;have HS := zh (h.later hl1);have HRW := zh (hr.later Zc hl1);have HB := zh hl1;clear h hr hl1;have HKA := zh (show ((w.alloc (.cells #[] 3)).alloc (.cells #[.int .i64 12, .int .i64 12] 3)).heap[w.heap.size + 1]? = some (.cells #[.int .i64 12, .int .i64 12] 3 (0, 0)) by have := heap_alloc_new (w.alloc (.cells #[] 3)) (.cells #[.int .i64 12, .int .i64 12] 3); simpa using this)
 by_cases hN : l.length = 2
 ·obtain ⟨v0, v1, rfl⟩ : ∃ v0 v1, l = [v0, v1] := by
   match l, hN with
   | [a0, a1], _ => exact ⟨a0, a1, rfl⟩
  clear hN;have HR2 := zh hR2;clear hR2;simp only [List.length_cons, List.length_nil, Nat.zero_add, Nat.reduceAdd] at hc HRW ⊢;go_enter Tryz.func107, Tryz.ntmps107;go_wp2_with fail;refine wp_loop_rounds 3 ?_;rw [rounds_succ];obtain ⟨x, hx⟩ : ∃ x, x = ((w.alloc (.cells #[] 3)).alloc (.cells #[.int .i64 12, .int .i64 12] 3)) := ⟨_, rfl⟩;rw [← hx] at HS HRW HB HKA ⊢;clear hx;have HLX := zh (Za.refl x);have HKX := zB HLX HKA;have k0 := cz2 HKX.o;obtain ⟨b, o, e, hb, hat, hel0⟩ := (HRW.o.later Zc HLX.o).vat (j := 0) (by simp);cases e;simp only [List.getElem_cons_succ, List.getElem_cons_zero, Nat.reduceMul, Nat.add_zero] at hat hel0;obtain ⟨p, hp⟩ : ∃ p, (v0.kind == 12) = p := ⟨_, rfl⟩;have hq : (v0.kind != 12) = !p := by rw [← hp]; rfl
  have HP0 := zh hp;clear hp;obtain ⟨c0, c1, c2, c3, c4, c5⟩ := hat
  cases p with
  | false =>
   simp only [Bool.not_false] at hq;have hR0 : R = false := by rw [← HR2.o]; simp [Zh, Zw, HP0.o]
   subst hR0;go_wp2_with fail;go_ret;exact ⟨rfl, HB.o.trans HLX.o⟩
  | true =>
   simp only [Bool.not_true] at hq;obtain ⟨q, hqq⟩ : ∃ q, Zi r v0 = q := ⟨_, rfl⟩;have HQ0 := zh hqq;clear hqq;go_wp2_with fail;refine (Zag r B cs F _ v0 _ (HS.o.later HLX.o) hel0).mono ?_;rw [HQ0.o];rintro e y ⟨rfl, hy⟩;replace HLX := zh (HLX.o.trans hy);clear hy hel0 c0 c1 c2 c3 c4 c5 hb hq k0;clear HKX
   cases q with
   | false =>
    have hR0 : R = false := by rw [← HR2.o]; simp [Zh, Zw, HP0.o, HQ0.o]
    subst hR0;go_wp2_with fail;go_ret;exact ⟨rfl, HB.o.trans HLX.o⟩
   | true =>
    go_wp2_with fail;rw [rounds_succ];have HKX := zB HLX HKA;have k0 := cz2 HKX.o;obtain ⟨b, o, e, hb, hat, hel1⟩ := (HRW.o.later Zc HLX.o).vat (j := 1) (by simp);cases e;simp only [List.getElem_cons_succ, List.getElem_cons_zero, Nat.reduceMul, Nat.add_zero] at hat hel1;obtain ⟨p, hp⟩ : ∃ p, (v1.kind == 12) = p := ⟨_, rfl⟩;have hq : (v1.kind != 12) = !p := by rw [← hp]; rfl
    have HP1 := zh hp;clear hp;obtain ⟨c0, c1, c2, c3, c4, c5⟩ := hat
    cases p with
    | false =>
     simp only [Bool.not_false] at hq;have hR0 : R = false := by rw [← HR2.o]; simp [Zh, Zw, HP0.o, HP1.o]
     subst hR0;go_wp2_with fail;go_ret;exact ⟨rfl, HB.o.trans HLX.o⟩
    | true =>
     simp only [Bool.not_true] at hq;obtain ⟨q, hqq⟩ : ∃ q, Zi r v1 = q := ⟨_, rfl⟩;have HQ1 := zh hqq;clear hqq;go_wp2_with fail;refine (Zag r B cs F _ v1 _ (HS.o.later HLX.o) hel1).mono ?_;rw [HQ1.o];rintro e y ⟨rfl, hy⟩;replace HLX := zh (HLX.o.trans hy);clear hy hel1 c0 c1 c2 c3 c4 c5 hb hq k0;clear HKX
     cases q with
     | false =>
      have hR0 : R = false := by rw [← HR2.o]; simp [Zh, Zw, HP0.o, HQ0.o, HP1.o, HQ1.o]
      subst hR0;go_wp2_with fail;go_ret;exact ⟨rfl, HB.o.trans HLX.o⟩
     | true =>
      go_wp2_with fail;rw [rounds_succ];have HKX := zB HLX HKA;have hR0 : R = true := by rw [← HR2.o]; simp [Zh, Zw, HP0.o, HQ0.o, HP1.o, HQ1.o]
      subst hR0;go_wp2_with fail;go_ret;exact ⟨rfl, HB.o.trans HLX.o⟩
 ·have t1 : ((l.length : Int) != 2) = true := bne_iff_ne.2 (by omega);have hR0 : R = false := by
   rw [← hR2]
   match l, hN with
   | [], _ => simp [Zh]
   | [_], _ => simp [Zh]
   | _ :: _ :: _ :: _, _ => simp [Zh]
   | [_, _], h => exact absurd rfl h
  subst hR0;go_enter Tryz.func107, Tryz.ntmps107;go_wp2_with fail;go_ret;exact ⟨rfl, HB.o⟩
theorem Zlg (r : Zf) (B : Nat) (cs : List Value) (F : Nat → Prop) (w : World) (l : List Ze) (v : Value) (h : Z1 F w B r cs) (hr : Zp Zd 6 F w l v) :
  Calls Tryz.prog 107 #[.pointer (some ⟨B, 0, none⟩), .int .i64 16, v] w fun e w' => e = .returned (.bool (Z6 r 16 l)) ∧ Below w.heap.size w w' := by
 obtain ⟨R, hR⟩ : ∃ R, Z6 r 16 l = R := ⟨_, rfl⟩;rw [hR];have hR2 : Zh r [12, 13] l = R := by rw [← hR]; simp [Z6, Zam]
 clear hR;obtain ⟨A, c, rfl, hc, hcm, _⟩ := id hr;unfold maxLen at hcm;have hl1 : Za w ((w.alloc (.cells #[] 3)).alloc (.cells #[.int .i64 12] 3)) := ((Za.refl w).alloc _).alloc _;have HS := zh (h.later hl1);have HRW := zh (hr.later Zc hl1);have HB := zh hl1;clear h hr hl1;have HKA := zh (show ((w.alloc (.cells #[] 3)).alloc (.cells #[.int .i64 12] 3)).heap[w.heap.size + 1]? = some (.cells #[.int .i64 12] 3 (0, 0)) by have := heap_alloc_new (w.alloc (.cells #[] 3)) (.cells #[.int .i64 12] 3); simpa using this)
 by_cases hN : l.length = 2
 ·obtain ⟨v0, v1, rfl⟩ : ∃ v0 v1, l = [v0, v1] := by
   match l, hN with
   | [a0, a1], _ => exact ⟨a0, a1, rfl⟩
  clear hN;have HR2 := zh hR2;clear hR2;simp only [List.length_cons, List.length_nil, Nat.zero_add, Nat.reduceAdd] at hc HRW ⊢;go_enter Tryz.func107, Tryz.ntmps107;go_wp2_with fail;refine wp_loop_rounds 2 ?_;rw [rounds_succ];obtain ⟨x, hx⟩ : ∃ x, x = ((w.alloc (.cells #[] 3)).alloc (.cells #[.int .i64 12] 3)) := ⟨_, rfl⟩;rw [← hx] at HS HRW HB HKA ⊢;clear hx;have HLX := zh (Za.refl x);have HKX := zB HLX HKA;have k0 := cq HKX.o 0;simp only [nD, nE, nF] at k0;obtain ⟨b, o, e, hb, hat, hel0⟩ := (HRW.o.later Zc HLX.o).vat (j := 0) (by simp);cases e;simp only [List.getElem_cons_succ, List.getElem_cons_zero, Nat.reduceMul, Nat.add_zero] at hat hel0;obtain ⟨p, hp⟩ : ∃ p, (v0.kind == 12) = p := ⟨_, rfl⟩;have hq : (v0.kind != 12) = !p := by rw [← hp]; rfl
  have HP0 := zh hp;clear hp;obtain ⟨c0, c1, c2, c3, c4, c5⟩ := hat
  cases p with
  | false =>
   simp only [Bool.not_false] at hq;have hR0 : R = false := by rw [← HR2.o]; simp [Zh, Zw, HP0.o]
   subst hR0;go_wp2_with fail;go_ret;exact ⟨rfl, HB.o.trans HLX.o⟩
  | true =>
   simp only [Bool.not_true] at hq;obtain ⟨q, hqq⟩ : ∃ q, Zi r v0 = q := ⟨_, rfl⟩;have HQ0 := zh hqq;clear hqq;go_wp2_with fail;refine (Zag r B cs F _ v0 _ (HS.o.later HLX.o) hel0).mono ?_;rw [HQ0.o];rintro e y ⟨rfl, hy⟩;replace HLX := zh (HLX.o.trans hy);clear hy hel0 c0 c1 c2 c3 c4 c5 hb hq k0;clear HKX
   cases q with
   | false =>
    have hR0 : R = false := by rw [← HR2.o]; simp [Zh, Zw, HP0.o, HQ0.o]
    subst hR0;go_wp2_with fail;go_ret;exact ⟨rfl, HB.o.trans HLX.o⟩
   | true =>
    go_wp2_with fail;rw [rounds_succ];have HKX := zB HLX HKA;obtain ⟨b, o, e, hb, hat, hel1⟩ := (HRW.o.later Zc HLX.o).vat (j := 1) (by simp);cases e;simp only [List.getElem_cons_succ, List.getElem_cons_zero, Nat.reduceMul, Nat.add_zero] at hat hel1;obtain ⟨p, hp⟩ : ∃ p, (v1.kind == 13) = p := ⟨_, rfl⟩;obtain ⟨p2, hp2⟩ : ∃ p, (v1.kind == 14) = p := ⟨_, rfl⟩;obtain ⟨q, hqq⟩ : ∃ q, Zi r v1 = q := ⟨_, rfl⟩;have HQ1 := zh hqq;have HR3 := zh (show R = ((p || p2) && q) by rw [← HR2.o]; simp [Zh, Zw, hp, hp2, hqq, HP0.o, HQ0.o]);clear hqq;obtain ⟨c0, c1, c2, c3, c4, c5⟩ := hat;obtain ⟨z, hz⟩ : ∃ z, v1 = z := ⟨_, rfl⟩;rw [hz] at c0 c1 c2 c3 c4 c5 hp hp2 hel1 HQ1;have hl2 := (Za.refl y).alloc (.cells #[.int .i64 z.kind, .int .i64 z.aH, .int .i64 z.index, .string z.text, .int .i64 z.set_.low, .int .i64 z.set_.high] 34);have HH := zh (Zag r B cs F _ z _ (HS.o.later (HLX.o.trans hl2)) (Zc.keep hel1 (fun _ h => h) (Zg.later hl2)));rw [HQ1.o] at HH;have HLY := zh (HLX.o.trans hl2);clear hl2 hz hel1
    cases p with
    | false =>
     cases p2 with
     | false =>
      have hR0 : R = false := by rw [HR3.o]; rfl
      subst hR0;go_wp2_with fail;go_ret;exact ⟨rfl, HB.o.trans HLY.o⟩
     | true =>
      have hR0 : R = q := by rw [HR3.o]; simp
      subst hR0;go_wp2_with fail;refine HH.o.mono ?_;rintro e y ⟨rfl, hy⟩;have HLZ := zh (HLY.o.trans hy);clear hy;go_wp2_with fail;go_ret;exact ⟨rfl, HB.o.trans HLZ.o⟩
    | true =>
     have hR0 : R = q := by rw [HR3.o]; simp
     subst hR0;go_wp2_with fail;refine HH.o.mono ?_;rintro e y ⟨rfl, hy⟩;have HLZ := zh (HLY.o.trans hy);clear hy;go_wp2_with fail;go_ret;exact ⟨rfl, HB.o.trans HLZ.o⟩
 ·have t1 : ((l.length : Int) != 2) = true := bne_iff_ne.2 (by omega);have hR0 : R = false := by
   rw [← hR2]
   match l, hN with
   | [], _ => simp [Zh]
   | [_], _ => simp [Zh]
   | _ :: _ :: _ :: _, _ => simp [Zh]
   | [_, _], h => exact absurd rfl h
  subst hR0;go_enter Tryz.func107, Tryz.ntmps107;go_wp2_with fail;go_ret;exact ⟨rfl, HB.o⟩
theorem Zlh (r : Zf) (B : Nat) (cs : List Value) (F : Nat → Prop) (w : World) (l : List Ze) (v : Value) (h : Z1 F w B r cs) (hr : Zp Zd 6 F w l v) :
  Calls Tryz.prog 107 #[.pointer (some ⟨B, 0, none⟩), .int .i64 17, v] w fun e w' => e = .returned (.bool (Z6 r 17 l)) ∧ Below w.heap.size w w' := by
 obtain ⟨R, hR⟩ : ∃ R, Z6 r 17 l = R := ⟨_, rfl⟩;rw [hR];have hR2 : Zh r [12, 13] l = R := by rw [← hR]; simp [Z6, Zam]
 clear hR;obtain ⟨A, c, rfl, hc, hcm, _⟩ := id hr;unfold maxLen at hcm;have hl1 : Za w ((w.alloc (.cells #[] 3)).alloc (.cells #[.int .i64 12] 3)) := ((Za.refl w).alloc _).alloc _;have HS := zh (h.later hl1);have HRW := zh (hr.later Zc hl1);have HB := zh hl1;clear h hr hl1;have HKA := zh (show ((w.alloc (.cells #[] 3)).alloc (.cells #[.int .i64 12] 3)).heap[w.heap.size + 1]? = some (.cells #[.int .i64 12] 3 (0, 0)) by have := heap_alloc_new (w.alloc (.cells #[] 3)) (.cells #[.int .i64 12] 3); simpa using this)
 by_cases hN : l.length = 2
 ·obtain ⟨v0, v1, rfl⟩ : ∃ v0 v1, l = [v0, v1] := by
   match l, hN with
   | [a0, a1], _ => exact ⟨a0, a1, rfl⟩
  clear hN;have HR2 := zh hR2;clear hR2;simp only [List.length_cons, List.length_nil, Nat.zero_add, Nat.reduceAdd] at hc HRW ⊢;go_enter Tryz.func107, Tryz.ntmps107;go_wp2_with fail;refine wp_loop_rounds 2 ?_;rw [rounds_succ];obtain ⟨x, hx⟩ : ∃ x, x = ((w.alloc (.cells #[] 3)).alloc (.cells #[.int .i64 12] 3)) := ⟨_, rfl⟩;rw [← hx] at HS HRW HB HKA ⊢;clear hx;have HLX := zh (Za.refl x);have HKX := zB HLX HKA;have k0 := cq HKX.o 0;simp only [nD, nE, nF] at k0;obtain ⟨b, o, e, hb, hat, hel0⟩ := (HRW.o.later Zc HLX.o).vat (j := 0) (by simp);cases e;simp only [List.getElem_cons_succ, List.getElem_cons_zero, Nat.reduceMul, Nat.add_zero] at hat hel0;obtain ⟨p, hp⟩ : ∃ p, (v0.kind == 12) = p := ⟨_, rfl⟩;have hq : (v0.kind != 12) = !p := by rw [← hp]; rfl
  have HP0 := zh hp;clear hp;obtain ⟨c0, c1, c2, c3, c4, c5⟩ := hat
  cases p with
  | false =>
   simp only [Bool.not_false] at hq;have hR0 : R = false := by rw [← HR2.o]; simp [Zh, Zw, HP0.o]
   subst hR0;go_wp2_with fail;go_ret;exact ⟨rfl, HB.o.trans HLX.o⟩
  | true =>
   simp only [Bool.not_true] at hq;obtain ⟨q, hqq⟩ : ∃ q, Zi r v0 = q := ⟨_, rfl⟩;have HQ0 := zh hqq;clear hqq;go_wp2_with fail;refine (Zag r B cs F _ v0 _ (HS.o.later HLX.o) hel0).mono ?_;rw [HQ0.o];rintro e y ⟨rfl, hy⟩;replace HLX := zh (HLX.o.trans hy);clear hy hel0 c0 c1 c2 c3 c4 c5 hb hq k0;clear HKX
   cases q with
   | false =>
    have hR0 : R = false := by rw [← HR2.o]; simp [Zh, Zw, HP0.o, HQ0.o]
    subst hR0;go_wp2_with fail;go_ret;exact ⟨rfl, HB.o.trans HLX.o⟩
   | true =>
    go_wp2_with fail;rw [rounds_succ];have HKX := zB HLX HKA;obtain ⟨b, o, e, hb, hat, hel1⟩ := (HRW.o.later Zc HLX.o).vat (j := 1) (by simp);cases e;simp only [List.getElem_cons_succ, List.getElem_cons_zero, Nat.reduceMul, Nat.add_zero] at hat hel1;obtain ⟨p, hp⟩ : ∃ p, (v1.kind == 13) = p := ⟨_, rfl⟩;obtain ⟨p2, hp2⟩ : ∃ p, (v1.kind == 14) = p := ⟨_, rfl⟩;obtain ⟨q, hqq⟩ : ∃ q, Zi r v1 = q := ⟨_, rfl⟩;have HQ1 := zh hqq;have HR3 := zh (show R = ((p || p2) && q) by rw [← HR2.o]; simp [Zh, Zw, hp, hp2, hqq, HP0.o, HQ0.o]);clear hqq;obtain ⟨c0, c1, c2, c3, c4, c5⟩ := hat;obtain ⟨z, hz⟩ : ∃ z, v1 = z := ⟨_, rfl⟩;rw [hz] at c0 c1 c2 c3 c4 c5 hp hp2 hel1 HQ1;have hl2 := (Za.refl y).alloc (.cells #[.int .i64 z.kind, .int .i64 z.aH, .int .i64 z.index, .string z.text, .int .i64 z.set_.low, .int .i64 z.set_.high] 34);have HH := zh (Zag r B cs F _ z _ (HS.o.later (HLX.o.trans hl2)) (Zc.keep hel1 (fun _ h => h) (Zg.later hl2)));rw [HQ1.o] at HH;have HLY := zh (HLX.o.trans hl2);clear hl2 hz hel1
    cases p with
    | false =>
     cases p2 with
     | false =>
      have hR0 : R = false := by rw [HR3.o]; rfl
      subst hR0;go_wp2_with fail;go_ret;exact ⟨rfl, HB.o.trans HLY.o⟩
     | true =>
      have hR0 : R = q := by rw [HR3.o]; simp
      subst hR0;go_wp2_with fail;refine HH.o.mono ?_;rintro e y ⟨rfl, hy⟩;have HLZ := zh (HLY.o.trans hy);clear hy;go_wp2_with fail;go_ret;exact ⟨rfl, HB.o.trans HLZ.o⟩
    | true =>
     have hR0 : R = q := by rw [HR3.o]; simp
     subst hR0;go_wp2_with fail;refine HH.o.mono ?_;rintro e y ⟨rfl, hy⟩;have HLZ := zh (HLY.o.trans hy);clear hy;go_wp2_with fail;go_ret;exact ⟨rfl, HB.o.trans HLZ.o⟩
 ·have t1 : ((l.length : Int) != 2) = true := bne_iff_ne.2 (by omega);have hR0 : R = false := by
   rw [← hR2]
   match l, hN with
   | [], _ => simp [Zh]
   | [_], _ => simp [Zh]
   | _ :: _ :: _ :: _, _ => simp [Zh]
   | [_, _], h => exact absurd rfl h
  subst hR0;go_enter Tryz.func107, Tryz.ntmps107;go_wp2_with fail;go_ret;exact ⟨rfl, HB.o⟩
theorem Zli (r : Zf) (B : Nat) (cs : List Value) (F : Nat → Prop) (w : World) (l : List Ze) (v : Value) (h : Z1 F w B r cs) (hr : Zp Zd 6 F w l v) :
  Calls Tryz.prog 107 #[.pointer (some ⟨B, 0, none⟩), .int .i64 18, v] w fun e w' => e = .returned (.bool (Z6 r 18 l)) ∧ Below w.heap.size w w' := by
 obtain ⟨R, hR⟩ : ∃ R, Z6 r 18 l = R := ⟨_, rfl⟩;rw [hR];have hR2 : Zh r [13] l = R := by rw [← hR]; simp [Z6, Zam]
 clear hR;obtain ⟨A, c, rfl, hc, hcm, _⟩ := id hr;unfold maxLen at hcm;have hl1 : Za w (w.alloc (.cells #[] 3)) := (Za.refl w).alloc _;have HS := zh (h.later hl1);have HRW := zh (hr.later Zc hl1);have HB := zh hl1;clear h hr hl1
 by_cases hN : l.length = 1
 ·obtain ⟨v0, rfl⟩ : ∃ v0, l = [v0] := by
   match l, hN with
   | [a0], _ => exact ⟨a0, rfl⟩
  clear hN;have HR2 := zh hR2;clear hR2;simp only [List.length_cons, List.length_nil, Nat.zero_add, Nat.reduceAdd] at hc HRW ⊢;go_enter Tryz.func107, Tryz.ntmps107;go_wp2_with fail;refine wp_loop_rounds 1 ?_;rw [rounds_succ];obtain ⟨x, hx⟩ : ∃ x, x = (w.alloc (.cells #[] 3)) := ⟨_, rfl⟩;rw [← hx] at HS HRW HB ⊢;clear hx;have HLX := zh (Za.refl x);obtain ⟨b, o, e, hb, hat, hel0⟩ := (HRW.o.later Zc HLX.o).vat (j := 0) (by simp);cases e;simp only [List.getElem_cons_succ, List.getElem_cons_zero, Nat.reduceMul, Nat.add_zero] at hat hel0;obtain ⟨p, hp⟩ : ∃ p, (v0.kind == 13) = p := ⟨_, rfl⟩;obtain ⟨p2, hp2⟩ : ∃ p, (v0.kind == 14) = p := ⟨_, rfl⟩;obtain ⟨q, hqq⟩ : ∃ q, Zi r v0 = q := ⟨_, rfl⟩;have HQ0 := zh hqq;have HR3 := zh (show R = ((p || p2) && q) by rw [← HR2.o]; simp [Zh, Zw, hp, hp2, hqq]);clear hqq;obtain ⟨c0, c1, c2, c3, c4, c5⟩ := hat;obtain ⟨z, hz⟩ : ∃ z, v0 = z := ⟨_, rfl⟩;rw [hz] at c0 c1 c2 c3 c4 c5 hp hp2 hel0 HQ0;have hl2 := (Za.refl x).alloc (.cells #[.int .i64 z.kind, .int .i64 z.aH, .int .i64 z.index, .string z.text, .int .i64 z.set_.low, .int .i64 z.set_.high] 34);have HH := zh (Zag r B cs F _ z _ (HS.o.later (HLX.o.trans hl2)) (Zc.keep hel0 (fun _ h => h) (Zg.later hl2)));rw [HQ0.o] at HH;have HLY := zh (HLX.o.trans hl2);clear hl2 hz hel0
  cases p with
  | false =>
   cases p2 with
   | false =>
    have hR0 : R = false := by rw [HR3.o]; rfl
    subst hR0;go_wp2_with fail;go_ret;exact ⟨rfl, HB.o.trans HLY.o⟩
   | true =>
    have hR0 : R = q := by rw [HR3.o]; simp
    subst hR0;go_wp2_with fail;refine HH.o.mono ?_;rintro e y ⟨rfl, hy⟩;have HLZ := zh (HLY.o.trans hy);clear hy;go_wp2_with fail;go_ret;exact ⟨rfl, HB.o.trans HLZ.o⟩
  | true =>
   have hR0 : R = q := by rw [HR3.o]; simp
   subst hR0;go_wp2_with fail;refine HH.o.mono ?_;rintro e y ⟨rfl, hy⟩;have HLZ := zh (HLY.o.trans hy);clear hy;go_wp2_with fail;go_ret;exact ⟨rfl, HB.o.trans HLZ.o⟩
 ·have t1 : ((l.length : Int) != 1) = true := bne_iff_ne.2 (by omega);have hR0 : R = false := by
   rw [← hR2]
   match l, hN with
   | [], _ => simp [Zh]
   | _ :: _ :: _, _ => simp [Zh]
   | [_], h => exact absurd rfl h
  subst hR0;go_enter Tryz.func107, Tryz.ntmps107;go_wp2_with fail;go_ret;exact ⟨rfl, HB.o⟩
theorem Zlj (r : Zf) (B : Nat) (cs : List Value) (F : Nat → Prop) (w : World) (l : List Ze) (v : Value) (h : Z1 F w B r cs) (hr : Zp Zd 6 F w l v) :
  Calls Tryz.prog 107 #[.pointer (some ⟨B, 0, none⟩), .int .i64 19, v] w fun e w' => e = .returned (.bool (Z6 r 19 l)) ∧ Below w.heap.size w w' := by
 obtain ⟨R, hR⟩ : ∃ R, Z6 r 19 l = R := ⟨_, rfl⟩;rw [hR];have hR2 : Zh r [] l = R := by rw [← hR]; simp [Z6, Zam]
 clear hR;obtain ⟨A, c, rfl, hc, hcm, _⟩ := id hr;unfold maxLen at hcm;have hl1 : Za w (w.alloc (.cells #[] 3)) := (Za.refl w).alloc _;have HS := zh (h.later hl1);have HRW := zh (hr.later Zc hl1);have HB := zh hl1;clear h hr hl1
 by_cases hN : l.length = 0
 ·obtain rfl : l = [] := List.eq_nil_of_length_eq_zero hN;clear hN;have HR2 := zh hR2;clear hR2;simp only [List.length_cons, List.length_nil, Nat.zero_add, Nat.reduceAdd] at hc HRW ⊢;go_enter Tryz.func107, Tryz.ntmps107;go_wp2_with fail;refine wp_loop_rounds 1 ?_;rw [rounds_succ];obtain ⟨x, hx⟩ : ∃ x, x = (w.alloc (.cells #[] 3)) := ⟨_, rfl⟩;rw [← hx] at HS HRW HB ⊢;clear hx;have HLX := zh (Za.refl x);have hR0 : R = true := by rw [← HR2.o]; simp [Zh, Zw]
  subst hR0;go_wp2_with fail;go_ret;exact ⟨rfl, HB.o.trans HLX.o⟩
 ·have t1 : ((l.length : Int) != 0) = true := bne_iff_ne.2 (by omega);have hR0 : R = false := by
   rw [← hR2]
   match l, hN with
   | _ :: _, _ => simp [Zh]
   | [], h => exact absurd rfl h
  subst hR0;go_enter Tryz.func107, Tryz.ntmps107;go_wp2_with fail;go_ret;exact ⟨rfl, HB.o⟩
theorem Zlk (r : Zf) (B : Nat) (cs : List Value) (F : Nat → Prop) (w : World) (l : List Ze) (v : Value) (h : Z1 F w B r cs) (hr : Zp Zd 6 F w l v) :
  Calls Tryz.prog 107 #[.pointer (some ⟨B, 0, none⟩), .int .i64 20, v] w fun e w' => e = .returned (.bool (Z6 r 20 l)) ∧ Below w.heap.size w w' := by
 obtain ⟨R, hR⟩ : ∃ R, Z6 r 20 l = R := ⟨_, rfl⟩;rw [hR];have hR2 : Zh r [13] l = R := by rw [← hR]; simp [Z6, Zam]
 clear hR;obtain ⟨A, c, rfl, hc, hcm, _⟩ := id hr;unfold maxLen at hcm;have hl1 : Za w (w.alloc (.cells #[] 3)) := (Za.refl w).alloc _;have HS := zh (h.later hl1);have HRW := zh (hr.later Zc hl1);have HB := zh hl1;clear h hr hl1
 by_cases hN : l.length = 1
 ·obtain ⟨v0, rfl⟩ : ∃ v0, l = [v0] := by
   match l, hN with
   | [a0], _ => exact ⟨a0, rfl⟩
  clear hN;have HR2 := zh hR2;clear hR2;simp only [List.length_cons, List.length_nil, Nat.zero_add, Nat.reduceAdd] at hc HRW ⊢;go_enter Tryz.func107, Tryz.ntmps107;go_wp2_with fail;refine wp_loop_rounds 1 ?_;rw [rounds_succ];obtain ⟨x, hx⟩ : ∃ x, x = (w.alloc (.cells #[] 3)) := ⟨_, rfl⟩;rw [← hx] at HS HRW HB ⊢;clear hx;have HLX := zh (Za.refl x);obtain ⟨b, o, e, hb, hat, hel0⟩ := (HRW.o.later Zc HLX.o).vat (j := 0) (by simp);cases e;simp only [List.getElem_cons_succ, List.getElem_cons_zero, Nat.reduceMul, Nat.add_zero] at hat hel0;obtain ⟨p, hp⟩ : ∃ p, (v0.kind == 13) = p := ⟨_, rfl⟩;obtain ⟨p2, hp2⟩ : ∃ p, (v0.kind == 14) = p := ⟨_, rfl⟩;obtain ⟨q, hqq⟩ : ∃ q, Zi r v0 = q := ⟨_, rfl⟩;have HQ0 := zh hqq;have HR3 := zh (show R = ((p || p2) && q) by rw [← HR2.o]; simp [Zh, Zw, hp, hp2, hqq]);clear hqq;obtain ⟨c0, c1, c2, c3, c4, c5⟩ := hat;obtain ⟨z, hz⟩ : ∃ z, v0 = z := ⟨_, rfl⟩;rw [hz] at c0 c1 c2 c3 c4 c5 hp hp2 hel0 HQ0;have hl2 := (Za.refl x).alloc (.cells #[.int .i64 z.kind, .int .i64 z.aH, .int .i64 z.index, .string z.text, .int .i64 z.set_.low, .int .i64 z.set_.high] 34);have HH := zh (Zag r B cs F _ z _ (HS.o.later (HLX.o.trans hl2)) (Zc.keep hel0 (fun _ h => h) (Zg.later hl2)));rw [HQ0.o] at HH;have HLY := zh (HLX.o.trans hl2);clear hl2 hz hel0
  cases p with
  | false =>
   cases p2 with
   | false =>
    have hR0 : R = false := by rw [HR3.o]; rfl
    subst hR0;go_wp2_with fail;go_ret;exact ⟨rfl, HB.o.trans HLY.o⟩
   | true =>
    have hR0 : R = q := by rw [HR3.o]; simp
    subst hR0;go_wp2_with fail;refine HH.o.mono ?_;rintro e y ⟨rfl, hy⟩;have HLZ := zh (HLY.o.trans hy);clear hy;go_wp2_with fail;go_ret;exact ⟨rfl, HB.o.trans HLZ.o⟩
  | true =>
   have hR0 : R = q := by rw [HR3.o]; simp
   subst hR0;go_wp2_with fail;refine HH.o.mono ?_;rintro e y ⟨rfl, hy⟩;have HLZ := zh (HLY.o.trans hy);clear hy;go_wp2_with fail;go_ret;exact ⟨rfl, HB.o.trans HLZ.o⟩
 ·have t1 : ((l.length : Int) != 1) = true := bne_iff_ne.2 (by omega);have hR0 : R = false := by
   rw [← hR2]
   match l, hN with
   | [], _ => simp [Zh]
   | _ :: _ :: _, _ => simp [Zh]
   | [_], h => exact absurd rfl h
  subst hR0;go_enter Tryz.func107, Tryz.ntmps107;go_wp2_with fail;go_ret;exact ⟨rfl, HB.o⟩
theorem Zll (r : Zf) (B : Nat) (cs : List Value) (F : Nat → Prop) (w : World) (l : List Ze) (v : Value) (h : Z1 F w B r cs) (hr : Zp Zd 6 F w l v) :
  Calls Tryz.prog 107 #[.pointer (some ⟨B, 0, none⟩), .int .i64 21, v] w fun e w' => e = .returned (.bool (Z6 r 21 l)) ∧ Below w.heap.size w w' := by
 obtain ⟨R, hR⟩ : ∃ R, Z6 r 21 l = R := ⟨_, rfl⟩;rw [hR];have hR2 : Zh r [] l = R := by rw [← hR]; simp [Z6, Zam]
 clear hR;obtain ⟨A, c, rfl, hc, hcm, _⟩ := id hr;unfold maxLen at hcm;have hl1 : Za w (w.alloc (.cells #[] 3)) := (Za.refl w).alloc _;have HS := zh (h.later hl1);have HRW := zh (hr.later Zc hl1);have HB := zh hl1;clear h hr hl1
 by_cases hN : l.length = 0
 ·obtain rfl : l = [] := List.eq_nil_of_length_eq_zero hN;clear hN;have HR2 := zh hR2;clear hR2;simp only [List.length_cons, List.length_nil, Nat.zero_add, Nat.reduceAdd] at hc HRW ⊢;go_enter Tryz.func107, Tryz.ntmps107;go_wp2_with fail;refine wp_loop_rounds 1 ?_;rw [rounds_succ];obtain ⟨x, hx⟩ : ∃ x, x = (w.alloc (.cells #[] 3)) := ⟨_, rfl⟩;rw [← hx] at HS HRW HB ⊢;clear hx;have HLX := zh (Za.refl x);have hR0 : R = true := by rw [← HR2.o]; simp [Zh, Zw]
  subst hR0;go_wp2_with fail;go_ret;exact ⟨rfl, HB.o.trans HLX.o⟩
 ·have t1 : ((l.length : Int) != 0) = true := bne_iff_ne.2 (by omega);have hR0 : R = false := by
   rw [← hR2]
   match l, hN with
   | _ :: _, _ => simp [Zh]
   | [], h => exact absurd rfl h
  subst hR0;go_enter Tryz.func107, Tryz.ntmps107;go_wp2_with fail;go_ret;exact ⟨rfl, HB.o⟩
theorem Zlm (r : Zf) (B : Nat) (cs : List Value) (F : Nat → Prop) (w : World) (l : List Ze) (v : Value) (h : Z1 F w B r cs) (hr : Zp Zd 6 F w l v) :
  Calls Tryz.prog 107 #[.pointer (some ⟨B, 0, none⟩), .int .i64 22, v] w fun e w' => e = .returned (.bool (Z6 r 22 l)) ∧ Below w.heap.size w w' := by
 obtain ⟨R, hR⟩ : ∃ R, Z6 r 22 l = R := ⟨_, rfl⟩;rw [hR];have hR2 : Zh r [] l = R := by rw [← hR]; simp [Z6, Zam]
 clear hR;obtain ⟨A, c, rfl, hc, hcm, _⟩ := id hr;unfold maxLen at hcm;have hl1 : Za w (w.alloc (.cells #[] 3)) := (Za.refl w).alloc _;have HS := zh (h.later hl1);have HRW := zh (hr.later Zc hl1);have HB := zh hl1;clear h hr hl1
 by_cases hN : l.length = 0
 ·obtain rfl : l = [] := List.eq_nil_of_length_eq_zero hN;clear hN;have HR2 := zh hR2;clear hR2;simp only [List.length_cons, List.length_nil, Nat.zero_add, Nat.reduceAdd] at hc HRW ⊢;go_enter Tryz.func107, Tryz.ntmps107;go_wp2_with fail;refine wp_loop_rounds 1 ?_;rw [rounds_succ];obtain ⟨x, hx⟩ : ∃ x, x = (w.alloc (.cells #[] 3)) := ⟨_, rfl⟩;rw [← hx] at HS HRW HB ⊢;clear hx;have HLX := zh (Za.refl x);have hR0 : R = true := by rw [← HR2.o]; simp [Zh, Zw]
  subst hR0;go_wp2_with fail;go_ret;exact ⟨rfl, HB.o.trans HLX.o⟩
 ·have t1 : ((l.length : Int) != 0) = true := bne_iff_ne.2 (by omega);have hR0 : R = false := by
   rw [← hR2]
   match l, hN with
   | _ :: _, _ => simp [Zh]
   | [], h => exact absurd rfl h
  subst hR0;go_enter Tryz.func107, Tryz.ntmps107;go_wp2_with fail;go_ret;exact ⟨rfl, HB.o⟩
theorem Zln (r : Zf) (B : Nat) (cs : List Value) (F : Nat → Prop) (w : World) (l : List Ze) (v : Value) (h : Z1 F w B r cs) (hr : Zp Zd 6 F w l v) :
  Calls Tryz.prog 107 #[.pointer (some ⟨B, 0, none⟩), .int .i64 23, v] w fun e w' => e = .returned (.bool (Z6 r 23 l)) ∧ Below w.heap.size w w' := by
 obtain ⟨R, hR⟩ : ∃ R, Z6 r 23 l = R := ⟨_, rfl⟩;rw [hR];have hR2 : Zh r [] l = R := by rw [← hR]; simp [Z6, Zam]
 clear hR;obtain ⟨A, c, rfl, hc, hcm, _⟩ := id hr;unfold maxLen at hcm;have hl1 : Za w (w.alloc (.cells #[] 3)) := (Za.refl w).alloc _;have HS := zh (h.later hl1);have HRW := zh (hr.later Zc hl1);have HB := zh hl1;clear h hr hl1
 by_cases hN : l.length = 0
 ·obtain rfl : l = [] := List.eq_nil_of_length_eq_zero hN;clear hN;have HR2 := zh hR2;clear hR2;simp only [List.length_cons, List.length_nil, Nat.zero_add, Nat.reduceAdd] at hc HRW ⊢;go_enter Tryz.func107, Tryz.ntmps107;go_wp2_with fail;refine wp_loop_rounds 1 ?_;rw [rounds_succ];obtain ⟨x, hx⟩ : ∃ x, x = (w.alloc (.cells #[] 3)) := ⟨_, rfl⟩;rw [← hx] at HS HRW HB ⊢;clear hx;have HLX := zh (Za.refl x);have hR0 : R = true := by rw [← HR2.o]; simp [Zh, Zw]
  subst hR0;go_wp2_with fail;go_ret;exact ⟨rfl, HB.o.trans HLX.o⟩
 ·have t1 : ((l.length : Int) != 0) = true := bne_iff_ne.2 (by omega);have hR0 : R = false := by
   rw [← hR2]
   match l, hN with
   | _ :: _, _ => simp [Zh]
   | [], h => exact absurd rfl h
  subst hR0;go_enter Tryz.func107, Tryz.ntmps107;go_wp2_with fail;go_ret;exact ⟨rfl, HB.o⟩
theorem Zlo (r : Zf) (B : Nat) (w : World) (l : List Ze) (A : Option Addr) (c : Nat) (op : Int) (h : op < 1) :
  Calls Tryz.prog 107 #[.pointer (some ⟨B, 0, none⟩), .int .i64 op, .slice A l.length c] w fun e w' => e = .returned (.bool (Z6 r op l)) ∧ Below w.heap.size w w' := by
 have hR : Z6 r op l = false := by unfold Z6; rw [decide_eq_false (by omega)]; rfl
 rw [hR];have t1 : (op == 1) = false := by simp; omega
 have t13 : (op == 13) = false := by simp; omega
 have t14 : (op == 14) = false := by simp; omega
 have t15 : (op == 15) = false := by simp; omega
 have t16 : (op == 16) = false := by simp; omega
 have t17 : (op == 17) = false := by simp; omega
 have t18 : (op == 18) = false := by simp; omega
 have t20 : (op == 20) = false := by simp; omega
 have d2 : decide (2 ≤ op) = false := decide_eq_false (by omega);have d7 : decide (7 ≤ op) = false := decide_eq_false (by omega);have e1 : decide (op < 1) = true := decide_eq_true (by omega);clear h hR;go_enter Tryz.func107, Tryz.ntmps107;go_wp2_with fail;go_ret;exact ⟨rfl, (Za.refl w).alloc _⟩
theorem Zlp (r : Zf) (B : Nat) (w : World) (l : List Ze) (A : Option Addr) (c : Nat) (op : Int) (h : 23 < op) :
  Calls Tryz.prog 107 #[.pointer (some ⟨B, 0, none⟩), .int .i64 op, .slice A l.length c] w fun e w' => e = .returned (.bool (Z6 r op l)) ∧ Below w.heap.size w w' := by
 have hR : Z6 r op l = false := by unfold Z6; rw [decide_eq_false (p := op ≤ 23) (by omega)]; simp
 rw [hR];have t1 : (op == 1) = false := by simp; omega
 have t13 : (op == 13) = false := by simp; omega
 have t14 : (op == 14) = false := by simp; omega
 have t15 : (op == 15) = false := by simp; omega
 have t16 : (op == 16) = false := by simp; omega
 have t17 : (op == 17) = false := by simp; omega
 have t18 : (op == 18) = false := by simp; omega
 have t20 : (op == 20) = false := by simp; omega
 have d2 : decide (2 ≤ op) = true := decide_eq_true (by omega);have d6 : decide (op ≤ 6) = false := decide_eq_false (by omega);have d7 : decide (7 ≤ op) = true := decide_eq_true (by omega);have d10 : decide (op ≤ 10) = false := decide_eq_false (by omega);have e1 : decide (op < 1) = false := decide_eq_false (by omega);have e23 : decide (23 < op) = true := decide_eq_true (by omega);clear h hR;go_enter Tryz.func107, Tryz.ntmps107;go_wp2_with fail;go_ret;exact ⟨rfl, (Za.refl w).alloc _⟩
theorem Zg3 (r : Zf) (B : Nat) (cs : List Value) (F : Nat → Prop) (w : World) (op : Int) (l : List Ze) (v : Value) (h : Z1 F w B r cs) (hr : Zp Zd 6 F w l v) :
  Calls Tryz.prog 107 #[.pointer (some ⟨B, 0, none⟩), .int .i64 op, v] w fun e w' => e = .returned (.bool (Z6 r op l)) ∧ Below w.heap.size w w' := by
 obtain ⟨A, c, hv, _⟩ := id hr;have hk : op < 1 ∨ 23 < op ∨ op = 1 ∨ op = 2 ∨ op = 3 ∨ op = 4 ∨ op = 5 ∨ op = 6 ∨ op = 7 ∨ op = 8 ∨ op = 9 ∨ op = 10 ∨ op = 11 ∨ op = 12 ∨ op = 13 ∨ op = 14 ∨ op = 15 ∨ op = 16 ∨ op = 17 ∨ op = 18 ∨ op = 19 ∨ op = 20 ∨ op = 21 ∨ op = 22 ∨ op = 23 := by omega
 rcases hk with hk | hk | rfl | rfl | rfl | rfl | rfl | rfl | rfl | rfl | rfl | rfl | rfl | rfl | rfl | rfl | rfl | rfl | rfl | rfl | rfl | rfl | rfl | rfl | rfl
 ·rw [hv]; exact Zlo r B w l A c op hk
 ·rw [hv]; exact Zlp r B w l A c op hk
 ·exact Zmy r B cs F w l v h hr
 ·exact Zmz r B cs F w l v h hr
 ·exact Zm0 r B cs F w l v h hr
 ·exact Zm1 r B cs F w l v h hr
 ·exact Zm2 r B cs F w l v h hr
 ·exact Zm3 r B cs F w l v h hr
 ·exact Zm4 r B cs F w l v h hr
 ·exact Zm5 r B cs F w l v h hr
 ·exact Zm6 r B cs F w l v h hr
 ·exact Zla r B cs F w l v h hr
 ·exact Zlb r B cs F w l v h hr
 ·exact Zlc r B cs F w l v h hr
 ·exact Zld r B cs F w l v h hr
 ·exact Zle r B cs F w l v h hr
 ·exact Zlf r B cs F w l v h hr
 ·exact Zlg r B cs F w l v h hr
 ·exact Zlh r B cs F w l v h hr
 ·exact Zli r B cs F w l v h hr
 ·exact Zlj r B cs F w l v h hr
 ·exact Zlk r B cs F w l v h hr
 ·exact Zll r B cs F w l v h hr
 ·exact Zlm r B cs F w l v h hr
 ·exact Zln r B cs F w l v h hr
end Go.Proofs.YtpmhelkiicigfaaGreatDoor
