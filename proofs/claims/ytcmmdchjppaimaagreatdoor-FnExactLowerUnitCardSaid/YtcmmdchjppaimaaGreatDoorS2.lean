/- Part of the walks that the claim stands on. -/
import Derived.Test.YtcmmdchjppaimaaGreatDoorS1
import Derived.Test.YtcmmdchjppaimaaGreatDoorChecked
import Derived.Lib.Hide
import Derived.WalkKit
import Derived.WalkSpells
import Derived.WalkLawsBesides
import Derived.Outline
import Derived.Laws.IdiomStrings
import Derived.Deep.LoopGhost
import Derived.Deep.DeepCutAuto
import Derived.Deep.CutBlock
import Derived.BigQuiet
import Derived.Maps.OwnOps
import Derived.Maps.AppendAt
import Derived.Deep.AppendLies
set_option maxRecDepth 1000000
set_option maxHeartbeats 40000000
namespace Go.Proofs.YtcmmdchjppaimaaGreatDoor
open Go.RowKit
/-! ### The text of a mark -/
def dch (z : Int) : ByteArray := ⟨[UInt8.ofNat (48 + z % 10).toNat].toArray⟩
def Zjm : Nat → Int → ByteArray → ByteArray
 | 0, _, t => t
 | f + 1, z, t => if z = 0 then t else Zjm f (z / 10) (dch z ++ t)
def Z9 (k : Int) : ByteArray := ⟨#[109]⟩ ++ Zjm k.toNat k ⟨#[]⟩
theorem Zsg {f : Nat} {z : Int} {t : ByteArray} (hz : 0 < z) (hf : z ≤ f) : Zjm f z t = Zjm (f - 1) (z / 10) (dch z ++ t) := by
 cases f with
 | zero => omega
 | succ f => simp only [Zjm]; rw [if_neg (by omega)]; rfl
theorem Zsh (f : Nat) (t : ByteArray) : Zjm f 0 t = t := by cases f <;> simp [Zjm]
theorem Zms : ∀ (f : Nat) (z : Int) (t : ByteArray), 0 ≤ z → (z ≤ f) → ((Zjm f z t).size : Int) ≤ t.size + z
 | 0, z, t, h0, hf => by simp only [Zjm]; omega
 | f + 1, z, t, h0, hf => by
  simp only [Zjm]
  split
  ·omega
  ·have := Zms f (z / 10) (dch z ++ t) (by omega) (by omega);have h1 : (dch z).size = 1 := rfl;rw [ByteArray.size_append, h1] at this
   push_cast at this
   omega
theorem Zdk {k : Int} (h : 1 ≤ k) : ((Z9 k).size : Int) ≤ k + 1 := by
 unfold Z9;have := Zms k.toNat k ⟨#[]⟩ (by omega) (by omega);have h0 : (⟨#[]⟩ : ByteArray).size = 0 := rfl;have h1 : (⟨#[109]⟩ : ByteArray).size = 1 := rfl;rw [ByteArray.size_append, h1]
 push_cast
 omega
theorem Zug (x : Int) (h0 : 0 ≤ x) (h1 : x < 256) (w : World) : (convert 192 9 (.slice (some ⟨w.heap.size, 0, none⟩) 1 1)).run Tryz.prog (w.alloc (.cells #[.int .u8 x] 5)) = .ok (.string ⟨[UInt8.ofNat x.toNat].toArray⟩) (w.alloc (.cells #[.int .u8 x] 5)) := by
 have hx : (((UInt8.ofNat x.toNat).toNat : Nat) : Int) = x := by
  rw [UInt8.toNat_ofNat', Nat.mod_eq_of_lt (by omega)]; omega
 exact run_convert_bytes_back (w.alloc (.cells #[.int .u8 x] 5)) 192 9 5 ⟨w.heap.size, 0, none⟩ 1 [UInt8.ofNat x.toNat] Tryz.underlying192 Tryz.underlying5 Tryz.underlying9 (fun j hj => by
  obtain rfl : j = 0 := by simp at hj; omega
  simp [Addr.add]
  omega)
theorem Za5 (k : Int) (w : World) (hk : 1 ≤ k) (hk1 : k ≤ 1099511627776) :
  Calls Tryz.prog 87 #[.int .i64 k] w fun e w' => e = .returned (.string (Z9 k)) ∧ Below w.heap.size w w' := by
 have t1 : decide (k ≤ 0) = false := by simp; omega
 go_enter Tryz.func87, Tryz.ntmps87;go_wp2_with fail
 go_loopw [0, 3] (fun kv out wr => ∃ (z : Int) (t : ByteArray) (f : Nat), kv = .int .i64 z ∧ out = .string t ∧ 0 ≤ z ∧ (t.size : Int) + z ≤ k ∧ z ≤ f ∧ Zjm f z t = Zjm k.toNat k ⟨#[]⟩ ∧ Below w.heap.size w wr) (fun kv _ _ => (intOf kv).toNat)
 case atStart => exact ⟨k, ⟨#[]⟩, k.toNat, rfl, rfl, by omega, by show ((0 : Nat) : Int) + k ≤ k; omega, by omega, rfl, Below.refl _ _⟩
 case round =>
  obtain ⟨z, t, f, rfl, rfl, hz, ht, hf, hd, hbel⟩ := hrel;have hsz := hbel.size;have HD := zh hd;clear hd
  by_cases hlt : 0 < z
  ·have hcv := Zug (48 + z % 10) (by omega) (by omega) wr;obtain ⟨s, hs⟩ : ∃ s : ByteArray, ⟨[UInt8.ofNat (48 + z % 10).toNat].toArray⟩ = s := ⟨_, rfl⟩;have hs1 : s.size = 1 := by rw [← hs]; rfl
   rw [hs] at hcv;have HS := zh hs;have HS1 := zh hs1;have hcat : ¬ (9223372036854775807 : Int) < (s.size : Int) + (t.size : Int) := by omega
   clear hs hs1;go_wp2_with fail
   go_roundw
   case rel => exact ⟨z / 10, s ++ t, f - 1, rfl, rfl, by omega, by rw [ByteArray.size_append, HS1.o]; omega, by omega, by rw [← HD.o, Zsg hlt hf, ← HS.o]; rfl, hbel.alloc hsz _⟩
   case measure => simp [intOf]; omega
  ·obtain rfl : z = 0 := by omega
   have hcat : ¬ (9223372036854775807 : Int) < 1 + (t.size : Int) := by omega
   have HT : Hd (t = Zjm k.toNat k ⟨#[]⟩) := zh (by rw [← HD.o, Zsh]);go_wp2_with fail;go_ret;exact ⟨by rw [HT.o]; rfl, hbel⟩
def Zer (_ : ByteArray) (k : Int) : ByteArray := Z9 k
def Zby (r : Z3) (k : Int) : Z3 := { name := Z9 (k), fields := Zbs Zer (fun _ => 1) r.fields (k + 1), line := (k + 1 + (Zd (fun _ => 1) r.fields : Nat)) }
def Zl (r : Z3) : Nat := 2 + (Zd (fun _ => 1) r.fields)
def Zgj (mK : Zf → Int → Zf) (cK : Zf → Nat) (r : Zf) (k : Int) : Zf := { kind := k, op := k + 1, aB := k + 2, line := k + 3, text := Z9 (k + 4), kids := Zbs mK cK r.kids (k + 5) }
def Zbk (cK : Zf → Nat) (r : Zf) : Nat := 5 + (Zd cK r.kids)
def Zdl (mK : Zf → Int → Zf) (cK : Zf → Nat) (r : Zbi) (k : Int) : Zbi := { name := Z9 (k), params := k + 1, slots := Zbs Zer (fun _ => 1) r.slots (k + 2), body := { kind := (k + 2 + (Zd (fun _ => 1) r.slots : Nat)), op := (k + 2 + (Zd (fun _ => 1) r.slots : Nat)) + 1, aB := (k + 2 + (Zd (fun _ => 1) r.slots : Nat)) + 2, line := (k + 2 + (Zd (fun _ => 1) r.slots : Nat)) + 3, text := Z9 ((k + 2 + (Zd (fun _ => 1) r.slots : Nat)) + 4), kids := Zbs mK cK r.body.kids ((k + 2 + (Zd (fun _ => 1) r.slots : Nat)) + 5) } }
def Zo (cK : Zf → Nat) (r : Zbi) : Nat := 7 + (Zd (fun _ => 1) r.slots + (Zd cK r.body.kids))
def Zka (mK : Zf → Int → Zf) (cK : Zf → Nat) (r : Za7) (k : Int) : Za7 := { r with routines := Zbs (Zdl mK cK) (Zo cK) r.routines (k), aA := Zbs Zby Zl r.aA (k + (Zd (Zo cK) r.routines : Nat)), globals := Zbs Zer (fun _ => 1) r.globals (k + (Zd (Zo cK) r.routines : Nat) + (Zd Zl r.aA : Nat)) }
def Zbg (cK : Zf → Nat) (r : Za7) : Nat := Zd (Zo cK) r.routines + Zd Zl r.aA + Zd (fun _ => 1) r.globals
def Zhr : Nat → Zf → Nat
 | 0 => fun _ => 0
 | n + 1 => Zbk (Zhr n)
def mkN : Nat → Zf → Int → Zf
 | 0 => fun r _ => r
 | n + 1 => Zgj (mkN n) (Zhr n)
section
mutual
def dpC : Zf → Nat
 | ⟨_, _, _, _, _, kids⟩ => Zoy kids + 1
def Zoy : List Zf → Nat
 | [] => 0
 | c :: l => max (dpC c) (Zoy l)
end
theorem Zuh (c : Zf) : dpC c = Zoy c.kids + 1 := by cases c; simp [dpC]
theorem Zng : ∀ (l : List Zf) (m : Nat), Zoy l ≤ m ↔ ∀ i (h : i < l.length), dpC l[i] ≤ m
 | [], m => by simp [Zoy]
 | c :: l, m => by
  rw [Zoy, Nat.max_le, Zng l m]
  constructor
  ·rintro ⟨h1, h2⟩ i hi
   cases i with
   | zero => exact h1
   | succ i => exact h2 i (by simpa using hi)
  ·intro h;exact ⟨h 0 (by simp), fun i hi => h (i + 1) (by simpa using hi)⟩
theorem Zqt {c : Zf} {i : Nat} (h : i < c.kids.length) : dpC c.kids[i] + 1 ≤ dpC c := by
 have := (Zng c.kids (Zoy c.kids)).1 (Nat.le_refl _) i h;rw [Zuh c]
 omega
theorem Zfe {α : Type} (cnt sz : α → Nat) (c d : Nat) (h : ∀ a, cnt a ≤ c + d * sz a) (hcd : c ≤ d) : ∀ l : List α, Zd cnt l ≤ d * Zp sz l
 | [] => Nat.zero_le _
 | a :: l => by
  have h1 := Zfe cnt sz c d h hcd l;have h2 := h a;simp only [Zp, Zd, Za2, List.length_cons, Nat.mul_add, Nat.mul_one] at *
  omega
theorem Ziu {α : Type} (c : Nat) : ∀ l : List α, Zd (fun _ => c) l = c * l.length
 | [] => rfl
 | a :: l => by simp only [Zd, Ziu c l, List.length_cons, Nat.mul_add, Nat.mul_one]; omega
theorem Zf5 (l : List ByteArray) : Zd (fun _ => 1) l ≤ 1 * Zp ByteArray.size l := Zfe _ _ 1 1 (fun _ => by omega) (by omega) l
theorem Zoz (l : List Z3) : Zd Zl l ≤ 2 * Zp Zk l := Zfe _ _ 2 2 (fun r => by
 have := Zf5 r.fields;simp only [Zl, Zk]
 omega) (by omega) l
def rtU (N : Nat) (u : Zt) (q : Zag) : Zbi := ⟨q.name, q.params.length, Zbn u q ++ List.replicate (csX q.body) ⟨#[]⟩, low u (Zbn u q) (N + 1) q.body ((Zbn u q).length : Nat)⟩
def mnU (u : Zt) : Nat → Int
 | 0 => 0
 | j + 1 => if (u.procedures[j]?.map fun q => bl q.name) = some [109, 97, 105, 110] then (j : Int) else mnU u j
def Zv8 (N : Nat) (u : Zt) (j : Nat) : Za7 := ⟨(u.procedures.take j).map (rtU N u), u.aA, u.globals, mnU u j⟩
theorem Zni (u : Zt) : ∀ j, 0 ≤ mnU u j ∧ mnU u j ≤ j
 | 0 => by simp [mnU]
 | j + 1 => by
  have := Zni u j;unfold mnU
  split <;> omega
theorem Zlg {N : Nat} {u : Zt} {j : Nat} (h : j < u.procedures.length) : (u.procedures.take (j + 1)).map (rtU N u) = (u.procedures.take j).map (rtU N u) ++ [rtU N u u.procedures[j]] := by
 rw [List.take_succ_eq_append_getElem h, List.map_append]; rfl
theorem Zqu {u : Zt} {j : Nat} (h : j < u.procedures.length) (e : bl u.procedures[j].name = [109, 97, 105, 110]) : mnU u (j + 1) = j := by
 unfold mnU;rw [if_pos (by rw [List.getElem?_eq_getElem h]; simpa using e)]
theorem Zui {u : Zt} {j : Nat} (h : j < u.procedures.length) (e : bl u.procedures[j].name ≠ [109, 97, 105, 110]) : mnU u (j + 1) = mnU u j := by
 rw [mnU, if_neg (by rw [List.getElem?_eq_getElem h]; simpa using e)]
open Classical in
noncomputable def lwR (N : Nat) (u : Zt) : Za7 × Bool := if Zy1 N u then (Zv8 N u u.procedures.length, true) else (⟨[], [], [], 0⟩, false)
def dpP (p : Za7) : Nat := Zoy (p.routines.map Zbi.body)
theorem Zx3 {p : Za7} {i : Nat} (h : i < p.routines.length) : dpC p.routines[i].body ≤ dpP p := by
 have := (Zng (p.routines.map Zbi.body) _).1 (Nat.le_refl _) i (by simpa using h);unfold dpP
 simpa using this
theorem Zz.impM {α : Type} {S S' : Zaj α} {size : Nat} {T : TypeId} {F : Nat → Prop} {w : World} {l : List α} {v : Value} (h : Zz S size T F w l v) (hS : ∀ i (hi : i < l.length) {F : Nat → Prop} {cs : List Value}, S F w l[i] cs → S' F w l[i] cs) : Zz S' size T F w l v := by
 obtain ⟨A, c, rfl, h1, h2, h3⟩ := h;refine ⟨A, c, rfl, h1, h2, fun hp => ?_⟩;obtain ⟨b, o, cur, tag, e, hF, hb, hcp, hel⟩ := h3 hp;refine ⟨b, o, cur, tag, e, hF, hb, hcp, fun i hi => ?_⟩;obtain ⟨cs, hs, hc⟩ := hel i hi;exact ⟨cs, hS i hi hs, hc⟩
theorem Zo0 : ∀ (n m : Nat) {F : Nat → Prop} {w : World} {c : Zf} {cs : List Value}, Ze3 n F w c cs → dpC c ≤ m → Ze3 m F w c cs
 | 0, _, _, _, _, _, h, _ => h.elim
 | n + 1, 0, _, _, c, _, _, h => by rw [Zuh] at h; omega
 | n + 1, m + 1, _, _, c, _, ⟨tag, v, e, h0, h1, h2, h3, h4, h5⟩, h => ⟨tag, v, e, h0, h1, h2, h3, h4, h5.impM fun i hi _ _ hs => Zo0 n m hs (by have := Zqt (c := c) hi; omega)⟩
theorem Zv9 {m : Nat} {F : Nat → Prop} {w : World} {c : Zf} {cs : List Value} (h : Zbe F w c cs) (hd : dpC c ≤ m) : Ze3 m F w c cs := by
 obtain ⟨n, h⟩ := h;exact Zo0 n m h hd
theorem Zuj : Zbf Zuf 6 := ⟨fun ⟨n, h⟩ => (Zr n).len h, fun ⟨n, h⟩ hFG hk => ⟨n, (Zr n).keep h hFG hk⟩⟩
theorem Zp9 {m : Nat} {F : Nat → Prop} {w : World} {r : Zbi} {cs : List Value} (h : Zb4 Zbe F w r cs) (hd : dpC r.body ≤ m) : Zb4 (Ze3 m) F w r cs := by
 obtain ⟨tag, v1, v2, e, h0, h1, h2, h3, h4, h5, h6, h7, h8⟩ := h;exact ⟨tag, v1, v2, e, h0, h1, h2, h3, h4, h5, h6, h7, h8.impM fun i hi _ _ hs => Zv9 hs (by have := Zqt (c := r.body) hi; omega)⟩
theorem Zh7 {F : Nat → Prop} {w : World} {p : Za7} {cs : List Value} (h : Zfb Zbe F w p cs) : Zfb (Ze3 (dpP p)) F w p cs := by
 obtain ⟨tag, v0, v1, v2, e, h0, h1, h2, h3⟩ := h;exact ⟨tag, v0, v1, v2, e, h0.impM fun i hi _ _ hs => Zp9 hs (Zx3 hi), h1, h2, h3⟩
theorem Zmt (l l' : List Zf) : Zbh (l ++ l') = Zbh l + Zbh l' := by
 induction l with
 | nil => simp [Zbh]
 | cons a l ih => simp [Zbh, ih]; omega
theorem Zf6 : ∀ (l : List Zf) (i : Nat) (h : i < l.length), Zeq l[i] + Zbh (l.drop (i + 1)) = Zbh (l.drop i)
 | [], _, h => by simp at h
 | a :: l, 0, _ => by simp [Zbh]
 | a :: l, i + 1, h => by simpa using Zf6 l i (by simpa using h)
theorem Zh8 : ∀ (l : List Zf) (i : Nat), Zbh (l.drop i) ≤ Zbh l
 | [], _ => by simp
 | a :: l, 0 => by simp
 | a :: l, i + 1 => by have := Zh8 l i; simp [Zbh]; omega
section
variable {k : List Zf} {line : Int}
theorem cz1 : Zeq zC = 1 := rfl
theorem Zuk (i : Nat) : Zeq (kdC k line i) ≤ Zbh k + 1 := by
 by_cases h : i < k.length
 ·rw [Zgi h]; have := Zf6 k i h; have := Zh8 k i; omega
 ·rw [Znd h]; simp [cN, Zeq, Zbh]
theorem Zwa : Zeq (kdC k line 0) + Zeq (kdC k line 1) ≤ Zbh k + 2 := by
 by_cases h : 1 < k.length
 ·rw [Zgi (by omega : 0 < k.length), Zgi h];have h1 := Zf6 k 0 (by omega); have h2 := Zf6 k 1 h;simp only [List.drop_zero, Nat.zero_add] at h1
  omega
 ·rw [Znd h]; have := Zuk (k := k) (line := line) 0; simp [cN, Zeq, Zbh] at *; omega
theorem Znj (i : Nat) : Zeq (k.getD i zC) + Zbh (k.drop (i + 1)) ≤ Zbh (k.drop i) + 1 := by
 by_cases h : i < k.length
 ·have := Zf6 k i h;rw [List.getD_eq_getElem?_getD, List.getElem?_eq_getElem h];simp only [Option.getD_some]
  omega
 ·rw [List.getD_eq_getElem?_getD, List.getElem?_eq_none (by omega), List.drop_eq_nil_of_le (by omega)];simp [Zbh, cz1]
theorem Zul {m : Int} (p : Nat) (rest : Zf) : ∀ j, j ≤ p → Zeq (chR (cM 5 m line) line k p rest j) + Zbh (k.drop (2 * p + 1)) ≤ Zeq rest + Zbh (k.drop (2 * (p - j) + 1)) + 5 * j
 | 0, _ => by simp [chR]
 | j + 1, h => by
  have ih := Zul (m := m) p rest j (by omega);have h1 := Znj (k := k) (2 * (p - j) - 1);have h2 := Znj (k := k) (2 * (p - j));rw [show 2 * (p - j) - 1 + 1 = 2 * (p - j) by omega] at h1;simp only [chR, cK, cO, cM, Zeq, Zbh] at *;rw [show 2 * (p - (j + 1)) + 1 = 2 * (p - j) - 1 by omega]
  omega
end
theorem Zwb {p : Prop} [Decidable p] {a b : Zf} {B : Nat} (h1 : p → Zeq a ≤ B) (h2 : Zeq b ≤ B) : Zeq (if p then a else b) ≤ B := by
 split
 ·exact h1 ‹_›
 ·exact h2
theorem Zum (u : Zt) (L : List ByteArray) (c : Ze) (m : Int) (k : List Zf) (hk : k.length ≤ 24) (h20 : c.kind = 20 → c.aB = 1 → 2 ≤ k.length) : Zeq (Zbd u L c m k) ≤ Zbh k + 80 := by
 have d0 := Zuk (k := k) (line := c.line) 0;have d2 := Zwa (k := k) (line := c.line);have dl : ∀ a, Zbh (k ++ [a]) = Zbh k + (Zeq a + 0) := fun a => by rw [Zmt]; simp [Zbh]
 have hch : c.kind = 20 → Zeq (chC c m k) ≤ Zbh k + 80 := fun h20k => by
  unfold chC;have hp : (k.length - 1 - c.aB.toNat) / 2 ≤ 12 := by omega
  have a0 := Znj (k := k) 0;simp only [List.drop_zero, Nat.zero_add] at a0;have aR := fun rest => Zul (k := k) (line := c.line) (m := m) ((k.length - 1 - c.aB.toNat) / 2) rest _ (Nat.le_refl _);simp only [Nat.sub_self, Nat.mul_zero, Nat.zero_add] at aR
  split
  ·rename_i h1;have a1 := aR (k.getD (k.length - 1) zC);have a2 := Znj (k := k) (k.length - 1);have h2 := h20 h20k h1;have a3 : ∀ i j, i ≤ j → Zbh (k.drop j) ≤ Zbh (k.drop i) := fun i j hij => by rw [show j = i + (j - i) by omega, ← List.drop_drop]; exact Zh8 _ _
   have a4 := a3 (2 * ((k.length - 1 - c.aB.toNat) / 2) + 1) (k.length - 1) (by rw [h1]; simp; omega);simp only [cK, cO, cM, cN, Zeq, Zbh] at *
   omega
  ·have a1 := aR (cN 28 c.line);simp only [cK, cO, cM, cN, Zeq, Zbh] at *
   omega
 unfold Zbd kwC
 dsimp only
 repeat' refine Zwb (fun hp => ?_) ?_
 all_goals first
  | exact hch hp
  | (simp only [cK, cO, cM, cN, tC, nmC, Zeq, Zbh, dl] at *; omega)
  | (split <;> (simp only [cK, cO, cM, cN, tC, nmC, Zeq, Zbh, dl] at *; omega))
theorem Zqv (u : Zt) (L : List ByteArray) : ∀ (n : Nat) (c : Ze) (m : Int), vX n c = true → Zeq (low u L n c m) ≤ 81 * Zc6 c
 | 0, _, _, h => by simp [vX] at h
 | n + 1, c, m, h => by
  simp only [vX, Bool.and_eq_true, List.all_eq_true, List.mem_range] at h;have hl : c.kids.length ≤ 24 := by
   have h1 := h.1;simp only [xHd, Bool.and_eq_true, nJ] at h1;have h2 := h1.2.2.2.2.1;have h3 : xHi c.kind ≤ 24 := by unfold xHi; (repeat' split) <;> decide
   omega
  have hj : ∀ j, j ≤ c.kids.length → Zbh (Zch u L n c m j) ≤ 81 * Zcc (c.kids.take j) := fun j => by
   induction j with
   | zero => intro _; simp [Zch, Zbh]
   | succ j ih =>
    intro hj;have h1 := Zqv u L n (c.kid j) (Zji c m j) (h.2 j (by omega));have h2 := ih (by omega);rw [Zjj, Zmt, Zfg c.kids j (by omega)];rw [Zcr (by omega : j < c.kids.length)] at h1;simp only [Zbh];rw [Zcr (by omega : j < c.kids.length)]
    omega
  have h2 := hj _ (Nat.le_refl _);rw [List.take_length] at h2;have h3 := Zum u L c m (Zch u L n c m c.kids.length) (by rw [Zdj]; exact hl) fun hk hn => by
   rw [Zdj];have h1 := h.1;simp only [xHd, Bool.and_eq_true, nJ] at h1;have h2 := h1.2.2.2.2.2.2;unfold xN at h2;rw [if_neg (by rw [hk]; decide), if_pos hk] at h2;simp only [Bool.and_eq_true, nJ] at h2
   omega
  rw [Zp7, Zfu]
  omega
theorem Zqw : ∀ (n : Nat) (c : Zf), Zhr n c ≤ 5 * Zeq c
 | 0, _ => Nat.zero_le _
 | n + 1, c => by
  have h : ∀ l : List Zf, Zd (Zhr n) l ≤ 5 * Zbh l := fun l => by
   induction l with
   | nil => simp [Zd]
   | cons a l ih => have := Zqw n a; simp only [Zd, Zbh]; omega
  have := h c.kids;rw [Zqs];simp only [Zhr, Zbk]
  omega
theorem Zun (n : Nat) (l : List Zf) : Zd (Zhr n) l ≤ 5 * Zbh l := by
 induction l with
 | nil => simp [Zd]
 | cons a l ih => have := Zqw n a; simp only [Zd, Zbh]; omega
theorem Zwc (M N : Nat) (sP : Ze → Nat) (u : Zt) : Zbg (Zhr M) (lwR N u).1 ≤ 12 * 250000 + 2 * Zb5 sP u := by
 unfold lwR
 split
 ·rename_i h;have h5 := Zoz u.aA;have h6 := Zf5 u.globals;have h7 := (Za9 h.ok).2.2;have hr : ∀ j, j ≤ u.procedures.length → Zd (Zo (Zhr M)) ((u.procedures.take j).map (rtU N u)) ≤ 250000 * j := fun j => by
   induction j with
   | zero => intro _; simp [Zd]
   | succ j ih =>
    intro hj;have h1 := ih (by omega);obtain ⟨-, h8⟩ := h.pr j (by omega);have h9 := Zcg (Zex h.ok (show j < u.procedures.length by omega));rw [Zlg (by omega)];have ha : ∀ l : List Zbi, ∀ r, Zd (Zo (Zhr M)) (l ++ [r]) = Zd (Zo (Zhr M)) l + Zo (Zhr M) r := fun l r => by
     induction l with
     | nil => simp [Zd]
     | cons a l ih2 => simp only [List.cons_append, Zd, ih2]; omega
    rw [ha];have h10 := Zqv u (Zbn u u.procedures[j]) (N + 1) u.procedures[j].body ((Zbn u u.procedures[j]).length : Nat) h9.2.2.2.2.1;have h11 := Zun M (low u (Zbn u u.procedures[j]) (N + 1) u.procedures[j].body ((Zbn u u.procedures[j]).length : Nat)).kids;have h12 := Zqs (low u (Zbn u u.procedures[j]) (N + 1) u.procedures[j].body ((Zbn u u.procedures[j]).length : Nat));have h13 : Zd (fun _ => 1) (Zbn u u.procedures[j] ++ List.replicate (csX u.procedures[j].body) ⟨#[]⟩) ≤ 24 := by
     rw [Ziu, List.length_append, List.length_replicate]
     omega
    simp only [Zo, rtU];have := h9.2.2.1
    omega
  have h8 := hr _ (Nat.le_refl _);simp only [List.take_length] at h8;simp only [Zbg, Zv8, Zb5, List.take_length]
  omega
 ·simp [Zbg, Zd]
end
section
open Go.RowKit
end
section
open Go.RowKit
end
section
structure Tn (P : Nat → Prop) (w x : World) : Prop where
 keep : Zc (fun b => ¬ P b) w x
 below : Below 0 w x
section
variable {P Q R : Nat → Prop} {w x y : World}
theorem Tn.refl (P : Nat → Prop) (w : World) : Tn P w w := ⟨Zc.refl _ _, Below.refl _ _⟩
theorem Tn.later (hl : Zb w x) : Tn P w x := ⟨Zc.later hl, Below.mono hl (Nat.zero_le _)⟩
theorem Tn.trans (h : Tn P w x) (k : Tn Q x y) (hP : ∀ b, P b → R b) (hQ : ∀ b, b < w.heap.size → Q b → R b) : Tn R w y :=
 ⟨⟨Nat.le_trans h.keep.size k.keep.size, fun b hb hl => (k.keep.same b (fun hq => hb (hQ b hl hq)) (Nat.lt_of_lt_of_le hl h.keep.size)).trans (h.keep.same b (fun hp => hb (hP b hp)) hl)⟩, h.below.trans k.below⟩
theorem Tn.tr (h : Tn P w x) (k : Tn P x y) : Tn P w y := h.trans k (fun _ h => h) (fun _ _ h => h)
theorem Tn.mono (h : Tn P w x) (hP : ∀ b, b < w.heap.size → P b → R b) : Tn R w x := ⟨⟨h.keep.size, fun b hb hl => h.keep.same b (fun hp => hb (hP b hl hp)) hl⟩, h.below⟩
theorem Tn.size (h : Tn P w x) : w.heap.size ≤ x.heap.size := h.keep.size
theorem Tn.has (h : Tn P w x) {b : Nat} {o : Obj} (hb : w.heap[b]? = some o) (hc : ¬ P b) : x.heap[b]? = some o := (h.keep.same b hc (Za hb)).trans hb
theorem Tn.keeps {F : Nat → Prop} (h : Tn P w x) (hF : ∀ b, F b → ¬ P b) : Zc F w x := h.keep.mono hF
theorem Tn.set (h : Tn P w x) {c : Nat} (hc : P c) (o : Nat) (v : Value) : Tn P w (x.setCell ⟨c, o, none⟩ v) :=
 ⟨h.keep.set (fun hn => hn hc) o v, h.below.setCell (Nat.zero_le _) _⟩
end
section
variable {α : Type} {S : Zaj α} {size : Nat} {T : TypeId} {F : Nat → Prop} {w : World} {l : List α} {v : Value}
end
section
variable {w x : World} {CB : Nat} {G : Nat → Prop} {L L0 : List Zpt} {iv : Value} {ov : Bool}
end
section
variable {w x : World} {CB : Nat} {G : Nat → Prop} {L L0 : List Zpt} {iv : Value}
end
/-! ### The whole state of the program's compiler -/
section
variable {w0 w x : World} {CB LB : Nat} {G0 G G' E0 E E' : Nat → Prop} {L L' : List Zpt} {lp : Option Zy2} {lv : Value} {ex : List Nat}
end
end
section
abbrev TLw : TypeId := 115
abbrev TLs : TypeId := 109
structure Zaz where
 N : Nat
 F : Nat → Prop
 u : Zt
 A1 : Option Addr
 A2 : Option Addr
 A3 : Option Addr
 k1 : Nat
 k2 : Nat
 k3 : Nat
 pi : Nat
 L : List ByteArray
structure LwI (E : Zaz) (LB cs : Nat) (w : World) : Prop where
 blk : w.heap[LB]? = some (.cells #[.slice E.A1 E.u.aA.length E.k1, .slice E.A2 E.u.globals.length E.k2, .slice E.A3 E.u.procedures.length E.k3, .int .i64 E.pi, .int .i64 E.L.length, .int .i64 cs] TLw (0, 0))
 un : UV E.N E.F w E.u E.A1 E.A2 E.A3 E.k1 E.k2 E.k3
 sp : Spc w
 nF : ∀ b, E.F b → b ≠ LB
 nG : LB ≠ 0
 ok : okU (E.N + 1) E.u = true
 at_ : ∃ h : E.pi < E.u.procedures.length, E.L = Zbn E.u E.u.procedures[E.pi]
structure LwS (E : Zaz) (G : Nat → Prop) (AL : Option Addr) (kl LB cs : Nat) (w : World) : Prop where
 blk : w.heap[LB]? = some (.cells #[.slice E.A1 E.u.aA.length E.k1, .slice E.A2 E.u.globals.length E.k2, .slice E.A3 E.u.procedures.length E.k3, .slice AL E.L.length kl, .int .i64 ((E.L.length + cs : Nat) : Int)] TLs (0, 0))
 un : UV E.N E.F w E.u E.A1 E.A2 E.A3 E.k1 E.k2 E.k3
 lo : Zq Zah 1 G w E.L (.slice AL E.L.length kl)
 nF : ∀ b, E.F b → b ≠ LB
 nG : ∀ b, G b → b ≠ LB
theorem LwI.later {E : Zaz} {LB cs : Nat} {w x : World} (h : LwI E LB cs w) (hl : Zb w x) : LwI E LB cs x :=
 ⟨(hl.block _ (Za h.blk)).trans h.blk, h.un.later hl, h.sp.below hl, h.nF, h.nG, h.ok, h.at_⟩
theorem LwS.later {E : Zaz} {G : Nat → Prop} {AL : Option Addr} {kl LB cs : Nat} {w x : World} (h : LwS E G AL kl LB cs w) (hl : Zb w x) : LwS E G AL kl LB cs x :=
 ⟨(hl.block _ (Za h.blk)).trans h.blk, h.un.later hl, h.lo.later Zg hl, h.nF, h.nG⟩
theorem Spc.keep {w x : World} (h : Spc w) (he : x.heap[0]? = w.heap[0]?) : Spc x := by
 unfold Spc Lib.TabIs at *;rw [← h];unfold World.var?;rw [Zfh];show (match x.heap[0]? with | some (Obj.cells cs _ _) => some cs | _ => none) = _;rw [he]
 rfl
theorem LwI.keep {E : Zaz} {LB cs : Nat} {w x : World} {P : Nat → Prop} (h : LwI E LB cs w) (hk : Tn P w x) (hP : ∀ b, P b → b ≠ LB ∧ ¬ E.F b ∧ b ≠ 0) : LwI E LB cs x :=
 ⟨hk.has h.blk (fun hp => (hP _ hp).1 rfl), h.un.keep (hk.keeps fun b hb hp => (hP b hp).2.1 hb), h.sp.keep (by
  by_cases hg : 0 < w.heap.size
  ·exact hk.keep.same _ (fun hp => (hP _ hp).2.2 rfl) hg
  ·exact absurd (World.block_lt_of_cell? w _ (h.sp.cell Zfh 0 (by decide +kernel))) hg), h.nF, h.nG, h.ok, h.at_⟩
theorem LwS.keep {E : Zaz} {G : Nat → Prop} {AL : Option Addr} {kl LB cs : Nat} {w x : World} {P : Nat → Prop} (h : LwS E G AL kl LB cs w) (hk : Tn P w x) (hP : ∀ b, P b → b ≠ LB ∧ ¬ E.F b ∧ ¬ G b) : LwS E G AL kl LB cs x :=
 ⟨hk.has h.blk (fun hp => (hP _ hp).1 rfl), h.un.keep (hk.keeps fun b hb hp => (hP b hp).2.1 hb), h.lo.keep Zg (fun _ h => h) (hk.keeps fun b hb hp => (hP b hp).2.2 hb), h.nF, h.nG⟩
structure LoP (I : Nat → World → Prop) (LB : Nat) (w : World) (C : Zf) (j : Nat) (e : Ending) (w' : World) : Prop where
 o : ∃ v, e = .returned (C.val v) ∧ CV (fun y => w.heap.size ≤ y) w' C v
 tn : Tn (fun b => b = LB) w w'
 st : I j w'
structure LkP (I : Nat → World → Prop) (LB : Nat) (w : World) (l : List Zf) (j : Nat) (e : Ending) (w' : World) : Prop where
 o : ∃ v, e = .returned v ∧ Zz Zbe 6 Z7 (fun y => w.heap.size ≤ y) w' l v
 tn : Tn (fun b => b = LB) w w'
 st : I j w'
theorem Zbr {k : Int} (h0 : 0 ≤ k) (h1 : k ≤ 1000000) : Zy k := ⟨by omega, by omega⟩
theorem Znk : Zy 0 := Zbr (by decide) (by decide)
theorem Zuo : (⟨#[]⟩ : ByteArray).size ≤ maxLen := by decide
section
variable {k n op line : Int} {t : ByteArray} {l : List Zf} {v : Value}
theorem CV.cn (F : Nat → Prop) (w : World) (h0 : 0 ≤ k) (h1 : k ≤ 1000) (hl : Zy line) : CV F w (cN k line) (.slice none 0 0) := CV.leaf F w (Zbr h0 (by omega)) (Zbr (by decide) (by decide)) (Zbr (by decide) (by decide)) hl (by decide)
theorem CV.cm (F : Nat → Prop) (w : World) (h0 : 0 ≤ k) (h1 : k ≤ 1000) (hn : Zy n) (hl : Zy line) : CV F w (cM k n line) (.slice none 0 0) := CV.leaf F w (Zbr h0 (by omega)) (Zbr (by decide) (by decide)) hn hl (by decide)
theorem CV.ct (F : Nat → Prop) (w : World) (h0 : 0 ≤ k) (h1 : k ≤ 1000) (hl : Zy line) (ht : t.size ≤ maxLen) : CV F w (tC k line t) (.slice none 0 0) := CV.leaf F w (Zbr h0 (by omega)) (Zbr (by decide) (by decide)) (Zbr (by decide) (by decide)) hl ht
theorem CV.ck {F : Nat → Prop} {w : World} (h : Zz Zbe 6 Z7 F w l v) (h0 : 0 ≤ k) (h1 : k ≤ 1000) (hl : Zy line) : CV F w (cK k line l) v := ⟨Zbr (k := k) h0 (by omega), Znk, Znk, hl, Zuo, h⟩
theorem CV.co {F : Nat → Prop} {w : World} (h : Zz Zbe 6 Z7 F w l v) (h0 : 0 ≤ op) (h1 : op ≤ 1000) (hl : Zy line) : CV F w (cO op line l) v := ⟨Zbr (k := 11) (by decide) (by decide), Zbr (k := op) h0 (by omega), Znk, hl, Zuo, h⟩
end
structure LoR (I : Nat → World → Prop) (LB RB : Nat) (w : World) (C : Zf) (j : Nat) (x : World) : Prop where
 o : ∃ A q, x.heap[RB]? = some (.cells (C.cells (.slice A C.kids.length q)).toArray Z7 (0, 0)) ∧ CV (fun y => w.heap.size ≤ y) x C (.slice A C.kids.length q)
 tn : Tn (fun b => b = LB ∨ b = RB) w x
 st : I j x
theorem Zwe {w : World} {b : Nat} {cur : Array Value} (h : w.heap[b]? = some (.cells cur Z7 (0, 0))) (hs : cur.size = 6) (v0 v1 v2 v3 v4 v5 : Value) : ((((((w.setCell ⟨b, 0, none⟩ v0).setCell ⟨b, 1, none⟩ v1).setCell ⟨b, 2, none⟩ v2).setCell ⟨b, 3, none⟩ v3).setCell ⟨b, 4, none⟩ v4).setCell ⟨b, 5, none⟩ v5).heap[b]? = some (.cells #[v0, v1, v2, v3, v4, v5] Z7 (0, 0)) := by
 obtain ⟨l⟩ := cur
 match l, hs with
 | [a0, a1, a2, a3, a4, a5], _ => exact Z0 (Z0 (Z0 (Z0 (Z0 (Z0 h v0) v1) v2) v3) v4) v5
theorem Tn.put6 {P : Nat → Prop} {w x : World} {b : Nat} (h : Tn P w x) (hb : P b) (v0 v1 v2 v3 v4 v5 : Value) : Tn P w ((((((x.setCell ⟨b, 0, none⟩ v0).setCell ⟨b, 1, none⟩ v1).setCell ⟨b, 2, none⟩ v2).setCell ⟨b, 3, none⟩ v3).setCell ⟨b, 4, none⟩ v4).setCell ⟨b, 5, none⟩ v5) :=
 (((((h.set hb _ _).set hb _ _).set hb _ _).set hb _ _).set hb _ _).set hb _ _
theorem LoR.put {I : Nat → World → Prop} {LB RB j : Nat} {w x : World} {C : Zf} {A : Option Addr} {q : Nat} {F : Nat → Prop} {cur : Array Value} (hI : ∀ y, Tn (fun b => b = RB) x y → I j y) (hr : x.heap[RB]? = some (.cells cur Z7 (0, 0))) (hs : cur.size = 6)
  (hC : CV F x C (.slice A C.kids.length q)) (hF : ∀ b, F b → w.heap.size ≤ b ∧ b ≠ RB) (ht : Tn (fun b => b = LB ∨ b = RB) w x) :
  LoR I LB RB w C j ((((((x.setCell ⟨RB, 0, none⟩ (.int .i64 C.kind)).setCell ⟨RB, 1, none⟩ (.int .i64 C.op)).setCell ⟨RB, 2, none⟩ (.int .i64 C.aB)).setCell ⟨RB, 3, none⟩ (.int .i64 C.line)).setCell ⟨RB, 4, none⟩ (.string C.text)).setCell ⟨RB, 5, none⟩ (.slice A C.kids.length q)) := by
 have k := Tn.put6 (Tn.refl (fun b => b = RB) x) rfl (.int .i64 C.kind) (.int .i64 C.op) (.int .i64 C.aB) (.int .i64 C.line) (.string C.text) (.slice A C.kids.length q);exact ⟨⟨A, q, Zwe hr hs _ _ _ _ _ _, hC.keep (fun b hb => (hF b hb).1) (k.keeps fun b hb => (hF b hb).2)⟩, Tn.put6 ht (.inr rfl) _ _ _ _ _ _, hI _ k⟩
structure LoC (E : Zaz) (n : Nat) (c : Ze) (cs : Nat) : Prop where
 vx : vX (n + 1) c = true
 nm : Zxv E.u E.L (n + 1) c
 le : cs + csX c ≤ 1000
 ln : E.L.length ≤ 1000
theorem LoC.hd {E : Zaz} {n : Nat} {c : Ze} {cs : Nat} (h : LoC E n c cs) : xHd c = true := by
 have := h.vx;simp only [vX, Bool.and_eq_true] at this;exact this.1
theorem LoC.len {E : Zaz} {n : Nat} {c : Ze} {cs : Nat} (h : LoC E n c cs) : c.kids.length ≤ 24 := by
 have h1 := h.hd;simp only [xHd, Bool.and_eq_true, nJ] at h1;have h2 := h1.2.2.2.2.1;have h3 : xHi c.kind ≤ 24 := by unfold xHi; (repeat' split) <;> decide
 omega
theorem LoC.kid {E : Zaz} {m : Nat} {c : Ze} {cs : Nat} (h : LoC E (m + 1) c cs) {i : Nat} (hi : i < c.kids.length) : LoC E m (c.kids[i]) (cs + Zbu c.kind + Za3 (c.kids.take i)) := by
 have h1 := h.vx;simp only [vX, Bool.and_eq_true, List.all_eq_true, List.mem_range] at h1;have h2 := h1.2 i hi;rw [Zcr hi] at h2;have h3 := h.nm.2 i hi;rw [Zcr hi] at h3;have h4 := Zcy c.kids i hi;have h5 : ∀ (l : List Ze) (j : Nat), Za3 (l.take j) ≤ Za3 l := fun l => by
  induction l with
  | nil => intro j; simp
  | cons a l ih =>
   intro j
   cases j with
   | zero => simp [Za3]
   | succ j => simp only [List.take_succ_cons, Za3]; have := ih j; omega
 have h6 := h5 c.kids (i + 1);have h7 := h.le;rw [Zg3] at h7;refine ⟨?_, h3, by omega, h.ln⟩;simp only [vX, Bool.and_eq_true, List.all_eq_true, List.mem_range];exact h2
theorem Zjn : (Tryz.prog.info? Z7).map (fun i => (i.zero, i.size, i.bytes)) = some (some (.agg #[.int .i64 0, .int .i64 0, .int .i64 0, .int .i64 0, .string ⟨#[]⟩, .slice none 0 0]), 6, 72) := by kernel_rfl
theorem Zg5 (w : World) (l : List Value) (T : TypeId) : ∀ j u, l[j]? = some u → (w.alloc (.cells l.toArray T)).cell? ((⟨w.heap.size, 0, none⟩ : Addr).add j) = some u := fun j u h => by
 rw [show (⟨w.heap.size, 0, none⟩ : Addr).add j = ⟨w.heap.size, j, none⟩ by unfold Addr.add; split <;> simp_all, cell_of_row _ _ _ _ _ _ (heap_alloc_new w _)]
 simpa using h
theorem Zf.one (C : Zf) (A : Option Addr) (n q : Nat) : ∀ u ∈ C.cells (.slice A n q), u.oneCell' = true := by
 intro u hu;simp only [Zf.cells, List.mem_cons, List.not_mem_nil, or_false] at hu
 rcases hu with rfl | rfl | rfl | rfl | rfl | rfl <;> rfl
theorem LwI.put {E : Zaz} {LB i j RB : Nat} {w x : World} (h : LwI E LB j x) (h0 : LwI E LB i w) (hR : w.heap.size ≤ RB) : ∀ y, Tn (fun b => b = RB) x y → LwI E LB j y := fun y hy => h.keep hy fun b hb => by
 subst hb;have h1 := Za h0.blk;exact ⟨by omega, fun hF => by have := h0.un.flt b hF; omega, fun e => by have := World.block_lt_of_cell? w _ (h0.sp.cell Zfh 0 (by decide +kernel)); omega⟩
theorem LwS.put {E : Zaz} {G : Nat → Prop} {AL : Option Addr} {kl LB i j RB : Nat} {w x : World} (h : LwS E G AL kl LB j x) (h0 : LwS E G AL kl LB i w) (hG : ∀ b, G b → b < w.heap.size) (hR : w.heap.size ≤ RB) : ∀ y, Tn (fun b => b = RB) x y → LwS E G AL kl LB j y := fun y hy => h.keep hy fun b hb => by
 subst hb;have h1 := Za h0.blk;exact ⟨by omega, fun hF => by have := h0.un.flt b hF; omega, fun hF => by have := hG b hF; omega⟩
end
section
variable {P : Program} {ops : Array Oper} {Q : Exit → Act → World → Prop} {md : Region.Mode}
theorem Zhp {l : Array Bool} {i : Nat} (h : l.getD i true = false) : (l.setIfInBounds i true).toList.count false + 1 = l.toList.count false := by
 have hi : i < l.size := by
  rcases Nat.lt_or_ge i l.size with h1 | h1
  ·exact h1
  ·simp [Array.getD, Nat.not_lt.2 h1] at h
 have hv : l.toList[i]'(by simpa using hi) = false := by simpa [Array.getD, hi] using h
 have e : (l.setIfInBounds i true).toList = l.toList.set i true := by simp
 have hpos : 0 < l.toList.count false := List.count_pos_iff.2 (hv ▸ List.getElem_mem (by simpa using hi));rw [e, List.count_set (by simpa using hi), hv];have h1 : (false == false) = true := rfl;have h2 : (true == false) = false := rfl;rw [if_pos h1, if_neg (by rw [h2]; decide)]
 omega
def Zlh (Q : Exit → Act → World → Prop) (K : Act → World → Prop) : Exit → Act → World → Prop
 | .normal, a', w' => K a' w'
 | e, a', w' => Q e a' w'
theorem Zx4 {K : Act → World → Prop} {i : Nat} {o : Oper} {a : Act} {w : World} (ho : ops[i]? = some o) (h : wpList P ops (Zlh Q K) [o] a w) : wpOp P ops Q i K a w := by
 unfold wpList at h;unfold wpOp;rw [ho];have hK : ∀ a' w', wpList P ops (Zlh Q K) [] a' w' → K a' w' := fun a' w' h' => h';have hup : o.wp P a w (wpList P ops (Zlh Q K) []) (Zlh Q K) → o.wp P a w (wpList P ops (Zlh Q K) []) Q := fun h' => by
  unfold Oper.wp at *
  generalize (execOp a.eval o).run P w = r at *
  cases r with
  | ok n w' => cases n <;> exact h'
  | halt x w' => cases x <;> exact h'
 show if Region.wanted o (yielded ops a.tmps) = true then _ else _
 split
 ·rename_i hw;rw [if_pos hw] at h
  rcases h with h | ⟨h1, h2⟩
  ·exact .inl (Oper.wp_mono hK (hup h))
  ·exact .inr ⟨h1, h2⟩
 ·rename_i hw;rw [if_neg hw] at h;exact hK _ _ h
end
section
variable {P : Program} {ops : Array Oper} {Q : Exit → Act → World → Prop}
def Zy3 (ops : Array Oper) : Bool := (List.range ops.size).all fun j => match ops[j]? with
 | some o => o.after.all fun e => !Region.binds .any e || decide (e.on < j)
 | none => true
def Zf7 (n : Nat) (L : List Nat) : Array Bool := ((List.range n).map fun i => !L.contains i).toArray
def Zo1 (ops : Array Oper) (L U : List Nat) : Bool :=
 Zy3 ops && (L.all fun j => decide (j < ops.size) && (List.range ops.size).all fun i => L.contains i || U.contains i || Zjz .any ops ops.size j i) && Zga ops L (Zf7 ops.size L) &&
  Region.noSelect ops && U.all fun i => decide (i < ops.size) && !L.contains i && Region.free .any ops (Zf7 ops.size (L ++ U)) i && (Region.ready .any ops (Zf7 ops.size (L ++ U))).contains i
theorem Zg6 {n : Nat} {L : List Nat} {i : Nat} (hi : i < n) (b : Bool) : (Zf7 n L).getD i b = !L.contains i := by simp [Zf7, Array.getD, hi]
theorem Zhq {l : Array Bool} {i : Nat} (hi : i < l.size) (b c : Bool) : l.getD i b = l.getD i c := by simp [Array.getD, hi]
theorem Zfw {listed : Array Bool} (hA : Zy3 ops = true) (hs : listed.size = ops.size) : ∀ (j : Nat), j < ops.size → listed.getD j true = false → ∃ i, i ∈ Region.ready .any ops listed := by
 intro j
 induction j using Nat.strongRecOn with
 | _ j ih =>
  intro hj hl
  by_cases hall : ∀ e ∈ ops[j].after, Region.binds .any e = true → listed.getD e.on false = true
  ·exact ⟨j, mem_ready.2 ⟨hl, ops[j], by simp [hj], hall⟩⟩
  ·obtain ⟨e, h1⟩ := Classical.not_forall.1 hall;obtain ⟨he, h1⟩ := Classical.not_imp.1 h1;obtain ⟨hb, h1⟩ := Classical.not_imp.1 h1;have h2 := List.all_eq_true.1 hA j (List.mem_range.2 hj);rw [show ops[j]? = some ops[j] by simp [hj]] at h2;have h3 := Array.all_eq_true_iff_forall_mem.1 h2 e he;simp only [hb, Bool.not_true, Bool.false_or, nJ] at h3;refine ih e.on h3 (by omega) ?_;rw [Zhq (by omega) true false]
   simpa using h1
theorem Zg7 : ∀ (L : List Nat) (os : List Oper) (fuel : Nat) (listed : Array Bool) (a : Act) (w : World), Zga ops L listed = true → L.map (ops[·]?) = os.map some → listed.toList.count false ≤ fuel →
  wpList P ops Q os a w → wpAny P .any ops Q fuel listed a w
 | [], os, fuel, listed, a, w, hch, hos, _, h => by
  have : os = [] := by cases os with
   | nil => rfl
   | cons => simp at hos
  subst this;have hr : Region.ready .any ops listed = [] := by simpa [Zga] using hch
  cases fuel with
  | zero => exact ⟨hr, h⟩
  | succ n => exact ⟨fun _ => h, fun i hi => by rw [hr] at hi; cases hi⟩
 | i :: L, os, fuel, listed, a, w, hch, hos, hc, h => by
  obtain ⟨o, os', rfl⟩ : ∃ o os', os = o :: os' := by cases os with
   | nil => simp at hos
   | cons o os' => exact ⟨o, os', rfl⟩
  simp only [List.map_cons, List.cons.injEq] at hos;simp only [Zga, Bool.and_eq_true, beq_iff_eq] at hch;obtain ⟨hr, hch'⟩ := hch;have hn := Zhp (mem_ready.1 (show i ∈ Region.ready .any ops listed by rw [hr]; simp)).1;obtain ⟨fuel, rfl⟩ : ∃ k, fuel = k + 1 := ⟨fuel - 1, by omega⟩;refine ⟨fun h0 => (by rw [hr] at h0; cases h0), fun j hj => ?_⟩;rw [hr] at hj;obtain rfl : j = i := by simpa using hj
  have hK : ∀ a' w', wpList P ops Q os' a' w' → wpAny P .any ops Q fuel (listed.setIfInBounds j true) a' w' := fun a' w' h' =>
   Zg7 L os' fuel _ a' w' hch' hos.2 (by omega) h'
  unfold wpList at h;unfold wpOp;rw [hos.1];show if Region.wanted o (yielded ops a.tmps) = true then _ else _
  split
  ·rename_i hw;rw [if_pos hw] at h;exact h.imp (Oper.wp_mono hK) id
  ·rename_i hw;rw [if_neg hw] at h;exact hK _ _ h
theorem Zmu {l : Array Bool} {i j : Nat} (b : Bool) (h : i ≠ j) : (l.setIfInBounds i true).getD j b = l.getD j b := getD_set_ne b h
theorem Zup : ∀ (fuel : Nat) (listed : Array Bool) (a : Act) (w : World), wpAny P .any ops Q fuel listed a w → Zdg P .any ops Q (fun _ => true) (fun _ => false) (fun _ => True) fuel listed a w := by
 intro fuel
 induction fuel with
 | zero => exact fun _ _ _ h => h
 | succ fuel ih =>
  intro listed a w h;refine ⟨h.1, fun i hi => wpOp_mono (fun a' w' h' => ?_) (h.2 i hi)⟩;exact ⟨⟨fun _ => trivial, fun h0 => by simp at h0⟩, ih _ a' w' h'⟩
theorem Zqa {i : Nat} {oi : Oper} {v : Value} (hi : ops[i]? = some oi) (hsel : ∀ (j : Nat) (o : Oper) cs b, ops[j]? = some o → o.op ≠ .select cs b) (hQ : ∀ c a w, Q (.panic c) (a.put oi.dst v) w → Q (.panic c) a w) (fuel : Nat) (listed : Array Bool) (a : Act) (w : World)
  (hfree : ∀ j oj, ops[j]? = some oj → j ≠ i → listed.getD j true = false → (∀ e ∈ oj.after, Region.binds .any e = true → e.on ≠ i) → oi.apart ops oj = true) (hr : i ∈ Region.ready .any ops listed) (hy : YieldsIf P ops (fun _ => True) oi v a)
  (h : wpAny P .any ops Q fuel (listed.setIfInBounds i true) (a.put oi.dst v) w) : wpAny P .any ops Q (fuel + 1) listed a w :=
 Zge _ _ _ _ (Zj2 (tl := fun _ => true) (pu := fun _ => false) (S := fun _ => True) hi hsel hQ rfl fuel listed a w hfree hr hy (Zup _ _ _ _ h))
theorem Zwf (hQ : ∀ c (d : Tmp) v a w, Q (.panic c) (Act.put a (some d) v) w → Q (.panic c) a w) (c : List PanicEntry) (d : Option Tmp) (v : Value) (a : Act) (w : World) (h : Q (.panic c) (Act.put a d v) w) : Q (.panic c) a w := by
 cases d with
 | none => exact h
 | some d => exact hQ c d v a w h
theorem unl {listed : Array Bool} {i : Nat} (h : ¬ listed.getD i true = true) : listed.getD i true = false := by simpa using h
theorem Zwg {I : Array Bool → Act → World → Prop} {L U : List Nat} {os : List Oper} (hB : Zo1 ops L U = true) (hos : L.map (ops[·]?) = os.map some) (hQ : ∀ c (d : Tmp) v a w, Q (.panic c) (Act.put a (some d) v) w → Q (.panic c) a w)
  (hstep : ∀ i o, ops[i]? = some o → L.contains i = false → U.contains i = false → ∀ listed a w, I listed a w → listed.size = ops.size → listed.getD i true = false → (∀ e ∈ o.after, Region.binds .any e = true → listed.getD e.on false = true) → wpOp P ops Q i (I (listed.setIfInBounds i true)) a w)
  (hpure : ∀ i o, ops[i]? = some o → U.contains i = true → ∀ listed a w, I listed a w → listed.size = ops.size → listed.getD i true = false → (∀ e ∈ o.after, Region.binds .any e = true → listed.getD e.on false = true) → ∃ v, YieldsIf P ops (fun _ => True) o v a ∧ I (listed.setIfInBounds i true) (a.put o.dst v) w)
  (hend : ∀ a w, I (Zf7 ops.size L) a w → wpList P ops Q os a w) :
  ∀ (fuel : Nat) (listed : Array Bool) (a : Act) (w : World), I listed a w → Zi8 .any ops listed → listed.size = ops.size → (∀ i ∈ L, listed.getD i true = false) → listed.toList.count false ≤ fuel → wpAny P .any ops Q fuel listed a w := by
 simp only [Zo1, Bool.and_eq_true] at hB;obtain ⟨⟨⟨⟨hA, hR⟩, hC⟩, hNS⟩, hU⟩ := hB;intro fuel
 induction fuel with
 | zero =>
  intro listed a w hI hcl hs hLu hc
  by_cases hall : ∀ i, i < ops.size → L.contains i = false → listed.getD i true = true
  ·have he : listed = Zf7 ops.size L := by
    apply Array.ext
    ·simp [Zf7, hs]
    ·intro i h1 h2;have h3 : i < ops.size := by omega
     have e1 : listed.getD i true = listed[i] := by simp [Array.getD, h1]
     have e2 : (Zf7 ops.size L).getD i true = (Zf7 ops.size L)[i] := by simp [Array.getD, h2]
     rw [← e1, ← e2, Zg6 h3]
     cases hLi : L.contains i with
     | false => exact hall i h3 hLi
     | true => exact hLu i (by simpa using hLi)
   subst he;exact Zg7 L os _ _ a w hC hos hc (hend a w hI)
  ·obtain ⟨i, h1⟩ := Classical.not_forall.1 hall;obtain ⟨h1, h2⟩ := Classical.not_imp.1 h1;obtain ⟨h2, h3⟩ := Classical.not_imp.1 h2;obtain ⟨k, hk⟩ := Zfw hA hs i h1 (unl h3);have := Zhp (mem_ready.1 hk).1
   omega
 | succ fuel ih =>
  intro listed a w hI hcl hs hLu hc;have hLs : ∀ j, L.contains j = false → ∀ m ∈ L, (listed.setIfInBounds j true).getD m true = false := fun j hjL m hm => by
   have hne : j ≠ m := fun h => by
    subst h;rw [show L.contains j = true by simpa using hm] at hjL
    cases hjL
   rw [Zmu true hne];exact hLu m hm
  by_cases hall : ∀ i, i < ops.size → L.contains i = false → listed.getD i true = true
  ·have he : listed = Zf7 ops.size L := by
    apply Array.ext
    ·simp [Zf7, hs]
    ·intro i h1 h2;have h3 : i < ops.size := by omega
     have e1 : listed.getD i true = listed[i] := by simp [Array.getD, h1]
     have e2 : (Zf7 ops.size L).getD i true = (Zf7 ops.size L)[i] := by simp [Array.getD, h2]
     rw [← e1, ← e2, Zg6 h3]
     cases hLi : L.contains i with
     | false => exact hall i h3 hLi
     | true => exact hLu i (by simpa using hLi)
   subst he;exact Zg7 L os _ _ a w hC hos hc (hend a w hI)
  by_cases hallU : ∀ i, i < ops.size → L.contains i = false → U.contains i = false → listed.getD i true = true
  ·obtain ⟨i, h1⟩ := Classical.not_forall.1 hall;obtain ⟨h1, h2⟩ := Classical.not_imp.1 h1;obtain ⟨h2, h3⟩ := Classical.not_imp.1 h2;have hiU : U.contains i = true := by
    cases hc' : U.contains i with
    | true => rfl
    | false => exact absurd (hallU i h1 h2 hc') h3
   have h4 := List.all_eq_true.1 hU i (by simpa using hiU);simp only [Bool.and_eq_true] at h4;obtain ⟨⟨_, hfr⟩, hrd⟩ := h4;have hi : ops[i]? = some ops[i] := by simp [h1]
   have hlt : ∀ j, j < ops.size → listed.getD j true = false → (Zf7 ops.size (L ++ U)).getD j true = false := fun j hj hjl => by
    rw [Zg6 hj]
    cases hjL : L.contains j with
    | true => simp at hjL; simp [hjL]
    | false =>
     cases hjU : U.contains j with
     | true => simp at hjU; simp [hjU]
     | false => rw [hallU j hj hjL hjU] at hjl; cases hjl
   have hready : i ∈ Region.ready .any ops listed := by
    obtain ⟨_, o, ho, hdep⟩ := mem_ready.1 (show i ∈ Region.ready .any ops (Zf7 ops.size (L ++ U)) by simpa using hrd);refine mem_ready.2 ⟨unl h3, o, ho, fun e he hb => ?_⟩;have h5 := hdep e he hb;have h6 : e.on < ops.size := by
     rcases Nat.lt_or_ge e.on ops.size with h7 | h7
     ·exact h7
     ·simp [Zf7, Array.getD, Nat.not_lt.2 h7] at h5
    rw [Zg6 h6] at h5;simp only [List.contains_append, Bool.not_or, Bool.and_eq_true, Bool.not_eq_true'] at h5;rw [Zhq (by omega) false true];exact hallU e.on h6 h5.1 h5.2
   obtain ⟨v, hy, hI'⟩ := hpure i _ hi hiU listed a w hI hs (unl h3) (by
    obtain ⟨_, o, ho, hdep⟩ := mem_ready.1 hready;rw [hi] at ho
    cases ho
    exact hdep)
   refine Zqa hi (Region.noSelect_spec hNS) (fun c a w h => Zwf hQ c _ _ a w h) fuel listed a w (fun j oj hj hne hjl hno => ?_) hready hy (ih _ _ w hI' (Zh1 hcl hready) (by simp [hs]) (hLs i h2) (by have := Zhp (unl h3); omega));exact Region.free_spec hi hfr j oj hj hne (hlt j (Array.getElem?_eq_some_iff.1 hj).1 hjl) hno
  ·obtain ⟨i, h1⟩ := Classical.not_forall.1 hallU;obtain ⟨h1, h2⟩ := Classical.not_imp.1 h1;obtain ⟨h2, h3⟩ := Classical.not_imp.1 h2;obtain ⟨h3u, h3⟩ := Classical.not_imp.1 h3;obtain ⟨k, hk⟩ := Zfw hA hs i h1 (unl h3);refine ⟨fun hr => (by rw [hr] at hk; cases hk), fun j hj => ?_⟩;obtain ⟨hjun, oj, hoj, hja⟩ := mem_ready.1 hj;have hjL : L.contains j = false := by
    cases hc' : L.contains j with
    | false => rfl
    | true =>
     have h4 := List.all_eq_true.1 hR j (by simpa using hc');simp only [Bool.and_eq_true] at h4;have h5 := List.all_eq_true.1 h4.2 i (List.mem_range.2 h1);rw [h2, h3u, Bool.false_or, Bool.false_or] at h5;have h6 := Zev hcl _ j i oj hoj hja h5;rw [Zhq (by omega) false true] at h6;exact absurd h6 h3
   have hK : ∀ a' w', I (listed.setIfInBounds j true) a' w' → wpAny P .any ops Q fuel (listed.setIfInBounds j true) a' w' := fun a' w' h' =>
    ih _ a' w' h' (Zh1 hcl hj) (by simp [hs]) (hLs j hjL) (by have := Zhp hjun; omega)
   cases hjU : U.contains j with
   | false => exact wpOp_mono hK (hstep j oj hoj hjL hjU listed a w hI hs hjun hja)
   | true =>
    obtain ⟨v, hy, hI'⟩ := hpure j oj hoj hjU listed a w hI hs hjun hja;exact hy.wpOp hoj trivial (hK _ _ hI')
theorem Zsi {I : Array Bool → Act → World → Prop} (L U : List Nat) (os : List Oper) {id : Nat} {a : Act} {w : World} (hm : P.follows .mixedOrders = true) (hB : Zo1 ops L U = true) (hos : L.map (ops[·]?) = os.map some) (hQ : ∀ c (d : Tmp) v a w, Q (.panic c) (Act.put a (some d) v) w → Q (.panic c) a w)
  (h0 : ∀ w1, w1 = w.drew → I (Array.replicate ops.size false) a w1)
  (hstep : ∀ i o, ops[i]? = some o → L.contains i = false → U.contains i = false → ∀ listed a w, I listed a w → listed.size = ops.size → listed.getD i true = false → (∀ e ∈ o.after, Region.binds .any e = true → listed.getD e.on false = true) → wpOp P ops Q i (I (listed.setIfInBounds i true)) a w)
  (hpure : ∀ i o, ops[i]? = some o → U.contains i = true → ∀ listed a w, I listed a w → listed.size = ops.size → listed.getD i true = false → (∀ e ∈ o.after, Region.binds .any e = true → listed.getD e.on false = true) → ∃ v, YieldsIf P ops (fun _ => True) o v a ∧ I (listed.setIfInBounds i true) (a.put o.dst v) w)
  (hend : ∀ a w, I (Zf7 ops.size L) a w → wpList P ops Q os a w) : (Code.region id ops true).wp P Q a w := by
 have hR := hB;simp only [Zo1, Bool.and_eq_true] at hR;refine wp_region_any hm (Zwg hB hos hQ hstep hpure hend _ _ _ _ (h0 w.drew rfl) (fun j o ho hl => ?_) (by simp) (fun i hi => ?_) (by simp))
 ·have hj : j < ops.size := (Array.getElem?_eq_some_iff.1 ho).1;simp [Array.getD, hj] at hl
 ·have := List.all_eq_true.1 hR.1.1.1.2 i hi;simp only [Bool.and_eq_true, nJ] at this;simp [Array.getD, this.1]
theorem Zuq {o : Oper} {listed : Array Bool} (h : ∀ e ∈ o.after, Region.binds .any e = true → listed.getD e.on false = true) (D : List Nat) (hD : (D.all fun d => o.after.any fun e => Region.binds .any e && e.on == d) = true) : ∀ d ∈ D, listed.getD d false = true := by
 intro d hd;obtain ⟨e, he, h1⟩ := Array.any_eq_true'.1 (List.all_eq_true.1 hD d hd);simp only [Bool.and_eq_true, beq_iff_eq] at h1;rw [← h1.2];exact h e he h1.1
end
def Zg8 : Value → Nat
 | .pointer (some p) => p.block
 | _ => 0
def bt (l : Array Bool) (i : Nat) : Prop := l.getD i false = true
theorem Zcz {l : Array Bool} {i j : Nat} (hij : i ≠ j) (h : bt (l.setIfInBounds i true) j) : bt l j := by unfold bt at *; rwa [Zmu false hij] at h
theorem Zh9 {l : Array Bool} {i j : Nat} (h : bt l j) : bt (l.setIfInBounds i true) j := by unfold bt at *; exact getD_set_true h
theorem Ze9 {n i : Nat} (h : bt (Array.replicate n false) i) : False := by
 unfold bt at h
 rcases Nat.lt_or_ge i n with h1 | h1
 ·simp [Array.getD, h1] at h
 ·simp [Array.getD, Nat.not_lt.2 h1] at h
def AlR (W u : World) (o : Obj) (x : Value) : Prop := ∃ B : Nat, x = .pointer (some ⟨B, 0, none⟩) ∧ u.heap[B]? = some o ∧ W.heap.size ≤ B
theorem AlR.later {W u v : World} {o : Obj} {x : Value} (h : AlR W u o x) (hl : Zb u v) : AlR W v o x := by
 obtain ⟨B, h1, h2, h3⟩ := h;exact ⟨B, h1, (hl.block B (Za h2)).trans h2, h3⟩
theorem AlR.new {W u : World} (o : Obj) (hW : Zb W u) : AlR W (u.alloc o) o (.pointer (some ⟨u.heap.size, 0, none⟩)) := ⟨_, rfl, heap_alloc_new u o, hW.size⟩
theorem AlR.lt {W u : World} {o : Obj} {x : Value} (h : AlR W u o x) : Zg8 x < u.heap.size := by
 obtain ⟨B, rfl, h2, _⟩ := h;exact Za h2
theorem Zo2 {u : World} {B : Nat} {T : TypeId} {zs : Array Value} (vs : List Value) (hB : u.heap[B]? = some (.cells zs T (0, 0))) (hz : zs.size = vs.length) : (Zb3 u B 0 vs).heap[B]? = some (.cells vs.toArray T (0, 0)) := by
 obtain ⟨cur, h1, h2, _, h4⟩ := Zgu vs u 0 zs hB (by omega);rw [h1];have : cur = vs.toArray := by
  apply Array.ext
  ·simp [h2, hz]
  ·intro i h5 h6;have := h4 i vs[i] (by simp at h6; simp [h6]);rw [Nat.zero_add] at this;simp only [List.getElem_toArray];exact (Array.getElem?_eq_some_iff.1 this).2
 rw [this]
theorem kc {l : Array Bool} {i j : Nat} {p : Prop} (F : Hd (bt l j → p)) (h : i ≠ j := by decide) : Hd (bt (l.setIfInBounds i true) j → p) := fun k => F (Zcz h k)
theorem kA {l : Array Bool} {i j : Nat} {W u v : World} {o : Obj} {x : Value} (F : Hd (bt l j → AlR W u o x)) (hb : Zb u v) (h : i ≠ j := by decide) : Hd (bt (l.setIfInBounds i true) j → AlR W v o x) := fun k => (F (Zcz h k)).later hb
theorem kX {l : Array Bool} {i j : Nat} {p q : Prop} (F : Hd (bt l j → p ∧ bt l i)) (hun : ¬ bt l i) (h : i ≠ j := by decide) : Hd (bt (l.setIfInBounds i true) j → q) := fun k => absurd (F (Zcz h k)).2 hun
theorem Znl {n : Nat} {L : List Nat} {i : Nat} (h : decide (i < n) && !L.contains i) : bt (Zf7 n L) i := by
 simp only [Bool.and_eq_true, nJ] at h;unfold bt;rw [Zg6 h.1];exact h.2
theorem unb {l : Array Bool} {i : Nat} (hun : l.getD i true = false) (hb : bt l i) : False := by
 have hi : i < l.size := by
  rcases Nat.lt_or_ge i l.size with h1 | h1
  ·exact h1
  ·simp [Array.getD, Nat.not_lt.2 h1] at hun
 unfold bt at hb;rw [Zhq hi false true, hun] at hb
 cases hb
theorem Ziw {P : Program} {ops : Array Oper} {Q : Exit → Act → World → Prop} {I : Array Bool → Act → World → Prop} {n i : Nat} {o o' : Oper} (hn : ops.size = n) (ho : ops[i]? = some o) (D : List Nat) (hD : (D.all fun d => o.after.any fun e => Region.binds .any e && e.on == d) = true)
  (h : ∀ listed a w, I listed a w → listed.size = n → ¬ bt listed i → (∀ d ∈ D, bt listed d) → wpList P ops (Zlh Q (I (listed.setIfInBounds i true))) [o] a w)
  (ho' : ops[i]? = some o') (listed : Array Bool) (a : Act) (w : World) (hI : I listed a w) (hs : listed.size = ops.size) (hun : listed.getD i true = false) (ha : ∀ e ∈ o'.after, Region.binds .any e = true → listed.getD e.on false = true) : wpOp P ops Q i (I (listed.setIfInBounds i true)) a w := by
 obtain rfl : o = o' := by rw [ho] at ho'; exact Option.some.inj ho'
 exact Zx4 ho (h listed a w hI (hs.trans hn) (unb hun) (Zuq ha D hD))
theorem Zb9 {Q : Exit → Act → World → Prop} {K : Act → World → Prop} {a : Act} {w : World} (h : K a w) : Zlh Q K .normal a w := h
theorem Zwh {P : Program} {Q : Exit → Act → World → Prop} {c : Code} {a : Act} {w : World} (h : ∀ A, A = a → c.wp P Q A w) : c.wp P Q a w := h a rfl
theorem Zsj {P : Program} {ops : Array Oper} {Q : Exit → Act → World → Prop} {I : Array Bool → Act → World → Prop} (L U T : List Nat) (os : List Oper) {id : Nat} {a : Act} {w : World} (hm : P.follows .mixedOrders = true) (hB : Zo1 ops L U = true) (hT : ((List.range ops.size).all fun i => L.contains i || (U.contains i || T.contains i)) = true) (hos : L.map (ops[·]?) = os.map some) (hQ : ∀ c (d : Tmp) v a w, Q (.panic c) (Act.put a (some d) v) w → Q (.panic c) a w)
  (h0 : ∀ w1, w1 = w.drew → I (Array.replicate ops.size false) a w1)
  (hstep : ∀ Q' : Exit → Act → World → Prop, ∀ i ∈ T, ∀ o, ops[i]? = some o → ∀ listed a w, I listed a w → listed.size = ops.size → listed.getD i true = false → (∀ e ∈ o.after, Region.binds .any e = true → listed.getD e.on false = true) → wpOp P ops Q' i (I (listed.setIfInBounds i true)) a w)
  (hpure : ∀ i ∈ U, ∀ o, ops[i]? = some o → ∀ listed a w, I listed a w → listed.size = ops.size → listed.getD i true = false → (∀ e ∈ o.after, Region.binds .any e = true → listed.getD e.on false = true) → ∃ v, YieldsIf P ops (fun _ => True) o v a ∧ I (listed.setIfInBounds i true) (a.put o.dst v) w)
  (hend : ∀ a w, I (Zf7 ops.size L) a w → wpList P ops Q os a w) : (Code.region id ops true).wp P Q a w :=
 Zsi L U os hm hB hos hQ h0 (fun i o ho hL hU listed a w hI hs hun ha => hstep Q i (by
  have h1 := List.all_eq_true.1 hT i (List.mem_range.2 (Array.getElem?_eq_some_iff.1 ho).1);rw [hL, hU, Bool.false_or, Bool.false_or] at h1
  simpa using h1) o ho listed a w hI hs hun ha) (fun i o ho hU => hpure i (by simpa using hU) o ho) hend
section
abbrev TPg : TypeId := 37
abbrev TRt : TypeId := 70
abbrev TRe : TypeId := 101
theorem Zus : (Tryz.prog.info? TRt).map (fun i => (i.zero, i.size, i.bytes)) = some (some (.agg #[.string ⟨#[]⟩, .int .i64 0, .slice none 0 0, .int .i64 0, .int .i64 0, .int .i64 0, .int .i64 0, .string ⟨#[]⟩, .slice none 0 0]), 9, 120) := by kernel_rfl
theorem Zez : Zcp (Zb4 Zbe) (Zc9 Zuf) 9 := Zbo Zs Zuj
def Zli (w : World) (q : Za7 × Bool) (e : Ending) (w' : World) : Prop :=
 ∃ (cs : List Value) (F : Nat → Prop), e = .returned (.tuple #[.agg cs.toArray, .bool q.2]) ∧ Zfb Zbe F w' q.1 cs ∧ (∀ b, F b → w.heap.size ≤ b ∧ b < w'.heap.size) ∧ Below w.heap.size w w'
abbrev zPg : List Value := [.slice none 0 0, .slice none 0 0, .slice none 0 0, .int .i64 0]
theorem Zli.zero {w w' : World} (h : Below w.heap.size w w') : Zli w (⟨[], [], [], 0⟩, false) (.returned (.tuple #[.agg zPg.toArray, .bool false])) w' :=
 ⟨zPg, fun _ => False, rfl, ⟨fun _ => 0, _, _, _, rfl, Zz.nil _ _ _ _ _, Zz.nil _ _ _ _ _, Zz.nil _ _ _ _ _, Znk⟩, fun _ h => h.elim, h⟩
structure LuS (w0 w : World) (OB : Nat) (rts : List Zbi) (recs : List Z3) (gls : List ByteArray) (mn : Int) (H R U : Nat → Prop) (rv ev gv : Value) : Prop where
 ob : w.heap[OB]? = some (.cells #[rv, ev, gv, .int .i64 mn] TPg (0, 0))
 rr : Zz (Zb4 Zbe) 9 TRt H w rts rv
 re : Zz Zac 3 TRe R w recs ev
 gl : Zz Zah 1 Zc3 U w gls gv
 lo : w0.heap.size ≤ OB
 d : ∀ b, H b ∨ R b ∨ U b → w0.heap.size ≤ b ∧ b < w.heap.size ∧ b ≠ OB
 dH : ∀ b, H b → ¬ R b ∧ ¬ U b
 dR : ∀ b, R b → ¬ U b
 bel : Below w0.heap.size w0 w
section
variable {w0 w X y : World} {OB : Nat} {rts : List Zbi} {recs : List Z3} {gls : List ByteArray} {mn : Int} {H R U : Nat → Prop} {rv ev gv v2 : Value}
theorem LuS.later (h : LuS w0 w OB rts recs gls mn H R U rv ev gv) (hl : Zb w y) : LuS w0 y OB rts recs gls mn H R U rv ev gv := by
 have h0 := h.bel.size;exact ⟨(hl.block _ (Za h.ob)).trans h.ob, h.rr.keep Zez.is (fun _ h => h) (Zc.later hl), h.re.keep Zh.is (fun _ h => h) (Zc.later hl), h.gl.keep Zg (fun _ h => h) (Zc.later hl), h.lo, fun b hb => by obtain ⟨h1, h2, h3⟩ := h.d b hb; exact ⟨h1, Nat.lt_of_lt_of_le h2 hl.size, h3⟩, h.dH, h.dR, h.bel.trans (hl.mono h0)⟩
theorem LuS.main (h : LuS w0 w OB rts recs gls mn H R U rv ev gv) (m2 : Int) : LuS w0 (w.setCell ⟨OB, 3, none⟩ (.int .i64 m2)) OB rts recs gls m2 H R U rv ev gv := by
 have hk : ∀ {F : Nat → Prop}, (∀ b, F b → b ≠ OB) → Zc F w (w.setCell ⟨OB, 3, none⟩ (.int .i64 m2)) := fun hF => (Zc.refl _ _).set (fun hb => hF OB hb rfl) _ _;have e := Z0 (o := 3) h.ob (.int .i64 m2);refine ⟨by simpa using e, h.rr.keep Zez.is (fun _ h => h) (hk fun b hb => (h.d b (.inl hb)).2.2), h.re.keep Zh.is (fun _ h => h) (hk fun b hb => (h.d b (.inr (.inl hb))).2.2), h.gl.keep Zg (fun _ h => h) (hk fun b hb => (h.d b (.inr (.inr hb))).2.2), h.lo, fun b hb => ?_, h.dH, h.dR, h.bel.setCell h.lo _⟩;simp only [World.size_setCell];exact h.d b hb
theorem LuS.pushH (h : LuS w0 w OB rts recs gls mn H R U rv ev gv) (hX : Zb w X) {a : Zbi} {E : Nat → Prop} (hE : ∀ b, E b → w.heap.size ≤ b ∧ b < X.heap.size) (hrow : Zz (Zb4 Zbe) 9 TRt (fun b => H b ∨ E b ∨ b = X.heap.size) y (rts ++ [a]) v2) (hk : Zc (fun b => ¬ H b) X y) (hb0 : Below 0 X y) :
  LuS w0 (y.setCell ⟨OB, 0, none⟩ v2) OB (rts ++ [a]) recs gls mn (fun b => (H b ∨ E b ∨ b = X.heap.size) ∧ b < y.heap.size) R U v2 ev gv := by
 have hob := Za h.ob;have hs := hX.size;have hs2 := hk.size;have h0 := h.bel.size;have hnO : ¬ H OB := fun hh => (h.d OB (.inl hh)).2.2 rfl;have hkw : ∀ {F : Nat → Prop}, (∀ b, F b → ¬ H b ∧ b ≠ OB) → Zc F w (y.setCell ⟨OB, 0, none⟩ v2) := fun hF => ((Zc.later hX).trans (hk.mono fun b hb => (hF b hb).1)).set (fun hb => (hF OB hb).2 rfl) _ _;refine ⟨?_, (hrow.trim Zez).keep Zez.is (fun _ h => h) ((Zc.refl _ _).set (fun hb => ?_) _ _), h.re.keep Zh.is (fun _ h => h) (hkw fun b hb => ⟨fun hh => (h.dH b hh).1 hb, (h.d b (.inr (.inl hb))).2.2⟩), h.gl.keep Zg (fun _ h => h) (hkw fun b hb => ⟨fun hh => (h.dH b hh).2 hb, (h.d b (.inr (.inr hb))).2.2⟩), h.lo, fun b hb => ?_, fun b hb => ?_, h.dR, ?_⟩
 ·have hy : y.heap[OB]? = some (.cells #[rv, ev, gv, .int .i64 mn] TPg (0, 0)) := (hk.same OB hnO (by omega)).trans ((hX.block OB hob).trans h.ob);have := Z0 (o := 0) hy v2
  simpa using this
 ·rcases hb.1 with h1 | h1 | h1
  ·exact hnO h1
  ·have := (hE _ h1).1; omega
  ·omega
 ·simp only [World.size_setCell];have key : ∀ b', H b' ∨ R b' ∨ U b' → w0.heap.size ≤ b' ∧ b' < y.heap.size ∧ b' ≠ OB := fun b' hb' => by
   obtain ⟨h1, h2, h3⟩ := h.d b' hb';exact ⟨h1, by omega, h3⟩
  rcases hb with hb | hb | hb
  ·rcases hb.1 with h1 | h1 | h1
   ·exact key b (.inl h1)
   ·have := (hE _ h1).1; exact ⟨by omega, hb.2, by omega⟩
   ·exact ⟨by omega, hb.2, by omega⟩
  ·exact key b (.inr (.inl hb))
  ·exact key b (.inr (.inr hb))
 ·rcases hb.1 with h1 | h1 | h1
  ·exact h.dH b h1
  ·have := (hE _ h1).1;exact ⟨fun hr => by have := (h.d b (.inr (.inl hr))).2.1; omega, fun hr => by have := (h.d b (.inr (.inr hr))).2.1; omega⟩
  ·exact ⟨fun hr => by have := (h.d b (.inr (.inl hr))).2.1; omega, fun hr => by have := (h.d b (.inr (.inr hr))).2.1; omega⟩
 ·have hb1 : Below w0.heap.size X y := Zde hk hb0 (fun b hb => (h.d b (.inl hb)).1) (by omega);exact ((h.bel.trans (hX.mono h0)).trans hb1).setCell h.lo _
theorem LuS.pushR (h : LuS w0 w OB rts recs gls mn H R U rv ev gv) (hX : Zb w X) {a : Z3} {E : Nat → Prop} (hE : ∀ b, E b → w.heap.size ≤ b ∧ b < X.heap.size) (hrow : Zz Zac 3 TRe (fun b => R b ∨ E b ∨ b = X.heap.size) y (recs ++ [a]) v2) (hk : Zc (fun b => ¬ R b) X y) (hb0 : Below 0 X y) :
  LuS w0 (y.setCell ⟨OB, 1, none⟩ v2) OB rts (recs ++ [a]) gls mn H (fun b => (R b ∨ E b ∨ b = X.heap.size) ∧ b < y.heap.size) U rv v2 gv := by
 have hob := Za h.ob;have hs := hX.size;have hs2 := hk.size;have h0 := h.bel.size;have hnO : ¬ R OB := fun hh => (h.d OB (.inr (.inl hh))).2.2 rfl;have hkw : ∀ {F : Nat → Prop}, (∀ b, F b → ¬ R b ∧ b ≠ OB) → Zc F w (y.setCell ⟨OB, 1, none⟩ v2) := fun hF => ((Zc.later hX).trans (hk.mono fun b hb => (hF b hb).1)).set (fun hb => (hF OB hb).2 rfl) _ _;refine ⟨?_, h.rr.keep Zez.is (fun _ h => h) (hkw fun b hb => ⟨(h.dH b hb).1, (h.d b (.inl hb)).2.2⟩), (hrow.trim Zh).keep Zh.is (fun _ h => h) ((Zc.refl _ _).set (fun hb => ?_) _ _), h.gl.keep Zg (fun _ h => h) (hkw fun b hb => ⟨fun hh => h.dR b hh hb, (h.d b (.inr (.inr hb))).2.2⟩), h.lo, fun b hb => ?_, fun b hb => ⟨fun hr => ?_, (h.dH b hb).2⟩, fun b hb => ?_, ?_⟩
 ·have hy : y.heap[OB]? = some (.cells #[rv, ev, gv, .int .i64 mn] TPg (0, 0)) := (hk.same OB hnO (by omega)).trans ((hX.block OB hob).trans h.ob);have := Z0 (o := 1) hy v2
  simpa using this
 ·rcases hb.1 with h1 | h1 | h1
  ·exact hnO h1
  ·have := (hE _ h1).1; omega
  ·omega
 ·simp only [World.size_setCell];have key : ∀ b', H b' ∨ R b' ∨ U b' → w0.heap.size ≤ b' ∧ b' < y.heap.size ∧ b' ≠ OB := fun b' hb' => by
   obtain ⟨h1, h2, h3⟩ := h.d b' hb';exact ⟨h1, by omega, h3⟩
  rcases hb with hb | hb | hb
  ·exact key b (.inl hb)
  ·rcases hb.1 with h1 | h1 | h1
   ·exact key b (.inr (.inl h1))
   ·have := (hE _ h1).1; exact ⟨by omega, hb.2, by omega⟩
   ·exact ⟨by omega, hb.2, by omega⟩
  ·exact key b (.inr (.inr hb))
 ·have := (h.d b (.inl hb)).2.1
  rcases hr.1 with h1 | h1 | h1
  ·exact (h.dH b hb).1 h1
  ·have := (hE _ h1).1; omega
  ·omega
 ·rcases hb.1 with h1 | h1 | h1
  ·exact h.dR b h1
  ·have := (hE _ h1).1;exact fun hr => by have := (h.d b (.inr (.inr hr))).2.1; omega
  ·exact fun hr => by have := (h.d b (.inr (.inr hr))).2.1; omega
 ·have hb1 : Below w0.heap.size X y := Zde hk hb0 (fun b hb => (h.d b (.inr (.inl hb))).1) (by omega);exact ((h.bel.trans (hX.mono h0)).trans hb1).setCell h.lo _
theorem LuS.done (h : LuS w0 w OB rts recs gls mn H R U rv ev gv) (hm : Zy mn) {w1 : World} {ZB : Nat} (hl : Zb w1 w0) (h1 : w1.heap.size ≤ ZB) (h2 : ZB < w0.heap.size) (t : Bool) : Zli w1 (⟨rts, recs, gls, mn⟩, t) (.returned (.tuple #[.agg [rv, ev, gv, .int .i64 mn].toArray, .bool t])) (Zb3 w ZB 0 [rv, ev, gv, .int .i64 mn]) := by
 classical
 have k1 : Zc (fun y => y ≠ ZB) w (Zb3 w ZB 0 [rv, ev, gv, .int .i64 mn]) := Zca (fun h => h rfl) _ w 0 (Zc.refl _ _);have hz : ∀ b, H b ∨ R b ∨ U b → b ≠ ZB := fun b hb e => by have := (h.d b hb).1; omega
 have hs := hl.size;refine ⟨_, fun b => H b ∨ R b ∨ U b, rfl, ⟨fun b => if H b then 0 else if R b then 1 else 2, rv, ev, gv, rfl, ?_, ?_, ?_, hm⟩, fun b hb => ⟨by have := (h.d b hb).1; omega, Nat.lt_of_lt_of_le (h.d b hb).2.1 k1.size⟩, Zbw h1 _ w 0 (Below.trans hl (h.bel.mono hs))⟩
 ·exact h.rr.keep Zez.is (fun b hb => ⟨.inl hb, if_pos hb⟩) (k1.mono fun b hb => hz b (.inl hb))
 ·exact h.re.keep Zh.is (fun b hb => ⟨.inr (.inl hb), by show (if H b then 0 else if R b then 1 else 2) = 1; rw [if_neg fun hh => (h.dH b hh).1 hb, if_pos hb]⟩) (k1.mono fun b hb => hz b (.inr (.inl hb)))
 ·exact h.gl.keep Zg (fun b hb => ⟨.inr (.inr hb), by show (if H b then 0 else if R b then 1 else 2) = 2; rw [if_neg fun hh => (h.dH b hh).2 hb, if_neg fun hh => h.dR b hh hb]⟩) (k1.mono fun b hb => hz b (.inr (.inr hb)))
theorem Zlj {F : Nat → Prop} {nm : ByteArray} {k : Nat} {sl : List ByteArray} {C : Zf} {sv bv : Value} {S K : Nat → Prop} (hn : nm.size ≤ maxLen) (hk : Zy k) (hs : Zz Zah 1 Zc3 S w sl sv) (hc : CV K w C bv) (hS : ∀ b, S b → F b ∧ ¬ K b) (hK : ∀ b, K b → F b) : Zb4 Zbe F w ⟨nm, k, sl, C⟩ [.string nm, .int .i64 k, sv, .int .i64 C.kind, .int .i64 C.op, .int .i64 C.aB, .int .i64 C.line, .string C.text, bv] := by
 classical
 exact ⟨fun b => if K b then 1 else 0, sv, bv, rfl, hn, hk, hs.keep Zg (fun b hb => ⟨(hS b hb).1, if_neg (hS b hb).2⟩) (Zc.refl _ _), hc.n0, hc.n1, hc.n2, hc.n3, hc.tx, hc.kids.keep Zs.is (fun b hb => ⟨hK b hb, if_pos hb⟩) (Zc.refl _ _)⟩
end
end
section
open Go
def Has : List (Nat × Value) → Array Value → Prop
 | [], _ => True
 | (k, v) :: t, A => A[k]? = some v ∧ Has t A
structure Fr (n : Nat) (ks : List (Nat × Value)) (a : Act) : Prop where
 size : a.tmps.size = n
 defers : a.defers = []
 has : Has ks a.tmps
theorem Zut (l : List Value) : (List.range l.length).map (fun k => l.getD k undef) = l := by
 refine List.ext_getElem (by simp) fun i h1 h2 => ?_;simp at h1;simp [h1]
theorem Fr.lit {n : Nat} {ks : List (Nat × Value)} {a : Act} (h : Fr n ks a) : ∃ f : Nat → Value, a = ⟨((List.range n).map f).toArray, []⟩ ∧ ∀ k, k < n → a.tmps[k]? = some (f k) := by
 obtain ⟨⟨l⟩, d⟩ := a;obtain ⟨h1, rfl, -⟩ := h;have h1 : l.length = n := h1;refine ⟨fun k => l.getD k undef, ?_, fun k hk => ?_⟩
 ·rw [← h1, Zut]
 ·rw [List.getElem?_toArray];show l[k]? = some (l.getD k undef);rw [List.getD_eq_getElem?_getD, List.getElem?_eq_getElem (by omega)]
  rfl
theorem Zi {A : Array Value} {k : Nat} {v u : Value} (h : A[k]? = some v) (h2 : A[k]? = some u) : u = v := by
 rw [h] at h2;exact (Option.some.inj h2).symm
def Zc0 (R : Act → World → Prop) : Exit → Act → World → Prop
 | .normal, a, w => R a w
 | _, _, _ => False
variable {P : Program} {c : Code} {R K : Act → World → Prop} {Q : Exit → Act → World → Prop} {a : Act} {w : World}
theorem Z8 (h : c.wp P (Zc0 R) a w) (k : ∀ a' w', R a' w' → K a' w') : c.wp P (Exit.then K Q) a w :=
 wp_mono h fun e a' w' hr => by cases e with | normal => exact k a' w' hr | _ => exact hr.elim
def cL : Code → Code | .seq a _ => a | c => c
def cR : Code → Code | .seq _ b => b | c => c
def cB : Code → Code | .block _ c => c | .loop c => c | c => c
def cT : Code → Code | .cond _ a _ => a | c => c
def cE : Code → Code | .cond _ _ b => b | c => c
def Zal (f : Func) : Code := match f.body with | some c => c | none => .skip
end
section
open Go
def Zkb (R Rr : Act → World → Prop) : Exit → Act → World → Prop
 | .normal, a, w => R a w
 | .ret, a, w => Rr a w
 | _, _, _ => False
variable {P : Program} {c : Code} {R Rr K : Act → World → Prop} {Q : Exit → Act → World → Prop} {a : Act} {w : World}
theorem Zfk (h : c.wp P (Zkb R Rr) a w) (k : ∀ a' w', R a' w' → K a' w') (k2 : ∀ a' w', Rr a' w' → Q .ret a' w') : c.wp P (Exit.then K Q) a w :=
 wp_mono h fun e a' w' hr => by cases e with | normal => exact k a' w' hr | ret => exact k2 a' w' hr | _ => exact hr.elim
end
section
abbrev TSr : TypeId := 9
def Zko (W u : World) (p : Za7) (N : Nat → Prop) (x : Value) : Prop := ∃ R : Nat → Prop, Zz Zac 3 TRe R u p.aA x ∧ (∀ b, R b → W.heap.size ≤ b ∧ b < u.heap.size) ∧ ∀ b, N b → ¬ R b
theorem Zko.fam {W : World} {p : Za7} {x : Value} : ∀ (u v : World) (N N' : Nat → Prop), Zko W u p N x → Zb u v → (∀ b, N' b → N b ∨ u.heap.size ≤ b) → Zko W v p N' x := fun u v N N' h hl hN => by
 obtain ⟨R, h1, h2, h3⟩ := h;refine ⟨R, h1.keep Zh.is (fun _ h => h) (Zc.later hl), fun b hb => ⟨(h2 b hb).1, Nat.lt_of_lt_of_le (h2 b hb).2 hl.size⟩, fun b hb hR => ?_⟩
 rcases hN b hb with h | h
 ·exact h3 b h hR
 ·have := (h2 b hR).2; omega
def RGR (W u : World) (p : Za7) (N : Nat → Prop) (x y : Value) : Prop := ∃ R U : Nat → Prop, Zz Zac 3 TRe R u p.aA x ∧ Zz Zah 1 TSr U u p.globals y ∧ (∀ b, R b ∨ U b → W.heap.size ≤ b ∧ b < u.heap.size) ∧ (∀ b, R b → ¬ U b) ∧ ∀ b, N b → ¬ (R b ∨ U b)
theorem RGR.fam {W : World} {p : Za7} {x y : Value} : ∀ (u v : World) (N N' : Nat → Prop), RGR W u p N x y → Zb u v → (∀ b, N' b → N b ∨ u.heap.size ≤ b) → RGR W v p N' x y := fun u v N N' h hl hN => by
 obtain ⟨R, U, h1, h2, h3, h4, h5⟩ := h;refine ⟨R, U, h1.keep Zh.is (fun _ h => h) (Zc.later hl), h2.keep Zg (fun _ h => h) (Zc.later hl), fun b hb => ⟨(h3 b hb).1, Nat.lt_of_lt_of_le (h3 b hb).2 hl.size⟩, h4, fun b hb hR => ?_⟩
 rcases hN b hb with h | h
 ·exact h5 b h hR
 ·have := (h3 b hR).2; omega
def Zsk (u : World) (x : Value) : Prop := ∃ B : Nat, x = .slice (some ⟨B, 0, none⟩) 0 0 ∧ u.heap[B]? = some (.cells #[] TSr (0, 0))
theorem Zsk.later {u v : World} {x : Value} (h : Zsk u x) (hl : Zb u v) : Zsk v x := by
 obtain ⟨B, h1, h2⟩ := h;exact ⟨B, h1, (hl.block B (Za h2)).trans h2⟩
section
variable {Φ : World → (Nat → Prop) → Prop} {l : Array Bool} {i j a s : Nat} {u v : World} {y : Value}
theorem kQ (hΦ : ∀ u v N N', Φ u N → Zb u v → (∀ b, N' b → N b ∨ u.heap.size ≤ b) → Φ v N') (F : Hd (bt l j → Φ u (fun b => bt l a ∧ b = Zg8 y))) (hb : Zb u v) (h : i ≠ j := by decide) (ha : i ≠ a := by decide) : Hd (bt (l.setIfInBounds i true) j → Φ v (fun b => bt (l.setIfInBounds i true) a ∧ b = Zg8 y)) := fun k => hΦ _ _ _ _ (F (Zcz h k)) hb fun n hN => .inl ⟨Zcz ha hN.1, hN.2⟩
theorem kQa (hΦ : ∀ u v N N', Φ u N → Zb u v → (∀ b, N' b → N b ∨ u.heap.size ≤ b) → Φ v N') (F : Hd (bt l j → Φ u (fun b => bt l i ∧ b = Zg8 y))) (hb : Zb u v) (h : i ≠ j := by decide) : Hd (bt (l.setIfInBounds i true) j → Φ v (fun b => bt (l.setIfInBounds i true) i ∧ b = Zg8 (.pointer (some ⟨u.heap.size, 0, none⟩)))) := fun k => hΦ _ _ _ _ (F (Zcz h k)) hb fun n hN => .inr (Nat.le_of_eq hN.2.symm)
theorem kQ2 (hΦ : ∀ u v N N', Φ u N → Zb u v → (∀ b, N' b → N b ∨ u.heap.size ≤ b) → Φ v N') (F : Hd (bt l j → (Φ u (fun b => bt l a ∧ b = Zg8 y) ∧ bt l s))) (hb : Zb u v) (h : i ≠ j := by decide) (ha : i ≠ a := by decide) : Hd (bt (l.setIfInBounds i true) j → (Φ v (fun b => bt (l.setIfInBounds i true) a ∧ b = Zg8 y) ∧ bt (l.setIfInBounds i true) s)) := fun k => ⟨hΦ _ _ _ _ (F (Zcz h k)).1 hb fun n hN => .inl ⟨Zcz ha hN.1, hN.2⟩, Zh9 (F (Zcz h k)).2⟩
theorem Zzh (hΦ : ∀ u v N N', Φ u N → Zb u v → (∀ b, N' b → N b ∨ u.heap.size ≤ b) → Φ v N') (F : Hd (bt l j → (Φ u (fun b => bt l i ∧ b = Zg8 y) ∧ bt l s))) (hb : Zb u v) (h : i ≠ j := by decide) : Hd (bt (l.setIfInBounds i true) j → (Φ v (fun b => bt (l.setIfInBounds i true) i ∧ b = Zg8 (.pointer (some ⟨u.heap.size, 0, none⟩))) ∧ bt (l.setIfInBounds i true) s)) := fun k => ⟨hΦ _ _ _ _ (F (Zcz h k)).1 hb fun n hN => .inr (Nat.le_of_eq hN.2.symm), Zh9 (F (Zcz h k)).2⟩
theorem Zo3 {x : Value} (F : Hd (bt l j → Zsk u x)) (hb : Zb u v) (h : i ≠ j := by decide) : Hd (bt (l.setIfInBounds i true) j → Zsk v x) := fun k => (F (Zcz h k)).later hb
theorem kM2 {p : Prop} {t : Nat} (F : Hd (bt l j → (p ∧ bt l s ∧ bt l t))) (h : i ≠ j := by decide) : Hd (bt (l.setIfInBounds i true) j → (p ∧ bt (l.setIfInBounds i true) s ∧ bt (l.setIfInBounds i true) t)) := fun k => ⟨(F (Zcz h k)).1, Zh9 (F (Zcz h k)).2.1, Zh9 (F (Zcz h k)).2.2⟩
theorem kX1 {p q : Prop} {t : Nat} (F : Hd (bt l j → (p ∧ bt l i ∧ bt l t))) (hun : ¬ bt l i) (h : i ≠ j := by decide) : Hd (bt (l.setIfInBounds i true) j → q) := fun k => absurd (F (Zcz h k)).2.1 hun
theorem kX2 {p q : Prop} {t : Nat} (F : Hd (bt l j → (p ∧ bt l t ∧ bt l i))) (hun : ¬ bt l i) (h : i ≠ j := by decide) : Hd (bt (l.setIfInBounds i true) j → q) := fun k => absurd (F (Zcz h k)).2.2 hun
end
structure UnB (F : Nat → Prop) (w : World) (p : Za7) (A1 A2 A3 : Option Addr) (k1 k2 k3 n3 UB : Nat) : Prop where
 re : Zq Zan 3 F w p.aA (.slice A1 p.aA.length k1)
 gl : Zq Zah 1 F w p.globals (.slice A2 p.globals.length k2)
 ub : w.heap[UB]? = some (.cells #[.slice A1 p.aA.length k1, .slice A2 p.globals.length k2, .slice A3 n3 k3] 52 (0, 0))
theorem UnB.later {F : Nat → Prop} {w x : World} {p : Za7} {A1 A2 A3 : Option Addr} {k1 k2 k3 n3 UB : Nat} (h : UnB F w p A1 A2 A3 k1 k2 k3 n3 UB) (hl : Zb w x) : UnB F x p A1 A2 A3 k1 k2 k3 n3 UB :=
 ⟨h.re.later Z4 hl, h.gl.later Zg hl, (hl.block _ (Za h.ub)).trans h.ub⟩
theorem LuS.start {w0 w : World} {OB : Nat} {recs : List Z3} {gls : List ByteArray} {R U : Nat → Prop} {ev gv : Value} {zs : Array Value} (hl : Zb w0 w) (hB : w.heap[OB]? = some (.cells zs TPg (0, 0))) (hz : zs.size = 4) (lo : w0.heap.size ≤ OB) (re : Zz Zac 3 TRe R w recs ev) (gl : Zz Zah 1 Zc3 U w gls gv) (hR : ∀ b, R b ∨ U b → w0.heap.size ≤ b ∧ b < w.heap.size ∧ b ≠ OB) (hd : ∀ b, R b → ¬ U b) :
  LuS w0 (Zb3 w OB 0 [.slice none 0 0, ev, gv, .int .i64 0]) OB [] recs gls 0 (fun _ => False) R U (.slice none 0 0) ev gv := by
 have k1 : Zc (fun y => y ≠ OB) w (Zb3 w OB 0 [.slice none 0 0, ev, gv, .int .i64 0]) := Zca (fun h => h rfl) _ w 0 (Zc.refl _ _);have hs := k1.size;refine ⟨Zo2 _ hB hz, Zz.nil _ _ _ _ _, re.keep Zh.is (fun _ h => h) (k1.mono fun b hb => (hR b (.inl hb)).2.2), gl.keep Zg (fun _ h => h) (k1.mono fun b hb => (hR b (.inr hb)).2.2), lo, fun b hb => ?_, fun _ h => h.elim, hd, Zbw lo _ w 0 hl⟩
 rcases hb with hb | hb
 ·exact hb.elim
 ·obtain ⟨h1, h2, h3⟩ := hR b hb;exact ⟨h1, by omega, h3⟩
def Zfl (A : Act) (W : World) (p : Za7) (UB : Nat) (A1 A2 : Option Addr) (k1 k2 : Nat) (l : Array Bool) (a : Act) (u : World) : Prop :=
 ∃ x0 x1 x2 x3 x4 x5 x6 x7 x8 : Value, a = (((((((((A.put (some 21) x0).put (some 22) x1).put (some 23) x2).put (some 24) x3).put (some 25) x4).put (some 26) x5).put (some 27) x6).put (some 28) x7).put (some 6) x8) ∧ Zb W u ∧ Hd (bt l 0 → x0 = .pointer (some ⟨UB, 0, none⟩)) ∧ Hd (bt l 1 → x1 = .slice A1 p.aA.length k1) ∧ Hd (bt l 2 → Zko W u p (fun b => bt l 8 ∧ b = Zg8 x8) x2) ∧ Hd (bt l 3 → Zsk u x3) ∧ Hd (bt l 4 → x4 = .pointer (some ⟨UB, 1, none⟩)) ∧ Hd (bt l 5 → x5 = .slice A2 p.globals.length k2) ∧ Hd (bt l 6 → (RGR W u p (fun b => bt l 8 ∧ b = Zg8 x8) x2 x6 ∧ bt l 2)) ∧ Hd (bt l 7 → (x7 = .agg #[.slice none 0 0, x2, x6, .int .i64 0] ∧ bt l 2 ∧ bt l 6)) ∧ Hd (bt l 8 → AlR W u (.cells #[.slice none 0 0, .slice none 0 0, .slice none 0 0, .int .i64 0] TPg) x8)
def FrU (UB ZB : Nat) (v6 v7 v8 v10 v11 v12 v30 v31 v32 : Value) (a : Act) : Prop := Fr 84 [(1, .pointer (some ⟨UB, 0, none⟩)), (2, .pointer (some ⟨ZB, 0, none⟩)), (3, .bool false), (6, v6), (7, v7), (8, v8), (10, v10), (11, v11), (12, v12), (30, v30), (31, v31), (32, v32)] a
section
variable {UB ZB : Nat} {v6 v7 v8 v10 v11 v12 v30 v31 v32 : Value} {a : Act}
theorem FrU.opn (h : FrU UB ZB v6 v7 v8 v10 v11 v12 v30 v31 v32 a) : ∃ f : Nat → Value, a = ⟨#[f 0, .pointer (some ⟨UB, 0, none⟩), .pointer (some ⟨ZB, 0, none⟩), .bool false, f 4, f 5, v6, v7, v8, f 9, v10, v11, v12, f 13, f 14, f 15, f 16, f 17, f 18, f 19, f 20, f 21, f 22, f 23, f 24, f 25, f 26, f 27, f 28, f 29, v30, v31, v32, f 33, f 34, f 35, f 36, f 37, f 38, f 39, f 40, f 41, f 42, f 43, f 44, f 45, f 46, f 47, f 48, f 49, f 50, f 51, f 52, f 53, f 54, f 55, f 56, f 57, f 58, f 59, f 60, f 61, f 62, f 63, f 64, f 65, f 66, f 67, f 68, f 69, f 70, f 71, f 72, f 73, f 74, f 75, f 76, f 77, f 78, f 79, f 80, f 81, f 82, f 83], []⟩ := by
 obtain ⟨f, e, hf⟩ := Fr.lit h;obtain ⟨h1, h2, h3, h6, h7, h8, h10, h11, h12, h30, h31, h32, -⟩ := h.has;refine ⟨f, e.trans ?_⟩;have k1 := Zi h1 (hf 1 (by omega));have k2 := Zi h2 (hf 2 (by omega));have k3 := Zi h3 (hf 3 (by omega));have k6 := Zi h6 (hf 6 (by omega));have k7 := Zi h7 (hf 7 (by omega));have k8 := Zi h8 (hf 8 (by omega));have k10 := Zi h10 (hf 10 (by omega));have k11 := Zi h11 (hf 11 (by omega));have k12 := Zi h12 (hf 12 (by omega));have k30 := Zi h30 (hf 30 (by omega));have k31 := Zi h31 (hf 31 (by omega));have k32 := Zi h32 (hf 32 (by omega));rw [← k1];rw [← k2];rw [← k3];rw [← k6];rw [← k7];rw [← k8];rw [← k10];rw [← k11];rw [← k12];rw [← k30];rw [← k31];rw [← k32]
 rfl
theorem FrU.mk' {A : Array Value} (hs : A.size = 84) (h1 : A[1]? = some (.pointer (some ⟨UB, 0, none⟩))) (h2 : A[2]? = some (.pointer (some ⟨ZB, 0, none⟩))) (h3 : A[3]? = some (.bool false)) (h6 : A[6]? = some (v6)) (h7 : A[7]? = some (v7)) (h8 : A[8]? = some (v8)) (h10 : A[10]? = some (v10)) (h11 : A[11]? = some (v11)) (h12 : A[12]? = some (v12)) (h30 : A[30]? = some (v30)) (h31 : A[31]? = some (v31)) (h32 : A[32]? = some (v32)) : FrU UB ZB v6 v7 v8 v10 v11 v12 v30 v31 v32 ⟨A, []⟩ := ⟨hs, rfl, h1, h2, h3, h6, h7, h8, h10, h11, h12, h30, h31, h32, trivial⟩
end
noncomputable def luRg : Code := cL (cR (cR (cR (Zal Tryz.f17))))
theorem Zuv {a : Act} (F : Nat → Prop) (w1 : World) (p : Za7) (A1 A2 A3 : Option Addr) (k1 k2 k3 n3 UB ZB : Nat) (HE : Hd (UnB F w1 p A1 A2 A3 k1 k2 k3 n3 UB)) (hglb : p.globals.length ≤ 2097152) (hszr : Zp Zk p.aA ≤ 2097152) (HF : Hd (FrU UB ZB undef undef undef undef undef undef undef undef undef a)) :
  luRg.wp Tryz.prog (Zc0 fun a' x => ∃ OB Ae ce Ag cg R U, FrU UB ZB (.pointer (some ⟨OB, 0, none⟩)) undef undef undef undef undef undef undef undef a' ∧ LuS w1 x OB [] p.aA p.globals 0 (fun _ => False) R U (.slice none 0 0) (.slice Ae p.aA.length ce) (.slice Ag p.globals.length cg)) a w1 := by
 obtain ⟨iStringS, hiStringS, hzStringS0, hzStringS1, hzStringS2⟩ := info_parts Zem;obtain ⟨fr, rfl⟩ := HF.o.opn;clear HF
 conv => arg 2; whnf
 refine Zwh (fun A hA => ?_);have HA := zh hA;clear hA;refine Zsj (I := Zfl A w1 p UB A1 A2 k1 k2) [9] [] [0, 1, 2, 3, 4, 5, 6, 7, 8] [_] (by kernel_rfl) (by kernel_rfl) (by kernel_rfl) rfl (fun _ _ _ _ _ h => h) ?_ ?_ ?_ ?_
 ·rintro _ rfl;unfold Zfl;refine ⟨fr 21, fr 22, fr 23, fr 24, fr 25, fr 26, fr 27, fr 28, undef, ?_, Below.drew (Zb.refl _), zh fun h => (Ze9 h).elim, zh fun h => (Ze9 h).elim, zh fun h => (Ze9 h).elim, zh fun h => (Ze9 h).elim, zh fun h => (Ze9 h).elim, zh fun h => (Ze9 h).elim, zh fun h => (Ze9 h).elim, zh fun h => (Ze9 h).elim, zh fun h => (Ze9 h).elim⟩;rw [HA.o];simp only [yN]
 ·intro Q' i hi o' ho';simp only [List.mem_cons, List.not_mem_nil, or_false] at hi
  rcases hi with rfl | rfl | rfl | rfl | rfl | rfl | rfl | rfl | rfl
  ·refine Ziw (n := 10) rfl rfl [] (by kernel_rfl) (fun l a u hI hs hun hD => ?_) ho';obtain ⟨x0, x1, x2, x3, x4, x5, x6, x7, x8, ha, hu, F0, F1, F2, F3, F4, F5, F6, F7, F8⟩ := hI;rw [HA.o] at ha;simp only [yN] at ha;subst ha;go_wp2_with fail
   first | refine Zb9 ?_ | skip
   unfold Zfl;refine ⟨.pointer (some ⟨UB, 0, none⟩), x1, x2, x3, x4, x5, x6, x7, x8, ?_, hu.trans (Zb.refl _),
    zh fun _ => rfl, kc F1, kQ Zko.fam F2 (Zb.refl _), Zo3 F3 (Zb.refl _), kc F4, kc F5, kQ2 RGR.fam F6 (Zb.refl _), kM2 F7, kA F8 (Zb.refl _)⟩
   rw [HA.o];simp only [yN]
  ·refine Ziw (n := 10) rfl rfl [0] (by kernel_rfl) (fun l a u hI hs hun hD => ?_) ho';obtain ⟨x0, x1, x2, x3, x4, x5, x6, x7, x8, ha, hu, F0, F1, F2, F3, F4, F5, F6, F7, F8⟩ := hI;rw [HA.o] at ha;simp only [yN] at ha;subst ha;have e0 := F0.o (hD 0 (by simp));have HPU := zh (HE.o.later hu);have g0 := cz3 HPU.o.ub;have fg0 := fz HPU.o.ub;go_wp2_with fail
   first | refine Zb9 ?_ | skip
   unfold Zfl;refine ⟨x0, .slice A1 p.aA.length k1, x2, x3, x4, x5, x6, x7, x8, ?_, hu.trans (Zb.refl _),
    kc F0, zh fun _ => rfl, kQ Zko.fam F2 (Zb.refl _), Zo3 F3 (Zb.refl _), kc F4, kc F5, kQ2 RGR.fam F6 (Zb.refl _), kM2 F7, kA F8 (Zb.refl _)⟩
   rw [HA.o];simp only [Act.put, List.setIfInBounds_toArray, List.set_cons_zero, List.set_cons_succ, e0]
  ·refine Ziw (n := 10) rfl rfl [1] (by kernel_rfl) (fun l a u hI hs hun hD => ?_) ho';obtain ⟨x0, x1, x2, x3, x4, x5, x6, x7, x8, ha, hu, F0, F1, F2, F3, F4, F5, F6, F7, F8⟩ := hI;rw [HA.o] at ha;simp only [yN] at ha;subst ha;have e1 := F1.o (hD 1 (by simp));have HPU := zh (HE.o.later hu);go_wp2_with fail;refine (Zkn p.aA _ F u hszr HPU.o.re).mono ?_;rintro e v ⟨v2, rfl, hrow, hb⟩;go_wp2_with fail
   first | refine Zb9 ?_ | skip
   unfold Zfl;refine ⟨x0, x1, v2, x3, x4, x5, x6, x7, x8, ?_, hu.trans hb,
    kc F0, kc F1, zh fun _ => ⟨_, hrow.trim Zh, fun b hb => ⟨Nat.le_trans hu.size hb.1, hb.2⟩, fun b hN hb => by have h1 := (F8.o (Zcz (by decide) hN.1)).lt; rw [← hN.2] at h1; have := hb.1; omega⟩, Zo3 F3 hb, kc F4, kc F5, kX F6 hun, kX1 F7 hun, kA F8 hb⟩
   rw [HA.o];simp only [Act.put, List.setIfInBounds_toArray, List.set_cons_zero, List.set_cons_succ, e1]
  ·refine Ziw (n := 10) rfl rfl [] (by kernel_rfl) (fun l a u hI hs hun hD => ?_) ho';obtain ⟨x0, x1, x2, x3, x4, x5, x6, x7, x8, ha, hu, F0, F1, F2, F3, F4, F5, F6, F7, F8⟩ := hI;rw [HA.o] at ha;simp only [yN] at ha;subst ha;go_wp2_with fail
   first | refine Zb9 ?_ | skip
   unfold Zfl;refine ⟨x0, x1, x2, .slice (some ⟨u.heap.size, 0, none⟩) 0 0, x4, x5, x6, x7, x8, ?_, hu.trans ((Zb.refl _).alloc _),
    kc F0, kc F1, kQ Zko.fam F2 ((Zb.refl _).alloc _), zh fun _ => ⟨_, rfl, heap_alloc_new u _⟩, kc F4, kc F5, kQ2 RGR.fam F6 ((Zb.refl _).alloc _), kM2 F7, kA F8 ((Zb.refl _).alloc _)⟩
   rw [HA.o];simp only [yN]
  ·refine Ziw (n := 10) rfl rfl [] (by kernel_rfl) (fun l a u hI hs hun hD => ?_) ho';obtain ⟨x0, x1, x2, x3, x4, x5, x6, x7, x8, ha, hu, F0, F1, F2, F3, F4, F5, F6, F7, F8⟩ := hI;rw [HA.o] at ha;simp only [yN] at ha;subst ha;go_wp2_with fail
   first | refine Zb9 ?_ | skip
   unfold Zfl;refine ⟨x0, x1, x2, x3, .pointer (some ⟨UB, 1, none⟩), x5, x6, x7, x8, ?_, hu.trans (Zb.refl _),
    kc F0, kc F1, kQ Zko.fam F2 (Zb.refl _), Zo3 F3 (Zb.refl _), zh fun _ => rfl, kc F5, kQ2 RGR.fam F6 (Zb.refl _), kM2 F7, kA F8 (Zb.refl _)⟩
   rw [HA.o];simp only [yN]
  ·refine Ziw (n := 10) rfl rfl [4] (by kernel_rfl) (fun l a u hI hs hun hD => ?_) ho';obtain ⟨x0, x1, x2, x3, x4, x5, x6, x7, x8, ha, hu, F0, F1, F2, F3, F4, F5, F6, F7, F8⟩ := hI;rw [HA.o] at ha;simp only [yN] at ha;subst ha;have e4 := F4.o (hD 4 (by simp));have HPU := zh (HE.o.later hu);have g0 := cz3 HPU.o.ub;have fg0 := fz HPU.o.ub;go_wp2_with fail
   first | refine Zb9 ?_ | skip
   unfold Zfl;refine ⟨x0, x1, x2, x3, x4, .slice A2 p.globals.length k2, x6, x7, x8, ?_, hu.trans (Zb.refl _),
    kc F0, kc F1, kQ Zko.fam F2 (Zb.refl _), Zo3 F3 (Zb.refl _), kc F4, zh fun _ => rfl, kQ2 RGR.fam F6 (Zb.refl _), kM2 F7, kA F8 (Zb.refl _)⟩
   rw [HA.o];simp only [Act.put, List.setIfInBounds_toArray, List.set_cons_zero, List.set_cons_succ, e4]
  ·refine Ziw (n := 10) rfl rfl [3, 5, 2] (by kernel_rfl) (fun l a u hI hs hun hD => ?_) ho';obtain ⟨x0, x1, x2, x3, x4, x5, x6, x7, x8, ha, hu, F0, F1, F2, F3, F4, F5, F6, F7, F8⟩ := hI;rw [HA.o] at ha;simp only [yN] at ha;subst ha;have e3 := F3.o (hD 3 (by simp));have e5 := F5.o (hD 5 (by simp));have e2 := F2.o (hD 2 (by simp));have HPU := zh (HE.o.later hu);obtain ⟨B3, hx3, hB3⟩ := e3;obtain ⟨R, h1, h2, h3⟩ := e2;refine Zcs Zfi (by decide) rfl _ _ 24 rfl 9 iStringS (.string ⟨#[]⟩) 16 Tryz.underlying24 hiStringS hzStringS0 hzStringS1 hzStringS2 rfl hx3 hB3 e5 HPU.o.gl hglb (by decide) ?_;intro v6 w6 hr6 hl6;go_wp2_with fail
   first | refine Zb9 ?_ | skip
   unfold Zfl;refine ⟨x0, x1, x2, x3, x4, x5, v6, x7, x8, ?_, hu.trans hl6,
    kc F0, kc F1, kQ Zko.fam F2 hl6, Zo3 F3 hl6, kc F4, kc F5, zh fun _ => ⟨⟨R, _, h1.keep Zh.is (fun _ h => h) (Zc.later hl6), hr6.trim Zj, fun b hb => by
      have hs := hu.size;have hs6 := hl6.size
      rcases hb with hb | hb
      ·exact ⟨(h2 b hb).1, Nat.lt_of_lt_of_le (h2 b hb).2 hs6⟩
      ·exact ⟨Nat.le_trans hs hb.1, hb.2⟩, fun b hb hc => by have := (h2 b hb).2; have := hc.1; omega, fun b hN hb => by
      rcases hb with hb | hb
      ·exact h3 b ⟨Zcz (by decide) hN.1, hN.2⟩ hb
      ·have h4 := (F8.o (Zcz (by decide) hN.1)).lt;rw [← hN.2] at h4;have := hb.1
       omega⟩, Zh9 (hD 2 (by simp))⟩, kX2 F7 hun, kA F8 hl6⟩
   rw [HA.o];simp only [Act.put, List.setIfInBounds_toArray, List.set_cons_zero, List.set_cons_succ, hx3, e5]
  ·refine Ziw (n := 10) rfl rfl [2, 6] (by kernel_rfl) (fun l a u hI hs hun hD => ?_) ho';obtain ⟨x0, x1, x2, x3, x4, x5, x6, x7, x8, ha, hu, F0, F1, F2, F3, F4, F5, F6, F7, F8⟩ := hI;rw [HA.o] at ha;simp only [yN] at ha;subst ha;have e2 := F2.o (hD 2 (by simp));have e6 := F6.o (hD 6 (by simp));obtain ⟨_, k2r, -⟩ := e2;obtain ⟨A2r, c2r, h2r, -⟩ := k2r;obtain ⟨⟨_, _, -, k6r, -⟩, -⟩ := e6;obtain ⟨A6r, c6r, h6r, -⟩ := k6r;go_wp2_with fail
   first | refine Zb9 ?_ | skip
   unfold Zfl;refine ⟨x0, x1, x2, x3, x4, x5, x6, .agg #[.slice none 0 0, x2, x6, .int .i64 0], x8, ?_, hu.trans (Zb.refl _),
    kc F0, kc F1, kQ Zko.fam F2 (Zb.refl _), Zo3 F3 (Zb.refl _), kc F4, kc F5, kQ2 RGR.fam F6 (Zb.refl _), zh fun _ => ⟨rfl, Zh9 (hD 2 (by simp)), Zh9 (hD 6 (by simp))⟩, kA F8 (Zb.refl _)⟩
   rw [HA.o];simp only [Act.put, List.setIfInBounds_toArray, List.set_cons_zero, List.set_cons_succ, h2r, h6r]
  ·refine Ziw (n := 10) rfl rfl [] (by kernel_rfl) (fun l a u hI hs hun hD => ?_) ho';obtain ⟨x0, x1, x2, x3, x4, x5, x6, x7, x8, ha, hu, F0, F1, F2, F3, F4, F5, F6, F7, F8⟩ := hI;rw [HA.o] at ha;simp only [yN] at ha;subst ha;go_wp2_with fail
   first | refine Zb9 ?_ | skip
   unfold Zfl;refine ⟨x0, x1, x2, x3, x4, x5, x6, x7, .pointer (some ⟨u.heap.size, 0, none⟩), ?_, hu.trans ((Zb.refl _).alloc _),
    kc F0, kc F1, kQa Zko.fam F2 ((Zb.refl _).alloc _), Zo3 F3 ((Zb.refl _).alloc _), kc F4, kc F5, Zzh RGR.fam F6 ((Zb.refl _).alloc _), kM2 F7, zh fun _ => AlR.new _ hu⟩
   rw [HA.o];simp only [yN]
 ·intro i hi
  cases hi
 ·intro a u hI;obtain ⟨x0, x1, x2, x3, x4, x5, x6, x7, x8, ha, hu, F0, F1, F2, F3, F4, F5, F6, F7, F8⟩ := hI;rw [HA.o] at ha;simp only [yN] at ha;subst ha;obtain ⟨⟨R, U, hre, hgl, hdm, hdj, hN⟩, -⟩ := F6.o (Znl (by kernel_rfl));obtain ⟨OB, e10, hB, hWB⟩ := F8.o (Znl (by kernel_rfl));have hNO := hN OB ⟨(Znl (by kernel_rfl)), by rw [e10]; rfl⟩;have e9 := (F7.o (Znl (by kernel_rfl))).1;clear F0 F1 F2 F3 F4 F5 F6 F7 F8 hN HA A;subst e10;obtain ⟨Ae, ce, rfl, -⟩ := id hre;obtain ⟨Ag, cgg, rfl, -⟩ := id hgl;subst e9;have hcm := LuS.start hu hB rfl hWB hre hgl (fun b hb => ⟨(hdm b hb).1, (hdm b hb).2, fun e => hNO (e ▸ hb)⟩) hdj;simp only [Zb3, Nat.zero_add, Nat.reduceAdd] at hcm;have HCM := zh hcm;have HBK := zh hB;clear hcm hB hu hre hgl hdm hdj hNO hWB;have b0 := cz4 HBK.o;have fb0 := fz HBK.o;go_wp2_with fail;exact ⟨OB, Ae, ce, Ag, cgg, R, U, FrU.mk' rfl rfl rfl rfl rfl rfl rfl rfl rfl rfl rfl rfl rfl, HCM.o⟩
end
section
def FaA (UB EB : Nat) (v : Value) (a : Act) : Prop := Fr 53 [(2, v), (3, .pointer (some ⟨UB, 0, none⟩)), (4, .pointer (some ⟨EB, 0, none⟩)), (6, .slice none 0 0)] a
section
variable {UB EB : Nat} {v : Value} {a : Act}
theorem FaA.opn (h : FaA UB EB v a) : ∃ f : Nat → Value, a = ⟨#[f 0, f 1, v, .pointer (some ⟨UB, 0, none⟩), .pointer (some ⟨EB, 0, none⟩), f 5, .slice none 0 0, f 7, f 8, f 9, f 10, f 11, f 12, f 13, f 14, f 15, f 16, f 17, f 18, f 19, f 20, f 21, f 22, f 23, f 24, f 25, f 26, f 27, f 28, f 29, f 30, f 31, f 32, f 33, f 34, f 35, f 36, f 37, f 38, f 39, f 40, f 41, f 42, f 43, f 44, f 45, f 46, f 47, f 48, f 49, f 50, f 51, f 52], []⟩ := by
 obtain ⟨f, e, hf⟩ := Fr.lit h;obtain ⟨h2, h3, h4, h6, -⟩ := h.has;refine ⟨f, e.trans ?_⟩;have k2 := Zi h2 (hf 2 (by omega));have k3 := Zi h3 (hf 3 (by omega));have k4 := Zi h4 (hf 4 (by omega));have k6 := Zi h6 (hf 6 (by omega));rw [← k2];rw [← k3];rw [← k4];rw [← k6]
 rfl
theorem FaA.mk' {A : Array Value} (hs : A.size = 53) (h2 : A[2]? = some (v)) (h3 : A[3]? = some (.pointer (some ⟨UB, 0, none⟩))) (h4 : A[4]? = some (.pointer (some ⟨EB, 0, none⟩))) (h6 : A[6]? = some (.slice none 0 0)) : FaA UB EB v ⟨A, []⟩ := ⟨hs, rfl, h2, h3, h4, h6, trivial⟩
end
def FaB (UB EB : Nat) (v : Value) (t : Bool) (a : Act) : Prop := Fr 53 [(2, v), (3, .pointer (some ⟨UB, 0, none⟩)), (4, .pointer (some ⟨EB, 0, none⟩)), (6, .slice none 0 0), (18, .bool t)] a
section
variable {UB EB : Nat} {v : Value} {t : Bool} {a : Act}
theorem FaB.opn (h : FaB UB EB v t a) : ∃ f : Nat → Value, a = ⟨#[f 0, f 1, v, .pointer (some ⟨UB, 0, none⟩), .pointer (some ⟨EB, 0, none⟩), f 5, .slice none 0 0, f 7, f 8, f 9, f 10, f 11, f 12, f 13, f 14, f 15, f 16, f 17, .bool t, f 19, f 20, f 21, f 22, f 23, f 24, f 25, f 26, f 27, f 28, f 29, f 30, f 31, f 32, f 33, f 34, f 35, f 36, f 37, f 38, f 39, f 40, f 41, f 42, f 43, f 44, f 45, f 46, f 47, f 48, f 49, f 50, f 51, f 52], []⟩ := by
 obtain ⟨f, e, hf⟩ := Fr.lit h;obtain ⟨h2, h3, h4, h6, h18, -⟩ := h.has;refine ⟨f, e.trans ?_⟩;have k2 := Zi h2 (hf 2 (by omega));have k3 := Zi h3 (hf 3 (by omega));have k4 := Zi h4 (hf 4 (by omega));have k6 := Zi h6 (hf 6 (by omega));have k18 := Zi h18 (hf 18 (by omega));rw [← k2];rw [← k3];rw [← k4];rw [← k6];rw [← k18]
 rfl
theorem FaB.mk' {A : Array Value} (hs : A.size = 53) (h2 : A[2]? = some (v)) (h3 : A[3]? = some (.pointer (some ⟨UB, 0, none⟩))) (h4 : A[4]? = some (.pointer (some ⟨EB, 0, none⟩))) (h6 : A[6]? = some (.slice none 0 0)) (h18 : A[18]? = some (.bool t)) : FaB UB EB v t ⟨A, []⟩ := ⟨hs, rfl, h2, h3, h4, h6, h18, trivial⟩
end
noncomputable def adT : Code := cL (cL (cR (Zal Tryz.f106)))
noncomputable def adIf : Code := cR (cL (cR (Zal Tryz.f106)))
theorem Zd2 : (Tryz.prog.info? Zc3).map (fun i => (i.zero, i.size, i.bytes)) = some (some (.string ⟨#[]⟩), 1, 16) := by kernel_rfl
section
variable {u : Zt} {k : Int} {s : ByteArray} {l : List ByteArray}
theorem Zqy (h : (k == 4 || k == 28) = false) : Ze8 u k s l = l := by
 unfold Ze8; rw [if_neg]; rintro ⟨h1, -⟩; rcases h1 with rfl | rfl <;> simp at h
theorem Zo4 (h : (Zb1 u s).1 ≠ 0) : Ze8 u k s l = l := by
 unfold Ze8 Zj5; rw [if_neg]; rintro ⟨-, h1, -⟩; exact h (by simpa using h1)
theorem Zqz (h : Zbm l s = true) : Ze8 u k s l = l := by
 unfold Ze8; rw [if_neg]; rintro ⟨-, -, h1⟩; rw [h] at h1; cases h1
theorem Zo5 (h : (k == 4 || k == 28) = true) (h1 : (Zb1 u s).1 = 0) (h2 : Zbm l s = false) : Ze8 u k s l = l ++ [s] := by
 unfold Ze8 Zj5; rw [if_pos ⟨by simpa using h, by rw [h1]; rfl, h2⟩]
end
end
structure NmG (wn x0 : World) (RX : Nat) (sv : Value) (y : World) (sv2 : Value) : Prop where
 kp : Zc (fun b => b ≠ RX ∧ sv.ownBlock ≠ some b) x0 y
 nw : sv2.ownBlock = sv.ownBlock ∨ ∃ B, x0.heap.size ≤ B ∧ sv2.ownBlock = some B
 la : Zb wn y
theorem NmG.refl {wn x0 : World} {RX : Nat} {sv : Value} (h : Zb wn x0) : NmG wn x0 RX sv x0 sv := ⟨Zc.refl _ _, .inl rfl, h⟩
theorem NmG.grow {wn x0 y X Y : World} {RX : Nat} {sv sv2 s2 : Value} (h : NmG wn x0 RX sv y sv2) (hX : Zb y X) (hg : Zbt X sv2 Y s2) (ho : ∀ b, sv2.ownBlock = some b → wn.heap.size ≤ b) : NmG wn x0 RX sv Y s2 := by
 have hs := h.kp.size;have hs2 := hX.size;refine ⟨⟨Nat.le_trans hs (Nat.le_trans hs2 hg.gr.size), fun b hb hl => ?_⟩, ?_, hg.later0 (h.la.trans hX) ho⟩
 ·refine (hg.gr.block b (by omega) fun e => ?_).trans ((hX.block b (by omega)).trans (h.kp.same b hb hl))
  rcases h.nw with h1 | ⟨B, hB, h1⟩
  ·exact hb.2 (h1 ▸ e.symm)
  ·rw [h1] at e; cases e; omega
 ·rcases hg.nw with h1 | ⟨B, hB, h1⟩
  ·rw [h1]; exact h.nw
  ·exact .inr ⟨B, by omega, h1⟩
theorem NmG.put {wn x0 y : World} {RX : Nat} {sv sv2 : Value} (h : NmG wn x0 RX sv y sv2) (hR : wn.heap.size ≤ RX) (o : Nat) (v : Value) : NmG wn x0 RX sv (y.setCell ⟨RX, o, none⟩ v) sv2 := ⟨h.kp.set (fun hb => hb.1 rfl) _ _, h.nw, h.la.setCell hR _⟩
theorem NmG.ne {wn x0 y : World} {RX b : Nat} {sv sv2 : Value} (h : NmG wn x0 RX sv y sv2) (hb : sv.ownBlock ≠ some b) (hl : b < x0.heap.size) : sv2.ownBlock ≠ some b := fun e => by
 rcases h.nw with h1 | ⟨B, hB, h1⟩
 ·exact hb (h1 ▸ e)
 ·rw [h1] at e; cases e; omega
theorem LuS.eqs {w0 w : World} {OB : Nat} {rts rts' : List Zbi} {recs : List Z3} {gls : List ByteArray} {mn mn' : Int} {H R U : Nat → Prop} {rv ev gv : Value} (h : LuS w0 w OB rts recs gls mn H R U rv ev gv) (e1 : rts = rts') (e2 : mn = mn') : LuS w0 w OB rts' recs gls mn' H R U rv ev gv := by subst e1; subst e2; exact h
theorem Zax.setNe {w0 w : World} {l : List ByteArray} {v : Value} (h : Zax w0 w l v) (B o : Nat) (x : Value) (hn : v.ownBlock ≠ some B) : Zax w0 (w.setCell ⟨B, o, none⟩ x) l v :=
 ⟨h.row.same fun b e => Below.heap_setCell _ _ _ _ (fun (hb : b = B) => hn (by rw [← hb]; exact e)), h.small⟩
theorem Zax.spO {w0 w : World} {l : List ByteArray} {v : Value} (h : Zax w0 w l v) : Zz Zah 1 Zc3 (fun b => v.ownBlock = some b) w l v := by
 rcases h.row.2 with ⟨rfl, h0⟩ | ⟨g, cap, cur, rfl, hb, hg, h1, h2, h3, h4⟩
 ·exact ⟨none, 0, by rw [h0], by omega, Nat.zero_le _, fun hp => by omega⟩
 ·refine ⟨_, cap, rfl, h1, h2, fun _ => ⟨g, 0, cur, id, rfl, rfl, hg, ⟨rfl, by omega⟩, fun i hi => ⟨[.string l[i]], ⟨rfl, h.small _ (List.getElem_mem hi)⟩, fun j x hj => ?_⟩⟩⟩;have hj0 : j = 0 := by have := (List.getElem?_eq_some_iff.1 hj).1; simp at this; omega
  subst hj0;have e : (l.map Value.string)[i]? = some (.string l[i]) := by simp [hi]
  rw [← h4, List.getElem?_take, if_pos (by omega)] at e;simp only [List.getElem?_cons_zero, Option.some.injEq] at hj;subst hj
  simpa using e
theorem Zy5 (a b c d e f g h i : Value) (h0 : a.oneCell' = true) (h1 : b.oneCell' = true) (h2 : c.oneCell' = true) (h3 : d.oneCell' = true) (h4 : e.oneCell' = true) (h5 : f.oneCell' = true) (h6 : g.oneCell' = true) (h7 : h.oneCell' = true) (h8 : i.oneCell' = true) : ∀ u ∈ [a, b, c, d, e, f, g, h, i], u.oneCell' = true := by
 intro u hu;simp only [List.mem_cons, List.not_mem_nil, or_false] at hu
 rcases hu with rfl | rfl | rfl | rfl | rfl | rfl | rfl | rfl | rfl <;> assumption
noncomputable def luLp : Code := cR (cL (cR (cR (cR (cR (cR (cB (cL (cR (cR (cB (cB (cR (cL (cR (cR (cR (cR (Zal Tryz.f17)))))))))))))))))))
theorem Zux {a : Act} (wn x0 : World) (UB ZB LB RX n : Nat) (nm : ByteArray) (pl : Int) (C : Zf) (bv sv : Value) (ns : List ByteArray) (u0 u1 u2 u3 u4 v6 v7 v8 v30 v31 v32 : Value)
  (HR : Hd (x0.heap[RX]? = some (.cells #[.string nm, .int .i64 pl, sv, .int .i64 C.kind, .int .i64 C.op, .int .i64 C.aB, .int .i64 C.line, .string C.text, bv] TRt (0, 0)))) (HN : Hd (Zax wn x0 ns sv)) (HLB : Hd (x0.heap[LB]? = some (.cells #[u0, u1, u2, u3, u4, .int .i64 n] TLw (0, 0)))) (HL : Hd (Zb wn x0)) (HG : Hd (wn.heap.size ≤ RX ∧ LB ≠ RX ∧ sv.ownBlock ≠ some LB ∧ sv.ownBlock ≠ some RX)) (HNN : Hd (ns.length + n ≤ 24)) (HF : Hd (FrU UB ZB v6 v7 v8 (.pointer (some ⟨LB, 0, none⟩)) (.pointer (some ⟨RX, 0, none⟩)) (.int .i64 0) v30 v31 v32 a)) :
  luLp.wp Tryz.prog (Zc0 fun a' y => FrU UB ZB v6 v7 v8 (.pointer (some ⟨LB, 0, none⟩)) (.pointer (some ⟨RX, 0, none⟩)) (.int .i64 n) v30 v31 v32 a' ∧ ∃ sv2, y.heap[RX]? = some (.cells #[.string nm, .int .i64 pl, sv2, .int .i64 C.kind, .int .i64 C.op, .int .i64 C.aB, .int .i64 C.line, .string C.text, bv] TRt (0, 0)) ∧ Zax wn y (ns ++ List.replicate n ⟨#[]⟩) sv2 ∧ NmG wn x0 RX sv y sv2) a x0 := by
 obtain ⟨iS, hiS, hz0, hz1, hz2⟩ := info_parts Zd2;have HF0 := HF;obtain ⟨fr, rfl⟩ := HF.o.opn;clear HF
 conv => arg 2; whnf
 go_wp2_with fail;refine wp_loop_ghost_k (fun g a x => ∃ (i : Nat) (sv2 : Value), g + i = n ∧ FrU UB ZB v6 v7 v8 (.pointer (some ⟨LB, 0, none⟩)) (.pointer (some ⟨RX, 0, none⟩)) (.int .i64 i) v30 v31 v32 a ∧ x.heap[RX]? = some (.cells #[.string nm, .int .i64 pl, sv2, .int .i64 C.kind, .int .i64 C.op, .int .i64 C.aB, .int .i64 C.line, .string C.text, bv] TRt (0, 0)) ∧ Zax wn x (ns ++ List.replicate i ⟨#[]⟩) sv2 ∧ NmG wn x0 RX sv x sv2) n ⟨0, sv, by omega, HF0.o, HR.o, by simpa using HN.o, NmG.refl HL.o⟩ ?_;clear HF0 fr;rintro gk a wr ⟨i, sv2, hg, hf, hr, hnr, hng⟩ J K' hJ hK;obtain ⟨fr, rfl⟩ := hf.opn;obtain ⟨M, hM⟩ : ∃ z, z = ns ++ List.replicate i (⟨#[]⟩ : ByteArray) := ⟨_, rfl⟩;rw [← hM] at hnr;have HM := zh hM;clear hM;obtain ⟨Av, cv, rfl, -, -⟩ := hnr.form;have HRr := zh hr;have HNR := zh hnr;have HNG := zh hng;have HLr := zh ((hng.kp.same LB ⟨HG.o.2.1, HG.o.2.2.1⟩ (Za HLB.o)).trans HLB.o);clear hf hr hnr hng;have b0 := cz6 HLr.o;have fb0 := fz HLr.o;have r0 := cz9 HRr.o;have fr0 := fz HRr.o
 by_cases hlt : i < n
 ·have hlt' : (i : Int) < (n : Int) := by omega
  have hlen : M.length + 1 ≤ 2097152 := by rw [HM.o]; have := HNN.o; simp; omega
  obtain ⟨M2, hM2⟩ : ∃ z, z = M ++ [(⟨#[]⟩ : ByteArray)] := ⟨_, rfl⟩;have HM2 := zh hM2;clear hM2;have HX := zh (show Zb wr (wr.alloc (.cells #[.string ⟨#[]⟩] Zc3)) from (Zb.refl _).alloc _);have HNX := zh (HNR.o.later HX.o)
  go_wp2_with (at_builtin; go_loud (refine Zai (w0 := wn) rfl _ _ 24 rfl iS Tryz.underlying24 hiS hz0 hz1 hz2 rfl HNX.o (HNG.o.la.trans HX.o) rfl (Zd1 wr (by decide)) (by simpa using hlen) ?_; intro v2 Y hrow hgr; rw [← HM2.o] at hrow; obtain ⟨A2, c2, rfl, -, -⟩ := hrow.form; have HROW := zh hrow; have HGR := zh hgr; have hcy := hgr.box (HNG.o.ne HG.o.2.2.2 (Za HR.o)) ((HX.o.block _ (Za HRr.o)).trans HRr.o); have HCY := zh hcy; clear hrow hgr r0 fr0 b0 fb0; have r0 := cz9 hcy; have fr0 := fz hcy; clear hcy))
  have hi24 : i ≤ 24 := by have := HNN.o; omega
  refine Handed.intro (gk - 1) (by omega) (hJ _ _ _ ⟨i + 1, _, by omega, ?_, Z0 (o := 2) HCY.o _, ?_, (HNG.o.grow HX.o HGR.o fun b e => (HNR.o.own e).1).put HG.o.1 _ _⟩)
  ·exact FrU.mk' rfl rfl rfl rfl rfl rfl rfl rfl rfl (congrArg some (congrArg (Value.int .i64) (by rw [IntWalk.wrap64_in _ (by omega)]; rfl))) rfl rfl rfl
  ·rw [List.replicate_succ', ← List.append_assoc, ← HM.o, ← HM2.o];exact HROW.o.setNe _ _ _ ((HNG.o.grow HX.o HGR.o fun b e => (HNR.o.own e).1).ne HG.o.2.2.2 (Za HR.o))
 ·obtain rfl : i = n := by omega
  have hn : ¬ (i : Int) < (i : Int) := by omega
  go_wp2_with fail;exact ⟨FrU.mk' rfl rfl rfl rfl rfl rfl rfl rfl rfl rfl rfl rfl rfl, _, HRr.o, HM.o ▸ HNR.o, HNG.o⟩
theorem Zao (LB : Nat) (c : Ze) (A : Option Addr) (k : Nat) (kd : Int) (Ak : Option Addr) (nk qk : Nat) (w : World) : Calls Tryz.prog 107 #[.pointer (some ⟨LB, 0, none⟩), .agg #[.int .i64 c.kind, .string c.text, .int .i64 c.aB, .int .i64 c.line, .slice A c.kids.length k], .int .i64 kd, .slice Ak nk qk] w fun e w' => e = .returned (.agg #[.int .i64 kd, .int .i64 0, .int .i64 0, .int .i64 c.line, .string ⟨#[]⟩, .slice Ak nk qk]) ∧ Zb w w' := by
 go_enter Tryz.func107, Tryz.ntmps107;go_wp2_with fail;refine bodyPost_ret (v := (cK kd c.line []).val (.slice Ak nk qk)) (by simp [results, Tryz.results107, go_sem, Zf.val, cK, cO]) rfl ⟨rfl, ?_⟩;exact ((Zb.refl _).alloc _).alloc _
theorem Zck (LB : Nat) (c : Ze) (A : Option Addr) (k : Nat) (op : Int) (Ak : Option Addr) (nk qk : Nat) (w : World) : Calls Tryz.prog 110 #[.pointer (some ⟨LB, 0, none⟩), .agg #[.int .i64 c.kind, .string c.text, .int .i64 c.aB, .int .i64 c.line, .slice A c.kids.length k], .int .i64 op, .slice Ak nk qk] w fun e w' => e = .returned (.agg #[.int .i64 11, .int .i64 op, .int .i64 0, .int .i64 c.line, .string ⟨#[]⟩, .slice Ak nk qk]) ∧ Zb w w' := by
 go_enter Tryz.func110, Tryz.ntmps110;go_wp2_with fail;refine bodyPost_ret (v := (cO op c.line []).val (.slice Ak nk qk)) (by simp [results, Tryz.results110, go_sem, Zf.val, cK, cO]) rfl ⟨rfl, ?_⟩;exact ((Zb.refl _).alloc _).alloc _
theorem Zo6 {fn : Func} {t : Nat} {tmps : Array Value} {w : World} {RB : Nat} {C : Zf} {A : Option Addr} {n q : Nat} (hres : fn.results = #[.cell t Z7]) (ht : tmps.getD t undef = .pointer (some ⟨RB, 0, none⟩)) (hb : w.heap[RB]? = some (.cells (C.cells (.slice A n q)).toArray Z7 (0, 0))) : (results fn tmps).run Tryz.prog w = .ok (C.val (.slice A n q)) w := by
 unfold Zf.cells at hb;rw [Array.getD_eq_getD_getElem?] at ht;have r0 := cz6 hb;have fr0 := fz hb;simp [results, hres, ht, go_sem, Zf.val, r0]
theorem LoR.post {fn : Func} {t : Nat} {tmps : Array Value} {I : Nat → World → Prop} {LB RB j : Nat} {w x : World} {C : Zf} (hres : fn.results = #[.cell t Z7]) (ht : tmps.getD t undef = .pointer (some ⟨RB, 0, none⟩)) (h : LoR I LB RB w C j x) (hRB : w.heap.size ≤ RB) : bodyPost Tryz.prog fn (LoP I LB w C j) .ret ⟨tmps, []⟩ x := by
 obtain ⟨A', q', hb, hcv⟩ := h.o;exact bodyPost_ret (Zo6 hres ht hb) rfl ⟨⟨_, rfl, hcv⟩, h.tn.mono fun b hb hp => by rcases hp with e | e; exact e; omega, h.st⟩
def Zd6 (n : Nat) : Prop := ∀ (E : Zaz) (LB cs : Nat) (w : World) (c : Ze) (A : Option Addr) (k : Nat), LwI E LB cs w → EV n E.F w c A k → LoC E n c cs → Calls Tryz.prog 59 #[.pointer (some ⟨LB, 0, none⟩), .agg #[.int .i64 c.kind, .string c.text, .int .i64 c.aB, .int .i64 c.line, .slice A c.kids.length k]] w (LoP (LwI E LB) LB w (low E.u E.L (n + 1) c ((E.L.length + cs : Nat) : Int)) (cs + csX c))
theorem Zb6 (n : Nat) (IH : ∀ m, n = m + 1 → Zd6 m) (E : Zaz) (LB cs : Nat) (w : World) (c : Ze) (A : Option Addr) (k : Nat) (m : Int) (hm : m = ((E.L.length + cs : Nat) : Int)) (hw : LwI E LB (cs + Zbu c.kind) w) (hv : EV n E.F w c A k) (hc : LoC E n c cs) : Calls Tryz.prog 111 #[.pointer (some ⟨LB, 0, none⟩), .slice A c.kids.length k] w (LkP (LwI E LB) LB w (Zch E.u E.L n c m c.kids.length) (cs + csX c)) := by
 obtain ⟨iS, hiS, hz0, hz1, hz2⟩ := info_parts Zjn;have HV := zh hv;have HM := zh hm;have HLC := zh hc;have HW := zh hw;have hks1 := hv.len;clear hv hm hc hw;go_enter Tryz.func111, Tryz.ntmps111;go_wp2_with fail
 go_loopw [5, 7, 11] (fun ov _ iv wr => ∃ j : Nat, j ≤ c.kids.length ∧ iv = .int .i64 j ∧ Zz Zbe 6 Z7 (fun y => w.heap.size ≤ y) wr (Zch E.u E.L n c m j) ov ∧ Tn (fun b => b = LB) w wr ∧ LwI E LB (cs + Zbu c.kind + Za3 (c.kids.take j)) wr) (fun _ _ iv _ => c.kids.length - (intOf iv).toNat)
 case atStart =>
  refine ⟨0, Nat.zero_le _, rfl, ?_, Tn.later ((Zb.refl _).alloc _), ?_⟩
  ·exact ⟨_, _, rfl, Nat.le_refl _, Nat.zero_le _, fun h => by simp at h⟩
  ·simpa [Za3] using HW.o.later ((Zb.refl _).alloc _)
 case round =>
  obtain ⟨j, hj, rfl, hrow, htn, hst⟩ := hrel;have HTN := zh htn;have HST := zh hst;have hrow := hrow.trim Zs;have HROW := zh hrow;obtain ⟨Ao, co, rfl, -⟩ := id hrow;have HKL := zh (Zdj E.u E.L n c m j);clear htn hst hrow
  by_cases hlt : j < c.kids.length
  ·have hlt' : (j : Int) < (c.kids.length : Int) := by omega
   obtain ⟨n', rfl⟩ := HV.o.lev hlt;obtain ⟨kb, ko, Bk, q, eA, hca⟩ := (HV.o.keep (fun _ h => h) (HTN.o.keeps HST.o.nF)).kid hlt;cases eA;have hlc := HLC.o.kid hlt;have hsn := Zcy c.kids j hlt;obtain ⟨x, hx⟩ : ∃ z, z = c.kids[j] := ⟨_, rfl⟩;rw [← hx] at hca hlc hsn;have HX := zh hx;have HCA := zh hca;have HLX := zh hlc;have HSN := zh hsn;have d0 := hca.c0;have d1 := hca.c1;have d2 := hca.c2;have d3 := hca.c3;have d4 := hca.c4;clear hca hx hlc hsn;have hX : Zb wr (wr.alloc (.cells #[.int .i64 x.kind, .string x.text, .int .i64 x.aB, .int .i64 x.line, .slice Bk x.kids.length q] 104)) := (Zb.refl _).alloc _;have HX1 := zh hX;have HXS := zh hX.size;clear hX;obtain ⟨M, hM⟩ : ∃ z, z = Zch E.u E.L (n' + 1) c m j := ⟨_, rfl⟩;rw [← hM] at HROW HKL;rw [← hM];have HMM := zh hM;clear hM;go_wp2_with fail;refine (IH n' rfl E LB _ _ x Bk q (HST.o.later HX1.o) (HCA.o.ev.later HX1.o) HLX.o).mono ?_;rintro e w2 hp;obtain ⟨v, rfl, hcv⟩ := hp.o;obtain ⟨Av, qv, rfl, -, -⟩ := hcv.form;have HT2 := zh (Tn.tr (Tn.tr HTN.o (Tn.later HX1.o)) hp.tn);have HS2 := zh hp.st;have HTX := zh (Tn.tr (Tn.later (P := fun b => b = LB) HX1.o) hp.tn);obtain ⟨C, hC⟩ : ∃ z, z = low E.u E.L (n' + 1) x ((E.L.length + (cs + Zbu c.kind + Za3 (c.kids.take j)) : Nat) : Int) := ⟨_, rfl⟩;rw [← hC] at hcv;rw [← hC];have HCC := zh hC;have HCV := zh hcv;unfold Zf.val;clear hp hcv hC d0 d1 d2 d3 d4;have hX2 : Zb w2 (w2.alloc (.cells (C.cells (.slice Av C.kids.length qv)).toArray Z7)) := (Zb.refl _).alloc _
   have HX2 := zh hX2;have HROW2 := zh ((HROW.o.keep Zs.is (fun _ h => h) (HTX.o.keeps fun b hb => by have := hb.1; have := Za HW.o.blk; omega)).later Zs.is hX2);have HEL := zh (HCV.o.later hX2).cor;have HNO := zh (show ∀ y, (wr.alloc (.cells #[.int .i64 x.kind, .string x.text, .int .i64 x.aB, .int .i64 x.line, .slice Bk x.kids.length q] 104)).heap.size ≤ y → ¬ (w.heap.size ≤ y ∧ y < wr.heap.size) from fun y h1 h2 => by have := HXS.o; omega);clear hX2;have hml : M.length ≤ 134217728 := by have := HKL.o; have := HLC.o.len; omega
   go_wp2_with (at_builtin; refine Za4 Zs rfl _ _ 66 rfl Z7 iS (.agg #[.int .i64 0, .int .i64 0, .int .i64 0, .int .i64 0, .string ⟨#[]⟩, .slice none 0 0]) 72 Tryz.underlying66 hiS hz0 hz1 hz2 rfl rfl HROW2.o ⟨w2.heap.size, 0, none⟩ 1 rfl C (C.cells (.slice Av C.kids.length qv)) (Zg5 w2 _ Z7) (C.one _ _ _) HEL.o HNO.o hml (by decide) ?_; intro v2 Y hrow hkp hb0; have HRW := zh hrow; have HKP := zh (Tn.mk (P := fun y => w.heap.size ≤ y ∧ y < wr.heap.size) hkp hb0); clear hrow hkp hb0)
   go_roundw
   case rel =>
    have hlt3 := Za HW.o.blk;refine ⟨j + 1, by omega, by go_num, ?_, ?_, ?_⟩
    ·rw [Zjj, Zcr hlt, ← HX.o, ← HMM.o];have e : low E.u E.L (n' + 1) x (Zji c m j) = C := by rw [HCC.o]; unfold Zji; rw [HM.o]; congr 1; push_cast; omega
     rw [e];have q1 := HTN.o.size; have q2 := HXS.o; have q3 := HT2.o.size; have q4 := HX2.o.size;exact HRW.o.keep Zs.is (fun y hy => by
      rcases hy with h | h | h
      ·exact h.1
      ·exact Nat.le_trans (Nat.le_trans q1 q2) h
      ·exact Nat.le_trans (Nat.le_trans q3 q4) (Nat.le_of_eq h.symm)) (Zc.refl _ _)
    ·exact (Tn.tr HT2.o (Tn.later HX2.o)).trans HKP.o (fun _ h => h) (fun b hb hq => by omega)
    ·have h := (HS2.o.later HX2.o).keep HKP.o (fun b hb => ⟨by omega, fun hF => by have := HW.o.un.flt b hF; omega, fun e => by have := World.block_lt_of_cell? w _ (HW.o.sp.cell Zfh 0 (by decide +kernel)); omega⟩);rw [HSN.o];exact (show cs + Zbu c.kind + Za3 (c.kids.take j) + csX x = cs + Zbu c.kind + (Za3 (c.kids.take j) + csX x) by omega) ▸ h
   case measure => simp [intOf]; omega
  ·obtain rfl : j = c.kids.length := by omega
   go_wp2_with fail;go_ret;exact ⟨⟨_, rfl, HROW.o.keep Zs.is (fun y hy => hy.1) (Zc.refl _ _)⟩, HTN.o, by have h := HST.o; rw [List.take_length] at h; rw [Zg3]; exact (show cs + Zbu c.kind + Za3 c.kids = cs + (Za3 c.kids + Zbu c.kind) by omega) ▸ h⟩
theorem Zc1 (n : Nat) (IH : ∀ m, n = m + 1 → Zd6 m) (E : Zaz) (LB cs : Nat) (w : World) (c : Ze) (A : Option Addr) (k : Nat) (m : Int) (hm : m = ((E.L.length + cs : Nat) : Int)) (i : Nat) (hi : i < 24) (hw : LwI E LB (cs + Zbu c.kind + Za3 (c.kids.take i)) w) (hv : EV n E.F w c A k) (hc : LoC E n c cs) : Calls Tryz.prog 114 #[.pointer (some ⟨LB, 0, none⟩), .agg #[.int .i64 c.kind, .string c.text, .int .i64 c.aB, .int .i64 c.line, .slice A c.kids.length k], .int .i64 i] w (LoP (LwI E LB) LB w (kdC (Zch E.u E.L n c m c.kids.length) c.line i) (cs + Zbu c.kind + Za3 (c.kids.take (i + 1)))) := by
 have HLC := zh hc;have HM := zh hm;have HC64 := zh hv.n2;clear hc hm;have hks1 := hv.len;have HV := zh hv;have HW := zh hw;obtain ⟨wa, hla, heb, hwa⟩ := aN w (.cells #[.int .i64 c.kind, .string c.text, .int .i64 c.aB, .int .i64 c.line, .slice A c.kids.length k] 104);have hlb : Zb wa (wa.alloc (.cells #[.int .i64 0, .int .i64 0, .int .i64 0, .int .i64 0, .string ⟨#[]⟩, .slice none 0 0] Z7)) := (Zb.refl _).alloc _;have hrb := heap_alloc_new wa (.cells #[.int .i64 0, .int .i64 0, .int .i64 0, .int .i64 0, .string ⟨#[]⟩, .slice none 0 0] Z7);have heb2 := (hlb.block _ (Za heb)).trans heb;obtain ⟨wb, hwb⟩ : ∃ z, wa.alloc (.cells #[.int .i64 0, .int .i64 0, .int .i64 0, .int .i64 0, .string ⟨#[]⟩, .slice none 0 0] Z7) = z := ⟨_, rfl⟩;rw [hwb] at hlb hrb heb2;have HLb := zh (Zb.trans hla hlb);have hsz : w.heap.size ≤ wa.heap.size := hla.size;have hne : w.heap.size ≠ wa.heap.size := fun e => by have := Za heb; omega
 obtain ⟨EB, hEB⟩ : ∃ z, w.heap.size = z := ⟨_, rfl⟩;obtain ⟨RB, hRB⟩ : ∃ z, wa.heap.size = z := ⟨_, rfl⟩;have HGE := zh (show w.heap.size ≤ EB ∧ w.heap.size ≤ RB ∧ EB ≠ RB from ⟨by omega, by omega, by omega⟩);rw [hEB] at heb2;rw [hRB] at hrb;have HEB := zh heb2;have HRB := zh hrb;have HSTART := zh (⟨hwa, hwb, hEB, hRB⟩ : _ ∧ _ ∧ _ ∧ _);clear hla hlb heb hrb heb2 hv hw hsz hne hwa hwb hEB hRB;obtain ⟨c0, c1, c2, c3, c4⟩ := Z1 HEB.o;have fc0 := fz HEB.o;have r0 := cz6 HRB.o;have fr0 := fz HRB.o
 by_cases hlt : i < c.kids.length
 ·have hlt' : (i : Int) < (c.kids.length : Int) := by omega
  rw [Zgi (show i < (Zch E.u E.L n c m c.kids.length).length by rw [Zdj]; exact hlt), show (Zch E.u E.L n c m c.kids.length)[i]'(by rw [Zdj]; exact hlt) = low E.u E.L n (c.kid i) (Zji c m i) by simp [Zch], Zcy c.kids i hlt, Zcr hlt];obtain ⟨n', rfl⟩ := HV.o.lev hlt;obtain ⟨kb, ko, Bk, q, eA, hca⟩ := (HV.o.later HLb.o).kid hlt;cases eA;have hlc := HLC.o.kid hlt;have hsn := Zcy c.kids i hlt;obtain ⟨x, hx⟩ : ∃ z, z = c.kids[i] := ⟨_, rfl⟩;rw [← hx] at hca hlc hsn;have HX := zh hx;have HCA := zh hca;have HLX := zh hlc;have HSN := zh hsn;have d0 := hca.c0;have d1 := hca.c1;have d2 := hca.c2;have d3 := hca.c3;have d4 := hca.c4;clear hca hx hlc hsn;rw [← HX.o];obtain ⟨C, hC⟩ : ∃ z, z = low E.u E.L (n' + 1) x (Zji c m i) := ⟨_, rfl⟩;rw [← hC];have HCC := zh hC;clear hC;go_enter Tryz.func114, Tryz.ntmps114;obtain ⟨hwa, hwb, hEB, hRB⟩ := HSTART.o;go_upto_region 1 with (fail);clear hwa hwb hEB hRB;go_wp2_with fail;refine (IH n' rfl E LB _ _ x Bk q (HW.o.later HLb.o) HCA.o.ev HLX.o).mono ?_;rintro e w2 hp;obtain ⟨v, rfl, hcv⟩ := hp.o;obtain ⟨Av, qv, rfl, -, -⟩ := hcv.form;have e : low E.u E.L (n' + 1) x ((E.L.length + (cs + Zbu c.kind + Za3 (c.kids.take i)) : Nat) : Int) = low E.u E.L (n' + 1) x (Zji c m i) := by unfold Zji; rw [HM.o]; congr 1; push_cast; omega
  rw [e, ← HCC.o] at hcv ⊢;have HT2 := zh hp.tn;have HS2 := zh hp.st;have HCV := zh hcv;have HRB2 := zh (hp.tn.has HRB.o (fun e => by have := Za HW.o.blk; have := HGE.o; omega));unfold Zf.val;clear e hp hcv c0 fc0 c1 c2 c3 c4 d0 d1 d2 d3 d4 r0 fr0;have r0 := cz6 HRB2.o;have fr0 := fz HRB2.o;go_wp2_with fail;exact LoR.post Tryz.results114 (by rfl) (LoR.put (LwI.put (Nat.add_assoc _ _ _ ▸ HS2.o) HW.o HGE.o.2.1) HRB2.o rfl HCV.o (fun b hb => by have := Za HRB.o; have := HLb.o.size; omega) ((Tn.later HLb.o).trans HT2.o (fun _ h => h) (fun _ _ h => .inl h))) HGE.o.2.1
 ·have et : c.kids.take (i + 1) = c.kids.take i := by rw [List.take_of_length_le (by omega), List.take_of_length_le (by omega)]
  rw [Znd (show ¬ i < (Zch E.u E.L n c m c.kids.length).length by rw [Zdj]; exact hlt), et];clear et;go_enter Tryz.func114, Tryz.ntmps114;obtain ⟨hwa, hwb, hEB, hRB⟩ := HSTART.o;go_upto_region 1 with (fail);clear hwa hwb hEB hRB;go_wp2_with fail;exact LoR.post Tryz.results114 (by rfl) (LoR.put (C := cN 4 c.line) (LwI.put (HW.o.later HLb.o) HW.o HGE.o.2.1) HRB.o rfl (CV.cn (fun _ => False) _ (by decide) (by decide) HC64.o) (fun b hb => hb.elim) (Tn.later HLb.o)) HGE.o.2.1
section
def FrH (LB EB RB SB TB kb nk qk : Nat) (X : Int) (a : Act) : Prop := Fr 89 [(0, .pointer (some ⟨LB, 0, none⟩)), (3, .pointer (some ⟨EB, 0, none⟩)), (4, .pointer (some ⟨RB, 0, none⟩)), (5, .pointer (some ⟨SB, 0, none⟩)), (6, .slice (some ⟨kb, 0, none⟩) nk qk), (7, .pointer (some ⟨TB, 0, none⟩)), (9, .int .i64 X)] a
section
variable {LB EB RB SB TB kb nk qk : Nat} {X : Int} {a : Act}
theorem FrH.opn (h : FrH LB EB RB SB TB kb nk qk X a) : ∃ f : Nat → Value, a = ⟨#[.pointer (some ⟨LB, 0, none⟩), f 1, f 2, .pointer (some ⟨EB, 0, none⟩), .pointer (some ⟨RB, 0, none⟩), .pointer (some ⟨SB, 0, none⟩), .slice (some ⟨kb, 0, none⟩) nk qk, .pointer (some ⟨TB, 0, none⟩), f 8, .int .i64 X, f 10, f 11, f 12, f 13, f 14, f 15, f 16, f 17, f 18, f 19, f 20, f 21, f 22, f 23, f 24, f 25, f 26, f 27, f 28, f 29, f 30, f 31, f 32, f 33, f 34, f 35, f 36, f 37, f 38, f 39, f 40, f 41, f 42, f 43, f 44, f 45, f 46, f 47, f 48, f 49, f 50, f 51, f 52, f 53, f 54, f 55, f 56, f 57, f 58, f 59, f 60, f 61, f 62, f 63, f 64, f 65, f 66, f 67, f 68, f 69, f 70, f 71, f 72, f 73, f 74, f 75, f 76, f 77, f 78, f 79, f 80, f 81, f 82, f 83, f 84, f 85, f 86, f 87, f 88], []⟩ := by
 obtain ⟨f, e, hf⟩ := Fr.lit h;obtain ⟨h0, h3, h4, h5, h6, h7, h9, -⟩ := h.has;refine ⟨f, e.trans ?_⟩;have k0 := Zi h0 (hf 0 (by omega));have k3 := Zi h3 (hf 3 (by omega));have k4 := Zi h4 (hf 4 (by omega));have k5 := Zi h5 (hf 5 (by omega));have k6 := Zi h6 (hf 6 (by omega));have k7 := Zi h7 (hf 7 (by omega));have k9 := Zi h9 (hf 9 (by omega));rw [← k0];rw [← k3];rw [← k4];rw [← k5];rw [← k6];rw [← k7];rw [← k9]
 rfl
theorem FrH.mk' {A : Array Value} (hs : A.size = 89) (h0 : A[0]? = some (.pointer (some ⟨LB, 0, none⟩))) (h3 : A[3]? = some (.pointer (some ⟨EB, 0, none⟩))) (h4 : A[4]? = some (.pointer (some ⟨RB, 0, none⟩))) (h5 : A[5]? = some (.pointer (some ⟨SB, 0, none⟩))) (h6 : A[6]? = some (.slice (some ⟨kb, 0, none⟩) nk qk)) (h7 : A[7]? = some (.pointer (some ⟨TB, 0, none⟩))) (h9 : A[9]? = some (.int .i64 X)) : FrH LB EB RB SB TB kb nk qk X ⟨A, []⟩ := ⟨hs, rfl, h0, h3, h4, h5, h6, h7, h9, trivial⟩
end
def Zsl (RB : Nat) (a : Act) : Prop := Fr 89 [(4, .pointer (some ⟨RB, 0, none⟩))] a
section
variable {RB : Nat} {a : Act}
theorem Zsl.opn (h : Zsl RB a) : ∃ f : Nat → Value, a = ⟨#[f 0, f 1, f 2, f 3, .pointer (some ⟨RB, 0, none⟩), f 5, f 6, f 7, f 8, f 9, f 10, f 11, f 12, f 13, f 14, f 15, f 16, f 17, f 18, f 19, f 20, f 21, f 22, f 23, f 24, f 25, f 26, f 27, f 28, f 29, f 30, f 31, f 32, f 33, f 34, f 35, f 36, f 37, f 38, f 39, f 40, f 41, f 42, f 43, f 44, f 45, f 46, f 47, f 48, f 49, f 50, f 51, f 52, f 53, f 54, f 55, f 56, f 57, f 58, f 59, f 60, f 61, f 62, f 63, f 64, f 65, f 66, f 67, f 68, f 69, f 70, f 71, f 72, f 73, f 74, f 75, f 76, f 77, f 78, f 79, f 80, f 81, f 82, f 83, f 84, f 85, f 86, f 87, f 88], []⟩ := by
 obtain ⟨f, e, hf⟩ := Fr.lit h;obtain ⟨h4, -⟩ := h.has;refine ⟨f, e.trans ?_⟩;have k4 := Zi h4 (hf 4 (by omega));rw [← k4]
 rfl
theorem Zsl.mk' {A : Array Value} (hs : A.size = 89) (h4 : A[4]? = some (.pointer (some ⟨RB, 0, none⟩))) : Zsl RB ⟨A, []⟩ := ⟨hs, rfl, h4, trivial⟩
end
noncomputable def chLp : Code := cR (cL (cR (cR (cR (cR (cR (cR (cR (Zal Tryz.f115)))))))))
noncomputable def chFi : Code := cL (cR (cR (cR (cR (cR (cR (cR (cR (Zal Tryz.f115)))))))))
structure ChB (E : Zaz) (LB cs : Nat) (c : Ze) (A : Option Addr) (k : Nat) (m : Int) (K : List Zf) (kb : Nat) (cur : Array Value) (tag : Nat → Nat) (F : Nat → Prop) (EB RB SB B0 : Nat) (w x : World) : Prop where
 eb : x.heap[EB]? = some (.cells #[.int .i64 c.kind, .string c.text, .int .i64 c.aB, .int .i64 c.line, .slice A c.kids.length k] 104 (0, 0))
 rb : x.heap[RB]? = some (.cells #[.int .i64 0, .int .i64 0, .int .i64 0, .int .i64 0, .string ⟨#[]⟩, .slice none 0 0] Z7 (0, 0))
 sb : x.heap[SB]? = some (.cells #[.int .i64 5, .int .i64 0, .int .i64 m, .int .i64 c.line, .string ⟨#[]⟩, .slice none 0 0] Z7 (0, 0))
 kr : x.heap[kb]? = some (.cells cur Z7 (0, 0))
 kd : ∀ i (h : i < K.length), ∃ v, CV (fun y => (F y ∧ y ≠ kb) ∧ tag y = i) x K[i] v ∧ ∀ j u, (K[i].cells v)[j]? = some u → cur[i * 6 + j]? = some u
 st : LwI E LB cs x
 lt : EB < B0 ∧ RB < B0 ∧ SB < B0 ∧ kb < B0 ∧ w.heap.size ≤ B0
 fl : ∀ y, F y → w.heap.size ≤ y ∧ y ≠ RB ∧ y < B0
 ge : w.heap.size ≤ RB
 bs : ∃ i, LwI E LB i w
theorem ChB.keep {E : Zaz} {LB cs : Nat} {c : Ze} {A : Option Addr} {k : Nat} {m : Int} {K : List Zf} {kb : Nat} {cur : Array Value} {tag : Nat → Nat} {F : Nat → Prop} {EB RB SB B0 : Nat} {w x y : World} {P : Nat → Prop} (h : ChB E LB cs c A k m K kb cur tag F EB RB SB B0 w x) (hk : Tn P x y) (hP : ∀ b, P b → B0 ≤ b) : ChB E LB cs c A k m K kb cur tag F EB RB SB B0 w y := by
 obtain ⟨i, hi⟩ := h.bs;have hl := h.lt;have h0 := Za hi.blk;have hg := World.block_lt_of_cell? w _ (hi.sp.cell Zfh 0 (by decide +kernel));exact ⟨hk.has h.eb fun hp => by have := hP _ hp; omega, hk.has h.rb fun hp => by have := hP _ hp; omega, hk.has h.sb fun hp => by have := hP _ hp; omega, hk.has h.kr fun hp => by have := hP _ hp; omega, fun i hi => by
  obtain ⟨v, hv, hc⟩ := h.kd i hi;exact ⟨v, hv.keep (fun _ h => h) (hk.keeps fun b hb hp => by have := hP _ hp; have := (h.fl b hb.1.1).2.2; omega), hc⟩, h.st.keep hk fun b hb => ⟨by have := hP _ hb; omega, fun hF => by have := hi.un.flt b hF; have := hP _ hb; omega, fun e => by have := hP _ hb; omega⟩, h.lt, h.fl, h.ge, h.bs⟩
structure ChT (kb : Nat) (tag : Nat → Nat) (F : Nat → Prop) (TB lo : Nat) (x : World) (C : Zf) : Prop where
 o : ∃ A q, x.heap[TB]? = some (.cells (C.cells (.slice A C.kids.length q)).toArray Z7 (0, 0)) ∧ CV (fun y => ((F y ∧ y ≠ kb) ∧ lo ≤ tag y) ∨ TB < y) x C (.slice A C.kids.length q)
theorem Zbl {x : World} {b : Nat} {cur : Array Value} {C : Zf} {v : Value} {i : Nat} (h : x.heap[b]? = some (.cells cur Z7 (0, 0))) (hc : ∀ j u, (C.cells v)[j]? = some u → cur[i * 6 + j]? = some u) : x.cell? ⟨b, i * 6, none⟩ = some (.int .i64 C.kind) ∧ x.cell? ⟨b, i * 6 + 1, none⟩ = some (.int .i64 C.op) ∧ x.cell? ⟨b, i * 6 + 2, none⟩ = some (.int .i64 C.aB) ∧ x.cell? ⟨b, i * 6 + 3, none⟩ = some (.int .i64 C.line) ∧ x.cell? ⟨b, i * 6 + 4, none⟩ = some (.string C.text) ∧ x.cell? ⟨b, i * 6 + 5, none⟩ = some v :=
 ⟨(cell_of_row _ _ _ _ _ _ h).trans (hc 0 _ rfl), (cell_of_row _ _ _ _ _ _ h).trans (hc 1 _ rfl), (cell_of_row _ _ _ _ _ _ h).trans (hc 2 _ rfl), (cell_of_row _ _ _ _ _ _ h).trans (hc 3 _ rfl), (cell_of_row _ _ _ _ _ _ h).trans (hc 4 _ rfl), (cell_of_row _ _ _ _ _ _ h).trans (hc 5 _ rfl)⟩
end
theorem Zo7 {a : Act} (E : Zaz) (LB cs : Nat) (c : Ze) (A : Option Addr) (k : Nat) (m : Int) (K : List Zf) (kb : Nat) (cur : Array Value) (tag : Nat → Nat) (F : Nat → Prop) (EB RB SB B0 : Nat) (qk p : Nat) (rest : Zf) (TB : Nat) (w w5 : World) (HB : Hd (ChB E LB cs c A k m K kb cur tag F EB RB SB B0 w w5)) (HTB : Hd (B0 ≤ TB)) (HP : Hd (2 * p + 1 ≤ K.length ∧ p ≤ 100)) (HM : Hd (Zy m ∧ Zy c.line)) (HT : Hd (ChT kb tag F TB (2 * p + 1) w5 rest)) (HF : Hd (FrH LB EB RB SB TB kb K.length qk (2 * (p : Int) - 1) a)) :
  chLp.wp Tryz.prog (Zc0 fun a' x => (∃ X, FrH LB EB RB SB TB kb K.length qk X a') ∧ ChT kb tag F TB 1 x (chR (cM 5 m c.line) c.line K p rest p) ∧ Tn (fun b => b = TB) w5 x) a w5 := by
 have HF0 := HF;obtain ⟨fr, rfl⟩ := HF.o.opn;clear HF
 conv => arg 2; whnf
 go_wp2_with fail;refine wp_loop_ghost_k (fun g a x => ∃ (j : Nat) (X : Int), g + j = p ∧ X = 2 * ((p - j : Nat) : Int) - 1 ∧ FrH LB EB RB SB TB kb K.length qk X a ∧ ChT kb tag F TB (2 * (p - j) + 1) x (chR (cM 5 m c.line) c.line K p rest j) ∧ Tn (fun b => b = TB) w5 x) p ⟨0, _, by omega, rfl, HF0.o, HT.o, Tn.refl _ _⟩ ?_;clear HF0 fr HT;rintro gk a wr ⟨j, X, hg, hX, hf, hct, htn⟩ J K' hJ hK;obtain ⟨fr, rfl⟩ := hf.opn;have HTN := zh htn;have HB5 := HB;have HB := zh (HB5.o.keep htn (fun b hb => by rw [hb]; exact HTB.o));clear hf htn HB5
 by_cases hlt : j < p
 ·have HPJ := zh (show j < p from hlt);obtain ⟨i, hi⟩ : ∃ i : Nat, i = 2 * (p - j) - 1 := ⟨_, rfl⟩;have hkl := HP.o;obtain rfl : X = ((i : Nat) : Int) := by rw [hX]; omega
  have HI := zh hi;have hib : i + 1 < K.length := by omega
  have hi1 : (1 : Int) ≤ (i : Int) := by omega
  have hik : (i : Int) < (K.length : Int) := by omega
  have hik1 : ((i + 1 : Nat) : Int) < (K.length : Int) := by omega
  have ta : IntKind.i64.wrap ((i : Int) + 1) = ((i + 1 : Nat) : Int) := by rw [IntWalk.i64_in _ (by omega)]; rfl
  have tb : wrap64 ((i : Int) - 2) = (i : Int) - 2 := IntWalk.wrap64_in _ (by omega);have HTAB := zh (⟨ta, tb⟩ : _ ∧ _);clear hX hi ta tb hkl;obtain ⟨v, hv, hcv⟩ := HB.o.kd i (by omega);obtain ⟨Av, qv, rfl, -, -⟩ := hv.form;obtain ⟨D0, hD0⟩ : ∃ z, z = K[i]'(by omega) := ⟨_, rfl⟩;rw [← hD0] at hv hcv;have HD0 := zh hD0;have HVD0 := zh hv;have HCD0 := zh hcv;clear hv hcv hD0;obtain ⟨u, hu, hcu⟩ := HB.o.kd (i + 1) (by omega);obtain ⟨Au, qu, rfl, -, -⟩ := hu.form;obtain ⟨D1, hD1⟩ : ∃ z, z = K[(i + 1)]'(by omega) := ⟨_, rfl⟩;rw [← hD1] at hu hcu;have HD1 := zh hD1;have HVD1 := zh hu;have HCD1 := zh hcu;clear hu hcu hD1;obtain ⟨AT, qT, htb, hTC⟩ := hct.o;obtain ⟨C, hC⟩ : ∃ z, z = chR (cM 5 m c.line) c.line K p rest j := ⟨_, rfl⟩;rw [← hC] at htb hTC;have HC := zh hC;have HTB5 := zh htb;have HTC := zh hTC;clear htb hTC hC hct;go_upto_region 12 with (fail);refine Zx [18, 19] [] (by kernel_rfl) (fun W hW => ?_);have hlW : Zb wr W := by rw [hW]; exact (Zb.refl _).drew
  have HLW := zh hlW;have HBW := zh (HB.o.keep (Tn.later (P := fun _ => False) hlW) (fun _ h => h.elim));have HEW := zh HBW.o.eb;have HSW := zh HBW.o.sb;have HKW := zh HBW.o.kr;have HTW := yC hlW HTB5;have ta := HTAB.o.1;clear hlW hW;refine uU 0 54 ?_;simp only [yN];refine uU 1 55 (hy := fun x hx => by have hxe := (hx.block _ (Za HEW.o)).trans HEW.o; have hxs := (hx.block _ (Za HSW.o)).trans HSW.o; have hxk := (hx.block _ (Za HKW.o)).trans HKW.o; have hxt := (hx.block _ (Za HTW.o)).trans HTW.o; unfold Zf.cells at hxt; obtain ⟨c0, c1, c2, c3, c4⟩ := Z1 hxe; have fc0 := fz hxe; have s0 := cz6 hxs; have fs0 := fz hxs; have t0 := cz6 hxt; have ft0 := fz hxt; obtain ⟨q0, q1, q2, q3, q4, q5⟩ := Zbl hxk HCD0.o; obtain ⟨p0, p1, p2, p3, p4, p5⟩ := Zbl hxk HCD1.o; go_simp <;> with_reducible rfl) ?_;simp only [yN];refine uU 2 56 ?_;simp only [yN];refine uU 3 57 (hy := fun x hx => by have hxe := (hx.block _ (Za HEW.o)).trans HEW.o; have hxs := (hx.block _ (Za HSW.o)).trans HSW.o; have hxk := (hx.block _ (Za HKW.o)).trans HKW.o; have hxt := (hx.block _ (Za HTW.o)).trans HTW.o; unfold Zf.cells at hxt; obtain ⟨c0, c1, c2, c3, c4⟩ := Z1 hxe; have fc0 := fz hxe; have s0 := cz6 hxs; have fs0 := fz hxs; have t0 := cz6 hxt; have ft0 := fz hxt; obtain ⟨q0, q1, q2, q3, q4, q5⟩ := Zbl hxk HCD0.o; obtain ⟨p0, p1, p2, p3, p4, p5⟩ := Zbl hxk HCD1.o; go_simp <;> with_reducible rfl) ?_
  simp only [yN];refine uU 4 58 (hy := fun x hx => by have hxe := (hx.block _ (Za HEW.o)).trans HEW.o; have hxs := (hx.block _ (Za HSW.o)).trans HSW.o; have hxk := (hx.block _ (Za HKW.o)).trans HKW.o; have hxt := (hx.block _ (Za HTW.o)).trans HTW.o; unfold Zf.cells at hxt; obtain ⟨c0, c1, c2, c3, c4⟩ := Z1 hxe; have fc0 := fz hxe; have s0 := cz6 hxs; have fs0 := fz hxs; have t0 := cz6 hxt; have ft0 := fz hxt; obtain ⟨q0, q1, q2, q3, q4, q5⟩ := Zbl hxk HCD0.o; obtain ⟨p0, p1, p2, p3, p4, p5⟩ := Zbl hxk HCD1.o; go_simp <;> with_reducible rfl) ?_;simp only [yN];refine uU 5 59 ?_;simp only [yN];refine uU 6 60 ?_;simp only [yN];refine uU 7 61 ?_;simp only [yN];refine uU 8 62 (hy := fun x hx => by have hxe := (hx.block _ (Za HEW.o)).trans HEW.o; have hxs := (hx.block _ (Za HSW.o)).trans HSW.o; have hxk := (hx.block _ (Za HKW.o)).trans HKW.o; have hxt := (hx.block _ (Za HTW.o)).trans HTW.o; unfold Zf.cells at hxt; obtain ⟨c0, c1, c2, c3, c4⟩ := Z1 hxe; have fc0 := fz hxe; have s0 := cz6 hxs; have fs0 := fz hxs; have t0 := cz6 hxt; have ft0 := fz hxt; obtain ⟨q0, q1, q2, q3, q4, q5⟩ := Zbl hxk HCD0.o; obtain ⟨p0, p1, p2, p3, p4, p5⟩ := Zbl hxk HCD1.o; go_simp <;> with_reducible rfl) ?_;simp only [yN];refine uU 11 65 ?_;simp only [yN];refine uU 12 66 ?_;simp only [yN];refine uU 13 67 ?_;simp only [yN];refine uU 14 68 ?_
  simp only [yN];refine uU 15 69 (hy := fun x hx => by have hxe := (hx.block _ (Za HEW.o)).trans HEW.o; have hxs := (hx.block _ (Za HSW.o)).trans HSW.o; have hxk := (hx.block _ (Za HKW.o)).trans HKW.o; have hxt := (hx.block _ (Za HTW.o)).trans HTW.o; unfold Zf.cells at hxt; obtain ⟨c0, c1, c2, c3, c4⟩ := Z1 hxe; have fc0 := fz hxe; have s0 := cz6 hxs; have fs0 := fz hxs; have t0 := cz6 hxt; have ft0 := fz hxt; obtain ⟨q0, q1, q2, q3, q4, q5⟩ := Zbl hxk HCD0.o; obtain ⟨p0, p1, p2, p3, p4, p5⟩ := Zbl hxk HCD1.o; go_simp <;> with_reducible rfl) ?_;simp only [yN];refine uU 16 70 (hy := fun x hx => by have hxe := (hx.block _ (Za HEW.o)).trans HEW.o; have hxs := (hx.block _ (Za HSW.o)).trans HSW.o; have hxk := (hx.block _ (Za HKW.o)).trans HKW.o; have hxt := (hx.block _ (Za HTW.o)).trans HTW.o; unfold Zf.cells at hxt; obtain ⟨c0, c1, c2, c3, c4⟩ := Z1 hxe; have fc0 := fz hxe; have s0 := cz6 hxs; have fs0 := fz hxs; have t0 := cz6 hxt; have ft0 := fz hxt; obtain ⟨q0, q1, q2, q3, q4, q5⟩ := Zbl hxk HCD0.o; obtain ⟨p0, p1, p2, p3, p4, p5⟩ := Zbl hxk HCD1.o; go_simp <;> with_reducible rfl) ?_;simp only [yN];refine Z5 9 (by kernel_rfl) rfl rfl ?_;go_wp2_with fail;have hl : Zb W (W.alloc (.cells #[.int .i64 5, .int .i64 0, .int .i64 m, .int .i64 c.line, .string ⟨#[]⟩, .slice none 0 0, .int .i64 D0.kind, .int .i64 D0.op, .int .i64 D0.aB, .int .i64 D0.line, .string D0.text, .slice Av D0.kids.length qv] Z7)) := (Zb.refl _).alloc _
  have hn := heap_alloc_new W (.cells #[.int .i64 5, .int .i64 0, .int .i64 m, .int .i64 c.line, .string ⟨#[]⟩, .slice none 0 0, .int .i64 D0.kind, .int .i64 D0.op, .int .i64 D0.aB, .int .i64 D0.line, .string D0.text, .slice Av D0.kids.length qv] Z7);refine ⟨hl, ?_⟩;obtain ⟨w9, hw9⟩ : ∃ z, W.alloc (.cells #[.int .i64 5, .int .i64 0, .int .i64 m, .int .i64 c.line, .string ⟨#[]⟩, .slice none 0 0, .int .i64 D0.kind, .int .i64 D0.op, .int .i64 D0.aB, .int .i64 D0.line, .string D0.text, .slice Av D0.kids.length qv] Z7) = z := ⟨_, rfl⟩;rw [hw9] at hl hn ⊢;obtain ⟨B9, hB9⟩ : ∃ z, W.heap.size = z := ⟨_, rfl⟩;rw [hB9] at hn ⊢;have HLw9 := zh hl;have HNw9 := zh hn;have HEB9 := zh hB9;clear hl hn hw9 hB9;refine Z5 10 (by kernel_rfl) rfl rfl ?_;go_wp2_with fail;refine (Zck LB c A k 46 (some ⟨B9, 0, none⟩) 2 2 w9).mono ?_;rintro e w10 ⟨rfl, hb⟩;have HLw10 := zh hb;have HZw10 := zh (show Zb w9 w10 from hb);clear hb;go_wp2_with fail;refine ⟨HZw10.o, ?_⟩;refine Z5 17 (by kernel_rfl) rfl rfl ?_;go_wp2_with fail;have hl : Zb w10 (w10.alloc (.cells #[.int .i64 11, .int .i64 46, .int .i64 0, .int .i64 c.line, .string ⟨#[]⟩, .slice (some ⟨B9, 0, none⟩) 2 2, .int .i64 D1.kind, .int .i64 D1.op, .int .i64 D1.aB, .int .i64 D1.line, .string D1.text, .slice Au D1.kids.length qu, .int .i64 C.kind, .int .i64 C.op, .int .i64 C.aB, .int .i64 C.line, .string C.text, .slice AT C.kids.length qT] Z7)) := (Zb.refl _).alloc _;have hn := heap_alloc_new w10 (.cells #[.int .i64 11, .int .i64 46, .int .i64 0, .int .i64 c.line, .string ⟨#[]⟩, .slice (some ⟨B9, 0, none⟩) 2 2, .int .i64 D1.kind, .int .i64 D1.op, .int .i64 D1.aB, .int .i64 D1.line, .string D1.text, .slice Au D1.kids.length qu, .int .i64 C.kind, .int .i64 C.op, .int .i64 C.aB, .int .i64 C.line, .string C.text, .slice AT C.kids.length qT] Z7)
  refine ⟨hl, ?_⟩;obtain ⟨w17, hw17⟩ : ∃ z, w10.alloc (.cells #[.int .i64 11, .int .i64 46, .int .i64 0, .int .i64 c.line, .string ⟨#[]⟩, .slice (some ⟨B9, 0, none⟩) 2 2, .int .i64 D1.kind, .int .i64 D1.op, .int .i64 D1.aB, .int .i64 D1.line, .string D1.text, .slice Au D1.kids.length qu, .int .i64 C.kind, .int .i64 C.op, .int .i64 C.aB, .int .i64 C.line, .string C.text, .slice AT C.kids.length qT] Z7) = z := ⟨_, rfl⟩;rw [hw17] at hl hn ⊢;obtain ⟨B17, hB17⟩ : ∃ z, w10.heap.size = z := ⟨_, rfl⟩;rw [hB17] at hn ⊢;have HLw17 := zh hl;have HNw17 := zh hn;have HEB17 := zh hB17;clear hl hn hw17 hB17;refine Z6 [_, _] (by kernel_rfl) rfl rfl ?_;simp only [gA, gB, gC];go_wp2_with fail;refine (Zao LB c A k 17 (some ⟨B17, 0, none⟩) 3 3 w17).mono ?_;rintro e w18 ⟨rfl, hb⟩;have HL18 := zh hb;have HLA := zh (show Zb W w18 from HLw9.o.trans (HLw10.o.trans (HLw17.o.trans hb)));have HT18 := zB HLA HTW;have e1 := HT18.o;unfold Zf.cells at e1;clear hb;have t0 := cz6 e1;have ft0 := fz e1;clear e1;have tb := HTAB.o.2;go_wp2_with fail;have hF := HB.o.fl;have hb0 := HTB.o;have hW9 : TB < B9 := by have := Za HTW.o; have := HEB9.o; omega
  have hw9 := HLw9.o.size;have hB17 : B9 < B17 := by have := Za HNw9.o; have := HLw10.o.size; have := HEB17.o; omega
  have r2 : Zz Zbe 6 Z7 (fun y => ((F y ∧ y ≠ kb) ∧ tag y = i) ∨ y = B9) w9 [(cM 5 m c.line), D0] (.slice (some ⟨B9, 0, none⟩) 2 2) :=
   Znf (K0 := fun _ => False) (v0 := .slice none 0 0) HNw9.o (CV.cm _ _ (by decide) (by decide) HM.o.1 HM.o.2) (HVD0.o.later (HLW.o.trans HLw9.o)) (.inr rfl) (fun _ h => h.elim) (fun y hy => ⟨.inl hy, fun e => by have := (hF y hy.1.1).2.2; omega⟩) (fun _ h => h.elim)
  have c2 := CV.co (op := 46) (line := c.line) r2 (by decide) (by decide) HM.o.2;have hC2 := (HTC.o.later HLW.o).trim;have hkk := (HLw9.o.trans HLw10.o).trans HLw17.o;have r3 : Zz Zbe 6 Z7 (fun y => ((F y ∧ y ≠ kb) ∧ i ≤ tag y) ∨ TB < y) w17 [cO 46 c.line [(cM 5 m c.line), D0], D1, C] (.slice (some ⟨B17, 0, none⟩) 3 3) := by
   refine Zsf (v0 := .slice (some ⟨B9, 0, none⟩) 2 2) HNw17.o (c2.later (HLw10.o.trans HLw17.o)) (HVD1.o.later (HLW.o.trans hkk)) (hC2.later hkk) (.inr (by omega)) (fun y hy => ?_) (fun y hy => ⟨.inl ⟨hy.1, by omega⟩, fun e => by have := (hF y hy.1.1).2.2; omega⟩) (fun y hy => ?_) (fun y hy hz => ?_) (fun y hy hz => ?_) (fun y hy hz => ?_)
   ·rcases hy with h | h
    ·exact ⟨.inl ⟨h.1, by omega⟩, fun e => by have := (hF y h.1.1).2.2; omega⟩
    ·exact ⟨.inr (by omega), by omega⟩
   ·obtain ⟨hy, hlt⟩ := hy;have := HEB9.o
    rcases hy with h | h
    ·exact ⟨.inl ⟨h.1, by have := HI.o; omega⟩, by omega⟩
    ·exact ⟨.inr h, by omega⟩
   ·rcases hy with h | h
    ·omega
    ·have := (hF y hz.1.1).2.2; omega
   ·have := HEB9.o;have hz2 := hz.2
    rcases hy with h | h
    ·rcases hz.1 with h2 | h2
     ·have := HI.o; have := HPJ.o; omega
     ·have := (hF y h.1.1).2.2; omega
    ·omega
   ·rcases hz.1 with h2 | h2
    ·have := HI.o; have := HPJ.o; omega
    ·have := (hF y hy.1.1).2.2; omega
  have c3 := (CV.ck (k := 17) (line := c.line) r3 (by decide) (by decide) HM.o.2).later HL18.o;have hR : chR (cM 5 m c.line) c.line K p rest (j + 1) = cK 17 c.line [cO 46 c.line [(cM 5 m c.line), D0], D1, C] := by
   have e1 : K.getD (2 * (p - j) - 1) zC = D0 := by rw [← HI.o, List.getD_eq_getElem?_getD, List.getElem?_eq_getElem (by omega), HD0.o]; rfl
   have e2 : K.getD (2 * (p - j)) zC = D1 := by rw [show 2 * (p - j) = i + 1 by have := HI.o; have := HPJ.o; omega, List.getD_eq_getElem?_getD, List.getElem?_eq_getElem (by omega), HD1.o]; rfl
   rw [HC.o];show cK 17 c.line [cO 46 c.line [_, K.getD (2 * (p - j) - 1) zC], K.getD (2 * (p - j)) zC, _] = _;rw [e1, e2]
  refine Handed.intro (gk - 1) (by omega) (hJ _ _ _ ⟨j + 1, (i : Int) - 2, by omega, by have := HI.o; have := HPJ.o; omega, ?_, ⟨_, _, Zwe HT18.o rfl _ _ _ _ _ _, ?_⟩, ?_⟩)
  ·exact FrH.mk' rfl rfl rfl rfl rfl rfl rfl (by show some _ = some _; exact congrArg some (congrArg (Value.int .i64) tb))
  ·rw [hR];exact c3.keep (fun y hy => by
    rcases hy with h | h
    ·exact .inl ⟨h.1, by have := HI.o; have := HPJ.o; omega⟩
    ·exact .inr h) ((Tn.put6 (Tn.refl (fun b => b = TB) w18) rfl _ _ _ _ _ _).keeps fun b hb hp => by
    subst hp
    rcases hb with h | h
    ·have := (hF _ h.1.1).2.2; omega
    ·omega)
  ·exact Tn.put6 ((HTN.o.tr (Tn.later HLW.o)).tr (Tn.later HLA.o)) rfl _ _ _ _ _ _
 ·obtain rfl : j = p := by omega
  have hn : ¬ (1 : Int) ≤ X := by omega
  go_wp2_with fail;exact ⟨⟨_, FrH.mk' rfl rfl rfl rfl rfl rfl rfl rfl⟩, by simpa using hct, HTN.o⟩
theorem Zo8 {a : Act} (E : Zaz) (LB cs : Nat) (c : Ze) (A : Option Addr) (k : Nat) (m : Int) (K : List Zf) (kb : Nat) (cur : Array Value) (tag : Nat → Nat) (F : Nat → Prop) (EB RB SB B0 : Nat) (qk TB : Nat) (w w5 : World) (HB : Hd (ChB E LB cs c A k m K kb cur tag F EB RB SB B0 w w5)) (HTB : Hd (B0 ≤ TB)) (HP : Hd (0 < K.length ∧ K.length ≤ 100)) (HM : Hd (Zy m ∧ Zy c.line)) (C : Zf) (HT : Hd (ChT kb tag F TB 1 w5 C)) (HTN : Hd (Tn (fun b => b = LB) w w5)) (X : Int) (HF : Hd (FrH LB EB RB SB TB kb K.length qk X a)) :
  chFi.wp Tryz.prog (Zc0 fun a' x => Zsl RB a' ∧ LoR (LwI E LB) LB RB w (cK 17 c.line [cO 60 c.line [(cM 5 m c.line), K.getD 0 zC], C, cN 28 c.line]) cs x) a w5 := by
 have hkl := HP.o;have h0k : (0 : Int) < (K.length : Int) := by omega
 obtain ⟨v, hv, hcv⟩ := HB.o.kd 0 (by omega);obtain ⟨Av, qv, rfl, -, -⟩ := hv.form;obtain ⟨D0, hD0⟩ : ∃ z, z = K[0]'(HP.o.1) := ⟨_, rfl⟩;rw [← hD0] at hv hcv;have HD0 := zh hD0;have HVD0 := zh hv;have HCD0 := zh hcv;clear hv hcv hD0;rw [show K.getD 0 zC = D0 by rw [List.getD_eq_getElem?_getD, List.getElem?_eq_getElem HP.o.1, HD0.o]; rfl];obtain ⟨AT, qT, htb, hTC⟩ := HT.o.o;have HTB5 := zh htb;have HTC := zh hTC;clear htb hTC HT hkl;obtain ⟨fr, rfl⟩ := HF.o.opn;clear HF
 conv => arg 2; whnf
 refine Zx [15, 16] [] (by kernel_rfl) (fun W hW => ?_);have hlW : Zb w5 W := by rw [hW]; exact (Zb.refl _).drew
 have HLW := zh hlW;have HBW := zh (HB.o.keep (Tn.later (P := fun _ => False) hlW) (fun _ h => h.elim));have HEW := zh HBW.o.eb;have HSW := zh HBW.o.sb;have HKW := zh HBW.o.kr;have HTW := yC hlW HTB5;clear hlW hW;refine uU 0 73 ?_;simp only [yN];refine uU 1 74 (hy := fun x hx => by have hxe := (hx.block _ (Za HEW.o)).trans HEW.o; have hxs := (hx.block _ (Za HSW.o)).trans HSW.o; have hxk := (hx.block _ (Za HKW.o)).trans HKW.o; have hxt := (hx.block _ (Za HTW.o)).trans HTW.o; unfold Zf.cells at hxt; obtain ⟨c0, c1, c2, c3, c4⟩ := Z1 hxe; have fc0 := fz hxe; have s0 := cz6 hxs; have fs0 := fz hxs; have t0 := cz6 hxt; have ft0 := fz hxt; obtain ⟨q0, q1, q2, q3, q4, q5⟩ := Zbl hxk HCD0.o; simp only [Nat.zero_mul, Nat.zero_add] at q0 q1 q2 q3 q4 q5; go_simp <;> with_reducible rfl) ?_;simp only [yN];refine uU 2 75 ?_;simp only [yN];refine uU 3 76 (hy := fun x hx => by have hxe := (hx.block _ (Za HEW.o)).trans HEW.o; have hxs := (hx.block _ (Za HSW.o)).trans HSW.o; have hxk := (hx.block _ (Za HKW.o)).trans HKW.o; have hxt := (hx.block _ (Za HTW.o)).trans HTW.o; unfold Zf.cells at hxt; obtain ⟨c0, c1, c2, c3, c4⟩ := Z1 hxe; have fc0 := fz hxe; have s0 := cz6 hxs; have fs0 := fz hxs; have t0 := cz6 hxt; have ft0 := fz hxt; obtain ⟨q0, q1, q2, q3, q4, q5⟩ := Zbl hxk HCD0.o; simp only [Nat.zero_mul, Nat.zero_add] at q0 q1 q2 q3 q4 q5; go_simp <;> with_reducible rfl) ?_
 simp only [yN];refine uU 4 77 (hy := fun x hx => by have hxe := (hx.block _ (Za HEW.o)).trans HEW.o; have hxs := (hx.block _ (Za HSW.o)).trans HSW.o; have hxk := (hx.block _ (Za HKW.o)).trans HKW.o; have hxt := (hx.block _ (Za HTW.o)).trans HTW.o; unfold Zf.cells at hxt; obtain ⟨c0, c1, c2, c3, c4⟩ := Z1 hxe; have fc0 := fz hxe; have s0 := cz6 hxs; have fs0 := fz hxs; have t0 := cz6 hxt; have ft0 := fz hxt; obtain ⟨q0, q1, q2, q3, q4, q5⟩ := Zbl hxk HCD0.o; simp only [Nat.zero_mul, Nat.zero_add] at q0 q1 q2 q3 q4 q5; go_simp <;> with_reducible rfl) ?_;simp only [yN];refine uU 5 78 ?_;simp only [yN];refine uU 6 79 ?_;simp only [yN];refine uU 7 80 (hy := fun x hx => by have hxe := (hx.block _ (Za HEW.o)).trans HEW.o; have hxs := (hx.block _ (Za HSW.o)).trans HSW.o; have hxk := (hx.block _ (Za HKW.o)).trans HKW.o; have hxt := (hx.block _ (Za HTW.o)).trans HTW.o; unfold Zf.cells at hxt; obtain ⟨c0, c1, c2, c3, c4⟩ := Z1 hxe; have fc0 := fz hxe; have s0 := cz6 hxs; have fs0 := fz hxs; have t0 := cz6 hxt; have ft0 := fz hxt; obtain ⟨q0, q1, q2, q3, q4, q5⟩ := Zbl hxk HCD0.o; simp only [Nat.zero_mul, Nat.zero_add] at q0 q1 q2 q3 q4 q5; go_simp <;> with_reducible rfl) ?_;simp only [yN];refine uU 10 83 (hy := fun x hx => by have hxe := (hx.block _ (Za HEW.o)).trans HEW.o; have hxs := (hx.block _ (Za HSW.o)).trans HSW.o; have hxk := (hx.block _ (Za HKW.o)).trans HKW.o; have hxt := (hx.block _ (Za HTW.o)).trans HTW.o; unfold Zf.cells at hxt; obtain ⟨c0, c1, c2, c3, c4⟩ := Z1 hxe; have fc0 := fz hxe; have s0 := cz6 hxs; have fs0 := fz hxs; have t0 := cz6 hxt; have ft0 := fz hxt; obtain ⟨q0, q1, q2, q3, q4, q5⟩ := Zbl hxk HCD0.o; simp only [Nat.zero_mul, Nat.zero_add] at q0 q1 q2 q3 q4 q5; go_simp <;> with_reducible rfl) ?_
 simp only [yN];refine uU 11 84 ?_;simp only [yN];refine uU 12 85 (hy := fun x hx => by have hxe := (hx.block _ (Za HEW.o)).trans HEW.o; have hxs := (hx.block _ (Za HSW.o)).trans HSW.o; have hxk := (hx.block _ (Za HKW.o)).trans HKW.o; have hxt := (hx.block _ (Za HTW.o)).trans HTW.o; unfold Zf.cells at hxt; obtain ⟨c0, c1, c2, c3, c4⟩ := Z1 hxe; have fc0 := fz hxe; have s0 := cz6 hxs; have fs0 := fz hxs; have t0 := cz6 hxt; have ft0 := fz hxt; obtain ⟨q0, q1, q2, q3, q4, q5⟩ := Zbl hxk HCD0.o; simp only [Nat.zero_mul, Nat.zero_add] at q0 q1 q2 q3 q4 q5; go_simp <;> with_reducible rfl) ?_;simp only [yN];refine Z5 8 (by kernel_rfl) rfl rfl ?_;go_wp2_with fail;have hl : Zb W (W.alloc (.cells #[.int .i64 5, .int .i64 0, .int .i64 m, .int .i64 c.line, .string ⟨#[]⟩, .slice none 0 0, .int .i64 D0.kind, .int .i64 D0.op, .int .i64 D0.aB, .int .i64 D0.line, .string D0.text, .slice Av D0.kids.length qv] Z7)) := (Zb.refl _).alloc _;have hn := heap_alloc_new W (.cells #[.int .i64 5, .int .i64 0, .int .i64 m, .int .i64 c.line, .string ⟨#[]⟩, .slice none 0 0, .int .i64 D0.kind, .int .i64 D0.op, .int .i64 D0.aB, .int .i64 D0.line, .string D0.text, .slice Av D0.kids.length qv] Z7);refine ⟨hl, ?_⟩;obtain ⟨w9, hw9⟩ : ∃ z, W.alloc (.cells #[.int .i64 5, .int .i64 0, .int .i64 m, .int .i64 c.line, .string ⟨#[]⟩, .slice none 0 0, .int .i64 D0.kind, .int .i64 D0.op, .int .i64 D0.aB, .int .i64 D0.line, .string D0.text, .slice Av D0.kids.length qv] Z7) = z := ⟨_, rfl⟩
 rw [hw9] at hl hn ⊢;obtain ⟨B9, hB9⟩ : ∃ z, W.heap.size = z := ⟨_, rfl⟩;rw [hB9] at hn ⊢;have HLw9 := zh hl;have HNw9 := zh hn;have HEB9 := zh hB9;clear hl hn hw9 hB9;refine Z5 9 (by kernel_rfl) rfl rfl ?_;go_wp2_with fail;refine (Zck LB c A k 60 (some ⟨B9, 0, none⟩) 2 2 w9).mono ?_;rintro e w10 ⟨rfl, hb⟩;have HLw10 := zh hb;have HZw10 := zh (show Zb w9 w10 from hb);clear hb;go_wp2_with fail;refine ⟨HZw10.o, ?_⟩;refine Z5 13 (by kernel_rfl) rfl rfl ?_;go_wp2_with fail;refine (Zao LB c A k 28 none 0 0 w10).mono ?_;rintro e w11 ⟨rfl, hb⟩;have HLw11 := zh hb;have HZw11 := zh (show Zb w10 w11 from hb);clear hb;go_wp2_with fail;refine ⟨HZw11.o, ?_⟩;refine Z5 14 (by kernel_rfl) rfl rfl ?_;go_wp2_with fail;have hl : Zb w11 (w11.alloc (.cells #[.int .i64 11, .int .i64 60, .int .i64 0, .int .i64 c.line, .string ⟨#[]⟩, .slice (some ⟨B9, 0, none⟩) 2 2, .int .i64 C.kind, .int .i64 C.op, .int .i64 C.aB, .int .i64 C.line, .string C.text, .slice AT C.kids.length qT, .int .i64 28, .int .i64 0, .int .i64 0, .int .i64 c.line, .string ⟨#[]⟩, .slice none 0 0] Z7)) := (Zb.refl _).alloc _;have hn := heap_alloc_new w11 (.cells #[.int .i64 11, .int .i64 60, .int .i64 0, .int .i64 c.line, .string ⟨#[]⟩, .slice (some ⟨B9, 0, none⟩) 2 2, .int .i64 C.kind, .int .i64 C.op, .int .i64 C.aB, .int .i64 C.line, .string C.text, .slice AT C.kids.length qT, .int .i64 28, .int .i64 0, .int .i64 0, .int .i64 c.line, .string ⟨#[]⟩, .slice none 0 0] Z7);refine ⟨hl, ?_⟩
 obtain ⟨w17, hw17⟩ : ∃ z, w11.alloc (.cells #[.int .i64 11, .int .i64 60, .int .i64 0, .int .i64 c.line, .string ⟨#[]⟩, .slice (some ⟨B9, 0, none⟩) 2 2, .int .i64 C.kind, .int .i64 C.op, .int .i64 C.aB, .int .i64 C.line, .string C.text, .slice AT C.kids.length qT, .int .i64 28, .int .i64 0, .int .i64 0, .int .i64 c.line, .string ⟨#[]⟩, .slice none 0 0] Z7) = z := ⟨_, rfl⟩;rw [hw17] at hl hn ⊢;obtain ⟨B17, hB17⟩ : ∃ z, w11.heap.size = z := ⟨_, rfl⟩;rw [hB17] at hn ⊢;have HLw17 := zh hl;have HNw17 := zh hn;have HEB17 := zh hB17;clear hl hn hw17 hB17;refine Z6 [_, _] (by kernel_rfl) rfl rfl ?_;simp only [gA, gB, gC];go_wp2_with fail;refine (Zao LB c A k 17 (some ⟨B17, 0, none⟩) 3 3 w17).mono ?_;rintro e w18 ⟨rfl, hb⟩;have HL18 := zh hb;have HLA := zh (show Zb W w18 from HLw9.o.trans (HLw10.o.trans (HLw11.o.trans (HLw17.o.trans hb))));have HB18 := zh (HBW.o.keep (Tn.later (P := fun _ => False) HLA.o) (fun _ h => h.elim));have e1 := HB18.o.rb;clear hb;obtain ⟨r0, r1, r2, r3, r4, r5⟩ := cz6 e1;have fr0 := fz e1;clear e1;go_wp2_with fail;have hF := HB.o.fl;have hb0 := HTB.o;have hge := HB.o.ge;have hltt := HB.o.lt;have hW9 : TB < B9 := by have := Za HTW.o; have := HEB9.o; omega
 have hw9 := HLw9.o.size;have hB17 : B9 < B17 := by have := Za HNw9.o; have := HLw10.o.size; have := HLw11.o.size; have := HEB17.o; omega
 have r2 : Zz Zbe 6 Z7 (fun y => ((F y ∧ y ≠ kb) ∧ tag y = 0) ∨ y = B9) w9 [(cM 5 m c.line), D0] (.slice (some ⟨B9, 0, none⟩) 2 2) :=
  Znf (K0 := fun _ => False) (v0 := .slice none 0 0) HNw9.o (CV.cm _ _ (by decide) (by decide) HM.o.1 HM.o.2) (HVD0.o.later (HLW.o.trans HLw9.o)) (.inr rfl) (fun _ h => h.elim) (fun y hy => ⟨.inl hy, fun e => by have := (hF y hy.1.1).2.2; omega⟩) (fun _ h => h.elim)
 have c2 := CV.co (op := 60) (line := c.line) r2 (by decide) (by decide) HM.o.2;have hC2 := (HTC.o.later HLW.o).trim;have hkk := ((HLw9.o.trans HLw10.o).trans HLw11.o).trans HLw17.o;have r3 : Zz Zbe 6 Z7 (fun y => (F y ∧ y ≠ kb) ∨ TB < y) w17 [cO 60 c.line [(cM 5 m c.line), D0], C, cN 28 c.line] (.slice (some ⟨B17, 0, none⟩) 3 3) := by
  refine Zsf (K2 := fun _ => False) (v0 := .slice (some ⟨B9, 0, none⟩) 2 2) (v2 := .slice none 0 0) HNw17.o (c2.later (HLw10.o.trans (HLw11.o.trans HLw17.o))) (hC2.later hkk) (CV.cn _ _ (by decide) (by decide) HM.o.2) (.inr (by omega)) (fun y hy => ?_) (fun y hy => ?_) (fun _ h => h.elim) (fun y hy hz => ?_) (fun _ _ h => h.elim) (fun _ _ h => h.elim)
  ·rcases hy with h | h
   ·exact ⟨.inl h.1, fun e => by have := (hF y h.1.1).2.2; omega⟩
   ·exact ⟨.inr (by omega), by omega⟩
  ·obtain ⟨hy, hlt⟩ := hy;have := HEB9.o
   rcases hy with h | h
   ·exact ⟨.inl h.1, by omega⟩
   ·exact ⟨.inr h, by omega⟩
  ·have := HEB9.o;have hz2 := hz.2
   rcases hy with h | h
   ·rcases hz.1 with h2 | h2
    ·omega
    ·have := (hF y h.1.1).2.2; omega
   ·omega
 have c3 := (CV.ck (k := 17) (line := c.line) r3 (by decide) (by decide) HM.o.2).later HL18.o;refine ⟨Zsl.mk' rfl rfl, LoR.put (C := cK 17 c.line [cO 60 c.line [(cM 5 m c.line), D0], C, cN 28 c.line]) (fun y hy => ?_) HB18.o.rb rfl c3 (fun b hb => ?_) ((HTN.o.tr (Tn.later (HLW.o.trans HLA.o))).mono fun b _ hb => .inl hb)⟩
 ·obtain ⟨i, hi⟩ := HB.o.bs;exact LwI.put HB18.o.st hi HB.o.ge y hy
 ·rcases hb with h | h
  ·exact ⟨(hF b h.1).1, (hF b h.1).2.1⟩
  ·exact ⟨by omega, by omega⟩
theorem LoC.case {E : Zaz} {n cs : Nat} {c : Ze} (h : LoC E n c cs) (hk : c.kind = 20) : (c.aB = 0 ∧ ∃ p, c.kids.length = 2 * p + 1) ∨ (c.aB = 1 ∧ ∃ p, c.kids.length = 2 * p + 2) := by
 have h1 := h.hd;simp only [xHd, Bool.and_eq_true, nJ] at h1;have h2 := h1.2.2.2.2.2.2;unfold xN at h2;rw [if_neg (by rw [hk]; decide), if_pos hk] at h2;simp only [Bool.and_eq_true, Bool.or_eq_true, nJ, beq_iff_eq] at h2;obtain ⟨h3 | h3, h4, h5⟩ := h2
 ·exact .inl ⟨h3, (c.kids.length - 1) / 2, by omega⟩
 ·exact .inr ⟨h3, (c.kids.length - 2) / 2, by omega⟩
theorem LwI.inc {E : Zaz} {LB cs : Nat} {w : World} (h : LwI E LB cs w) : LwI E LB (cs + 1) (w.setCell ⟨LB, 5, none⟩ (.int .i64 ((cs + 1 : Nat) : Int))) :=
 ⟨Z0 h.blk _, h.un.keep ((Zc.refl _ _).set (fun hF => h.nF _ hF rfl) _ _), h.sp.keep (Below.heap_setCell _ _ _ _ (Ne.symm h.nG)), h.nF, h.nG, h.ok, h.at_⟩
theorem Zo9 (n : Nat) (IH : ∀ m, n = m + 1 → Zd6 m) (E : Zaz) (LB cs : Nat) (w : World) (c : Ze) (A : Option Addr) (k : Nat) (hk : c.kind = 20) (hw : LwI E LB cs w) (hv : EV n E.F w c A k) (hc : LoC E n c cs) : Calls Tryz.prog 115 #[.pointer (some ⟨LB, 0, none⟩), .agg #[.int .i64 c.kind, .string c.text, .int .i64 c.aB, .int .i64 c.line, .slice A c.kids.length k]] w (LoP (LwI E LB) LB w (chC c ((E.L.length + cs : Nat) : Int) (Zch E.u E.L n c ((E.L.length + cs : Nat) : Int) c.kids.length)) (cs + csX c)) := by
 have hcase := hc.case hk;have hle := hc.le;have hln := hc.ln;have h24 := hc.len;have HLC := zh hc;have HK20 := zh hk;have HC64 := zh hv.n2;obtain ⟨m, hm⟩ : ∃ z, z = ((E.L.length + cs : Nat) : Int) := ⟨_, rfl⟩;rw [← hm];obtain ⟨K, hK⟩ : ∃ z, z = Zch E.u E.L n c m c.kids.length := ⟨_, rfl⟩;rw [← hK];have hkl : K.length = c.kids.length := by rw [hK]; exact Zdj _ _ _ _ _ _
 have HKK := zh hK;have HKL := zh hkl;clear hkl;have HMM := zh hm;have HM64 := zh (show Zy m ∧ Zy c.line from ⟨by rw [hm]; exact Zbr (by omega) (by omega), hv.n2⟩);obtain ⟨C, hC⟩ : ∃ z, z = chC c m K := ⟨_, rfl⟩;rw [← hC];have HCC := zh hC;clear hK hC hc hk;have hks1 := hv.len;have HV := zh hv;have HW := zh hw;obtain ⟨wa, hla, heb, hwa⟩ := aN w (.cells #[.int .i64 c.kind, .string c.text, .int .i64 c.aB, .int .i64 c.line, .slice A c.kids.length k] 104);have hlb : Zb wa (wa.alloc (.cells #[.int .i64 0, .int .i64 0, .int .i64 0, .int .i64 0, .string ⟨#[]⟩, .slice none 0 0] Z7)) := (Zb.refl _).alloc _;have hrb := heap_alloc_new wa (.cells #[.int .i64 0, .int .i64 0, .int .i64 0, .int .i64 0, .string ⟨#[]⟩, .slice none 0 0] Z7);have heb2 := (hlb.block _ (Za heb)).trans heb;obtain ⟨wb, hwb⟩ : ∃ z, wa.alloc (.cells #[.int .i64 0, .int .i64 0, .int .i64 0, .int .i64 0, .string ⟨#[]⟩, .slice none 0 0] Z7) = z := ⟨_, rfl⟩;rw [hwb] at hlb hrb heb2;have HLb := zh (Zb.trans hla hlb);have hsz : w.heap.size ≤ wa.heap.size := hla.size;have hne : w.heap.size ≠ wa.heap.size := fun e => by have := Za heb; omega
 obtain ⟨EB, hEB⟩ : ∃ z, w.heap.size = z := ⟨_, rfl⟩;obtain ⟨RB, hRB⟩ : ∃ z, wa.heap.size = z := ⟨_, rfl⟩;have HGE := zh (show w.heap.size ≤ EB ∧ w.heap.size ≤ RB ∧ EB ≠ RB from ⟨by omega, by omega, by omega⟩);rw [hEB] at heb2;rw [hRB] at hrb;have HEB := zh heb2;have HRB := zh hrb;have HSTART := zh (⟨hwa, hwb, hEB, hRB⟩ : _ ∧ _ ∧ _ ∧ _);clear hla hlb heb hrb heb2 hv hw hsz hne hwa hwb hEB hRB;have HLBb := zh (HW.o.later HLb.o).blk;have c0 := Z1 HEB.o;have fc0 := fz HEB.o;have r0 := cz6 HRB.o;have fr0 := fz HRB.o;have b0 := cz6 HLBb.o;have fb0 := fz HLBb.o;have tm : IntKind.i64.wrap ((E.L.length : Int) + (cs : Int)) = m := by rw [IntWalk.i64_in _ (by omega), hm]; rfl
 go_enter Tryz.func115, Tryz.ntmps115;obtain ⟨hwa, hwb, hEB, hRB⟩ := HSTART.o;go_upto_region 1 with (fail);clear hwa hwb hEB hRB;clear c0 fc0 r0 fr0 b0 fb0;refine Zx [13] [] (by kernel_rfl) (fun W hW => ?_);have hlW : Zb wb W := by rw [hW]; exact (Zb.refl _).drew
 have HLW := zh hlW;have HBW := yC hlW HLBb;have HEW := yC hlW HEB;have HRW := yC hlW HRB;clear hlW hW;refine uU 0 10 ?_;simp only [yN];refine uU 1 11 ?_;simp only [yN];refine uU 2 12 ?_;simp only [yN];refine uU 3 13 (hy := fun x hx => by have hxb := (hx.block _ (Za HBW.o)).trans HBW.o; have hxe := (hx.block _ (Za HEW.o)).trans HEW.o; have b0 := cz6 hxb; have fb0 := fz hxb; have c0 := Z1 hxe; have fc0 := fz hxe; go_simp <;> with_reducible rfl) ?_;simp only [yN];refine uU 4 14 ?_;simp only [yN];refine uU 5 15 ?_;simp only [yN];refine uU 6 16 ?_;simp only [yN];refine uU 7 17 (hy := fun x hx => by have hxb := (hx.block _ (Za HBW.o)).trans HBW.o; have hxe := (hx.block _ (Za HEW.o)).trans HEW.o; have b0 := cz6 hxb; have fb0 := fz hxb; have c0 := Z1 hxe; have fc0 := fz hxe; go_simp <;> with_reducible rfl) ?_;simp only [yN];refine uU 8 18 ?_;simp only [yN];refine uU 9 19 ?_;simp only [yN];refine uU 10 20 (hy := fun x hx => by have hxb := (hx.block _ (Za HBW.o)).trans HBW.o; have hxe := (hx.block _ (Za HEW.o)).trans HEW.o; have b0 := cz6 hxb; have fb0 := fz hxb; have c0 := Z1 hxe; have fc0 := fz hxe; go_simp <;> with_reducible rfl) ?_;simp only [yN];refine uU 11 21 ?_;simp only [yN];refine Z5 12 (by kernel_rfl) rfl rfl ?_;go_wp2_with fail;refine ⟨(Zb.refl _).alloc _, ?_⟩;refine Z6 [_] (by kernel_rfl) rfl rfl ?_
 simp only [gA, gB, gC];go_upto_region 2 with (fail);clear tm;rw [show (E.L.length : Int) + (cs : Int) = m by rw [HMM.o]; rfl];obtain ⟨w1, SB, hl, hn, h1, hSB⟩ := al W (.cells #[.int .i64 5, .int .i64 0, .int .i64 m, .int .i64 c.line, .string ⟨#[]⟩, .slice none 0 0] Z7);rw [h1, hSB];have HSB1 := zh hn;have HL1 := zh (HLb.o.trans (HLW.o.trans hl));have HEB1 := yC hl HEW;have HRB1 := yC hl HRW;have HS1 := zh (HW.o.later HL1.o);have HSBE := zh hSB;have HSZ := zh (show EB < SB ∧ RB < SB from ⟨by have := Za HEW.o; omega, by have := Za HRW.o; omega⟩);clear hl hn h1 hSB;have e1 := HS1.o.blk;have b0 := cz6 e1;have fb0 := fz e1;clear e1;go_upto_region 3 with (fail);clear b0 fb0;obtain ⟨w2, h2⟩ : ∃ z, w1.setCell ⟨LB, 5, none⟩ (.int .i64 ((cs : Int) + 1)) = z := ⟨_, rfl⟩;rw [h2];have HS2 := zh (show LwI E LB (cs + 1) w2 from h2 ▸ HS1.o.inc);have HT2 := zh (show Tn (fun b => b = LB) w1 w2 by rw [← h2]; exact (Tn.refl (fun b => b = LB) w1).set rfl _ _);have hltb := Za HW.o.blk;have hge := HGE.o;have hsz := HSZ.o;have HEB2 := zh (HT2.o.has HEB1.o (by omega));have HRB2 := zh (HT2.o.has HRB1.o (by omega));have HSB2 := zh (HT2.o.has HSB1.o (by omega));clear h2;have c0 := Z1 HEB2.o;have fc0 := fz HEB2.o;go_wp2_with fail;refine (Zb6 n IH E LB cs w2 c A k m hm (by rw [show Zbu c.kind = 1 by unfold Zbu; rw [if_pos HK20.o]]; exact HS2.o) (HV.o.keep (fun _ h => h) ((Zc.later HL1.o).trans (HT2.o.keeps HW.o.nF))) HLC.o).mono ?_
 rintro e w3 hp;obtain ⟨v, rfl, hrow⟩ := hp.o;rw [← HKK.o] at hrow;have hrow := hrow.trim Zs;obtain ⟨Ak, qk, rfl, -⟩ := id hrow;have hp0 : 0 < K.length := by rw [HKL.o]; rcases hcase with ⟨_, p, h⟩ | ⟨_, p, h⟩ <;> omega
 obtain ⟨kb, cur, tag, rfl, hkb, hkr, hkd⟩ := hrow.kid hp0;have HT3 := zh hp.tn;have HS3 := zh hp.st;have HEB3 := zh (hp.tn.has HEB2.o (by omega));have HRB3 := zh (hp.tn.has HRB2.o (by omega));have HSB3 := zh (hp.tn.has HSB2.o (by omega));have HKR := zh hkr;have HKD := zh hkd;have HKB := zh hkb;clear hp hrow hkb hkr hkd c0 fc0;have c0 := Z1 HEB3.o;have fc0 := fz HEB3.o;go_wp2_with fail;refine (Zao LB c A k 28 none 0 0 w3).mono ?_;rintro e w4 ⟨rfl, hb⟩;have HL4 := zh hb;clear hb;go_upto_region 5 with (fail);obtain ⟨w5, TB, hl, hn, h1, hTB⟩ := al w4 (.cells #[.int .i64 28, .int .i64 0, .int .i64 0, .int .i64 c.line, .string ⟨#[]⟩, .slice none 0 0] Z7);rw [h1, hTB];have HTB5 := zh hn;have HL5 := zh (HL4.o.trans hl);have HTBE := zh hTB;clear hl hn h1;have hsz2 := HT2.o.size;have hsz3 := HT3.o.size;have hsz4 := HL4.o.size;have hsz1 := HL1.o.size;have hs1 := Za HSB1.o;have HB := zh (show ChB E LB (cs + csX c) c A k m K kb cur tag (fun y => w2.heap.size ≤ y ∧ y < w3.heap.size) EB RB SB TB w w5 from
  ⟨(HL5.o.block _ (Za HEB3.o)).trans HEB3.o, (HL5.o.block _ (Za HRB3.o)).trans HRB3.o, (HL5.o.block _ (Za HSB3.o)).trans HSB3.o, (HL5.o.block _ (Za HKR.o)).trans HKR.o, fun i hi => by
    obtain ⟨v, hv, hc⟩ := HKD.o i hi;exact ⟨v, hv.later HL5.o, hc⟩, HS3.o.later HL5.o, ⟨by omega, by omega, by omega, by have := HKB.o; omega, by omega⟩, fun y hy => ⟨by omega, by omega, by omega⟩, hge.2.1, ⟨cs, HW.o⟩⟩)
 have HTN := zh (show Tn (fun b => b = LB) w w5 from ((Tn.later HL1.o).tr (HT2.o.tr HT3.o)).tr (Tn.later HL5.o));clear hsz2 hsz3 hsz4 hsz1 hs1 c0 fc0;have c0 := Z1 HB.o.eb;have fc0 := fz HB.o.eb;have t0 := cz6 HTB5.o;have ft0 := fz HTB5.o;clear hge hsz hle hln
 rcases hcase with ⟨hnum, p, hlen⟩ | ⟨hnum, p, hlen⟩
 ·have nn : (c.aB == 1) = false := by rw [hnum]; rfl
  have hK1 : (K.length : Int) = 2 * (p : Int) + 1 := by have := HKL.o; omega
  go_upto_block 0 with (fail)
  clear hK1;have HFIN := zh (show C = cK 17 c.line [cO 60 c.line [(cM 5 m c.line), K.getD 0 zC], chR (cM 5 m c.line) c.line K p (cN 28 c.line) p, cN 28 c.line] by
   rw [HCC.o];unfold chC;rw [show (K.length - 1 - c.aB.toNat) / 2 = p by rw [hnum]; have := HKL.o; simp; omega, if_neg (by rw [hnum]; decide)])
  refine @Z8 _ chLp ?R10 _ _ _ _ ?h10 ?k10
  case h10 =>
   refine Zo7 E LB (cs + csX c) c A k m K kb cur tag (fun y => w2.heap.size ≤ y ∧ y < w3.heap.size) EB RB SB TB qk p (cN 28 c.line) TB w w5 HB (zh (Nat.le_refl _)) (zh ⟨by have := HKL.o; omega, by have := HKL.o; omega⟩) HM64 (zh ⟨none, 0, HTB5.o, CV.cn _ _ (by decide) (by decide) HC64.o⟩) (zh ?hf10)
   case hf10 => exact FrH.mk' rfl rfl rfl rfl rfl rfl rfl (by show some _ = some _; exact congrArg some (congrArg (Value.int .i64) (by omega)))
  case k10 =>
  rintro a' w7 ⟨⟨X, hf⟩, hct, ht⟩;obtain ⟨fr1, rfl⟩ := hf.opn;have HCT := zh hct;have HT7 := zh ht;clear hf hct ht;go_upto_region 13 with (fail);refine @Z8 _ chFi ?R20 _ _ _ _ ?h20 ?k20
  case h20 =>
   refine Zo8 E LB (cs + csX c) c A k m K kb cur tag (fun y => w2.heap.size ≤ y ∧ y < w3.heap.size) EB RB SB TB qk TB w w7 (zh (HB.o.keep HT7.o (fun b hb => Nat.le_of_eq hb.symm))) (zh (Nat.le_refl _)) (zh ⟨by have := HKL.o; omega, by have := HKL.o; omega⟩) HM64 _ HCT (zh (HTN.o.trans HT7.o (fun _ h => h) (fun b hb hp => by have := HB.o.lt.2.2.2.2; omega))) X (zh ?hf20)
   case hf20 => exact FrH.mk' rfl rfl rfl rfl rfl rfl rfl rfl
  case k20 =>
  rintro a' x ⟨hf, hr⟩;obtain ⟨fr2, rfl⟩ := hf.opn;rw [← HFIN.o] at hr;go_wp2_with fail;exact LoR.post Tryz.results115 (by rfl) hr HGE.o.2.1
 ·have nn : (c.aB == 1) = true := by rw [hnum]; rfl
  obtain ⟨il, hil⟩ : ∃ il, il = 2 * p + 1 := ⟨_, rfl⟩;have hilk : il < K.length := by have := HKL.o; omega
  obtain ⟨v, hv, hcv⟩ := HB.o.kd il hilk;obtain ⟨Av, qv, rfl, -, -⟩ := hv.form;obtain ⟨D0, hD0⟩ : ∃ z, z = K[il]'hilk := ⟨_, rfl⟩;rw [← hD0] at hv hcv;have HD0 := zh hD0;have HVD0 := zh hv;have HCD0 := zh hcv;clear hv hcv hD0;have hK1 : (K.length : Int) = (il : Int) + 1 := by have := HKL.o; omega
  have hil1 : (il : Int) < (il : Int) + 1 := by omega
  have hil2 : il ≤ 100 := by have := HKL.o; omega
  have HIL := zh hil;clear hil;obtain ⟨q0, q1, q2, q3, q4, q5⟩ := Zbl HB.o.kr HCD0.o
  go_upto_block 0 with (fail)
  clear hK1 hil1 hil2 q0 q1 q2 q3 q4 q5;have htt := Tn.put6 (Tn.refl (fun b => b = TB) w5) rfl (.int .i64 D0.kind) (.int .i64 D0.op) (.int .i64 D0.aB) (.int .i64 D0.line) (.string D0.text) (.slice Av D0.kids.length qv);have ht6 := Zwe HTB5.o rfl (.int .i64 D0.kind) (.int .i64 D0.op) (.int .i64 D0.aB) (.int .i64 D0.line) (.string D0.text) (.slice Av D0.kids.length qv);obtain ⟨w6, h6⟩ : ∃ z, ((((((w5.setCell ⟨TB, 0, none⟩ (.int .i64 D0.kind)).setCell ⟨TB, 1, none⟩ (.int .i64 D0.op)).setCell ⟨TB, 2, none⟩ (.int .i64 D0.aB)).setCell ⟨TB, 3, none⟩ (.int .i64 D0.line)).setCell ⟨TB, 4, none⟩ (.string D0.text)).setCell ⟨TB, 5, none⟩ (.slice Av D0.kids.length qv)) = z := ⟨_, rfl⟩;rw [h6] at htt ht6 ⊢;have HTT := zh htt;have HT6 := zh ht6;have HB6 := zh (HB.o.keep htt (fun b hb => Nat.le_of_eq hb.symm));have HVC := zh (show CV (fun y => (((w2.heap.size ≤ y ∧ y < w3.heap.size) ∧ y ≠ kb) ∧ 2 * p + 1 ≤ tag y) ∨ TB < y) w6 D0 (.slice Av D0.kids.length qv) from HVD0.o.keep (fun y hy => .inl ⟨hy.1, by have := HIL.o; omega⟩) (htt.keeps fun b hb hp => by
   subst hp;have := HTBE.o;have := HL4.o.size
   omega))
  clear htt ht6 h6;have HFIN := zh (show C = cK 17 c.line [cO 60 c.line [(cM 5 m c.line), K.getD 0 zC], chR (cM 5 m c.line) c.line K p D0 p, cN 28 c.line] by
   rw [HCC.o];unfold chC;rw [show (K.length - 1 - c.aB.toNat) / 2 = p by rw [hnum]; have := HKL.o; simp; omega, if_pos hnum, show K.getD (K.length - 1) zC = D0 by rw [show K.length - 1 = il by have := HKL.o; have := HIL.o; omega, List.getD_eq_getElem?_getD, List.getElem?_eq_getElem (by have := HKL.o; have := HIL.o; omega), HD0.o]; rfl])
  refine @Z8 _ chLp ?R11 _ _ _ _ ?h11 ?k11
  case h11 =>
   refine Zo7 E LB (cs + csX c) c A k m K kb cur tag (fun y => w2.heap.size ≤ y ∧ y < w3.heap.size) EB RB SB TB qk p D0 TB w w6 HB6 (zh (Nat.le_refl _)) (zh ⟨by have := HKL.o; omega, by have := HKL.o; omega⟩) HM64 (zh ⟨_, _, HT6.o, HVC.o⟩) (zh ?hf11)
   case hf11 => exact FrH.mk' rfl rfl rfl rfl rfl rfl rfl (by show some _ = some _; exact congrArg some (congrArg (Value.int .i64) (by have := HIL.o; omega)))
  case k11 =>
  rintro a' w7 ⟨⟨X, hf⟩, hct, ht⟩;obtain ⟨fr1, rfl⟩ := hf.opn;have HCT := zh hct;have HT7 := zh ht;clear hf hct ht;go_upto_region 13 with (fail);refine @Z8 _ chFi ?R21 _ _ _ _ ?h21 ?k21
  case h21 =>
   refine Zo8 E LB (cs + csX c) c A k m K kb cur tag (fun y => w2.heap.size ≤ y ∧ y < w3.heap.size) EB RB SB TB qk TB w w7 (zh (HB6.o.keep HT7.o (fun b hb => Nat.le_of_eq hb.symm))) (zh (Nat.le_refl _)) (zh ⟨by have := HKL.o; omega, by have := HKL.o; omega⟩) HM64 _ HCT (zh (HTN.o.trans (HTT.o.tr HT7.o) (fun _ h => h) (fun b hb hp => by have := HB.o.lt.2.2.2.2; omega))) X (zh ?hf21)
   case hf21 => exact FrH.mk' rfl rfl rfl rfl rfl rfl rfl rfl
  case k21 =>
  rintro a' x ⟨hf, hr⟩;obtain ⟨fr2, rfl⟩ := hf.opn;rw [← HFIN.o] at hr;go_wp2_with fail;exact LoR.post Tryz.results115 (by rfl) hr HGE.o.2.1
section
open Go.RowKit Go.Maps
abbrev TI : TypeId := 3
theorem Zxf (w : World) : (zeroValue TI).run Tryz.prog w = .ok (.int .i64 0) w := by kernel_rfl
theorem Zxg : Keyed Tryz.prog TI := int_keyed Tryz.underlying3
theorem Zxh : Keyed Tryz.prog 9 := string_keyed Tryz.underlying9
structure Zsm (K : TypeId) (w0 w : World) (b n : Nat) (D : DataW Unit) : Prop where
 own : w.ownsMap Tryz.prog K (plainElem Tryz.prog TI) b n D
 new : w0.heap.size ≤ b
 later : Zb w0 w
theorem Zsm.start (K : TypeId) {w0 w : World} (h : Zb w0 w) : Zsm K w0 (w.alloc (.map #[] 0)) w.heap.size 0 (.map []) := ⟨World.ownsMap_made _ _ _ _, h.size, h.alloc _⟩
theorem Zkc {K T : TypeId} (law : Keyed Tryz.prog K) (ht : Tryz.prog.underlying T = some (.map K TI)) {w0 w : World} {b n : Nat} {D : DataW Unit} (h : Zsm K w0 w b n D) {ops : Array Oper} {rest : List Oper} {o : Oper} {a : Act} {Q : Exit → Act → World → Prop}
  (hg : o.guard = none) (m x v : Operand) (hop : o.op = Op.insert T m x v) (hm : a.eval m = .map (some b)) (hn : n < 100) {key : Value} {kl : Lit} {kv : Int} (hx : a.eval x = key) (hv : a.eval v = .int .i64 kv) (hkey : keyOf Tryz.prog K key = some kl) (h0 : 0 ≤ kv) (h1 : kv ≤ 1000)
  (hK : ∀ w', Zsm K w0 w' b (n + 1) (D.put kl (.lit (.int .i64 kv))) → wpList Tryz.prog ops Q rest (a.put o.dst undef) w') : wpList Tryz.prog ops Q (o :: rest) a w := by
 refine wpList_plain hg fun K' hK' => ?_;obtain ⟨w', hrun, r1, r2⟩ := h.own.update law ht (by unfold maxLen; omega) hkey (plainElem_int Tryz.underlying3 (a := kv) (WalkArith.wf_i64 (by omega)));unfold Oper.wp;simp [execOp, hop, hm, hx, hv, hrun, Result.andThen];exact hK' _ _ (hK w' ⟨r1, h.new, h.later.grown r2 h.later.size (fun j hj => by cases hj; exact h.new)⟩)
end
theorem Zix (s : ByteArray) (w : World) (ht : Spc w) : Calls Tryz.prog 188 #[.string s] w fun e w' => e = .returned (.bool (Zrw s)) ∧ Below w.heap.size w w' := by
 have HW := zh (Zru w ht);have hro := Zcn (Zav Zm6) _ s _ _ (Zdf w Zm6 (by decide) (by decide));rw [Zdv] at hro;have HC := zh hro;clear hro;go_enter Tryz.func188, Tryz.ntmps188;go_wp2_with fail;refine HW.o.mono ?_;rintro e w' ⟨rfl, hw⟩;subst hw;go_wp2_with fail;refine HC.o.mono ?_;rintro e w' ⟨rfl, hw⟩;subst hw;go_wp2_with fail;go_ret;exact ⟨rfl, (Below.refl _ _).alloc (Nat.le_refl _) _⟩
theorem Zkp (s : ByteArray) (w : World) (ht : Spc w) : Calls Tryz.prog 189 #[.string s] w fun e w' => e = .returned (.bool (Zxt s)) ∧ Below w.heap.size w w' := by
 have HW := zh (Ztp w ht);have hro := Zcn (Zav wUn) _ s _ _ (Zdf w wUn (by decide) (by decide));rw [Zdv] at hro;have HC := zh hro;clear hro;go_enter Tryz.func189, Tryz.ntmps189;go_wp2_with fail;refine HW.o.mono ?_;rintro e w' ⟨rfl, hw⟩;subst hw;go_wp2_with fail;refine HC.o.mono ?_;rintro e w' ⟨rfl, hw⟩;subst hw;go_wp2_with fail;go_ret;exact ⟨rfl, (Below.refl _ _).alloc (Nat.le_refl _) _⟩
theorem Ziy (w : World) (ht : Spc w) : Calls Tryz.prog 178 #[] w fun e w' => e = .returned (.slice (some ⟨w.heap.size, 0, none⟩) 55 55) ∧ w' = w.alloc (Zau Zd0) := by
 go_enter Tryz.func178, Tryz.ntmps178;go_wp2_with fail;refine (Zrv w ht).mono ?_;rintro e w' ⟨rfl, rfl⟩;go_wp2_with fail;go_ret;exact ⟨rfl, rfl⟩
theorem Zfm (s : ByteArray) (w : World) (ht : Spc w) : Calls Tryz.prog 150 #[.string s] w fun e w' => e = .returned (.int .i64 (fnN s)) ∧ Below w.heap.size w w' := by
 have HW := zh (Ziy w ht);have HC := zh (Zja (Zav Zd0) _ s _ _ (Zdf w Zd0 (by decide) (by decide)));go_enter Tryz.func150, Tryz.ntmps150;go_wp2_with fail;refine HW.o.mono ?_;rintro e w' ⟨rfl, hw⟩;subst hw;go_wp2_with fail;refine HC.o.mono ?_;rintro e w' ⟨rfl, hw⟩;subst hw;go_wp2_with fail;go_ret;exact ⟨rfl, (Below.refl _ _).alloc (Nat.le_refl _) _⟩
theorem Zjo (s : ByteArray) (w : World) (ht : Spc w) : Calls Tryz.prog 190 #[.string s] w fun e w' => (∃ r : Int, e = .returned (.int .i64 r) ∧ decide (0 < r) = Zd7 s) ∧ Below w.heap.size w w' := by
 have hl1 : Zb w (w.alloc (Zau lvT)) := (Zb.refl _).alloc _;have hc := Zdx w lvT;obtain ⟨w1, hw1⟩ : ∃ z, w.alloc (Zau lvT) = z := ⟨_, rfl⟩;rw [hw1] at hl1 hc;have HL1 := zh hl1;have HC := zh hc;have HT := zh ht;have HW1 := zh hw1;obtain ⟨VB, hVB⟩ : ∃ z, w.heap.size = z := ⟨_, rfl⟩;have HVB := zh hVB;clear hc hl1 ht hVB hw1;have hw1 : w.alloc (.cells #[.string ⟨#[38]⟩, .string ⟨#[63]⟩, .string ⟨#[58, 61, 32, 60, 45, 32, 58, 61, 58, 32, 60, 45, 62, 32, 43, 58, 61, 32, 45, 58, 61, 32, 42, 58, 61, 32, 47, 58, 61, 32, 37, 58, 61, 32, 94, 58, 61, 32, 124, 124, 58, 61, 32, 124, 124, 124, 58, 61, 32, 43, 43, 58, 61, 32, 45, 45, 58, 61, 32, 42, 42, 58, 61]⟩, .string ⟨#[]⟩, .string ⟨#[124, 32, 46, 124]⟩, .string ⟨#[60, 32, 60, 61, 32, 61, 32, 62, 61, 32, 62, 32, 126, 61, 32, 60, 60, 32, 60, 60, 61, 32, 61, 61, 32, 62, 62, 61, 32, 62, 62, 32, 126, 61, 61, 32, 61, 61, 61, 32, 126, 61, 61, 61, 32, 63, 63]⟩, .string ⟨#[124, 124, 32, 124, 124, 124]⟩, .string ⟨#[43, 32, 45, 32, 43, 43, 32, 45, 45]⟩, .string ⟨#[42, 32, 47, 32, 37, 32, 42, 42]⟩, .string ⟨#[94]⟩, .string ⟨#[92, 32, 45, 62, 32, 61, 62]⟩] 9) = w1 := HW1.o;go_enter Tryz.func190, Tryz.ntmps190;go_upto_region 2 with (fail)
 try rw [hw1]
 rw [HVB.o];rw [HVB.o] at HC;clear hw1 HW1;have h55 : (11 : Int) ≤ 9223372036854775807 := by decide
 go_wp2_with fail
 go_loopw [9, 4, 5] (fun iv _ _ wr => ∃ j : Nat, j ≤ 11 ∧ iv = .int .i64 j ∧ Hd (∀ k, k < j → Zbm (Zav (wL k)) s = false) ∧ Zb w1 wr) (fun iv _ _ _ => 11 - (intOf iv).toNat)
 case atStart => exact ⟨0, by omega, rfl, zh (fun k h => by omega), Zb.refl _⟩
 case round =>
  obtain ⟨j, hj, rfl, HJ, hl⟩ := hrel;have HL := zh hl;clear hl
  by_cases hlt : j < 11
  ·have hlt' : (j : Int) < 11 := by omega
   have HOK := zh (Zxu j hlt);have e0 := (HL.o.cell _ (World.block_lt_of_cell? w1 _ (HC.o j hlt))).trans (HC.o j hlt);obtain ⟨t, ht⟩ : ∃ z : ByteArray, z = ⟨(lvT.getD j []).toArray⟩ := ⟨_, rfl⟩;rw [← ht] at e0;have hf := Tryz.strings_Fields_laid t wr (by rw [ht]; have := HOK.o.2.2.2; show (lvT.getD j []).length < _; omega) (fun i b hb => HOK.o.1 b (by rw [ht] at hb; exact List.mem_of_getElem? hb)) (HT.o.below (HL1.o.trans HL.o));rw [show t.data.toList = lvT.getD j [] by rw [ht]] at hf;have HFD := zh (show Calls Tryz.prog 182 #[.string t] wr fun e w' => e = .returned (.slice (some ⟨wr.heap.size, 0, none⟩) (wL j).length (wL j).length) ∧ w' = wr.alloc (Zau (wL j)) from hf);have hrw := Zcn (Zav (wL j)) _ s _ _ (Zdf wr (wL j) HOK.o.2.1 HOK.o.2.2.1);obtain ⟨q, hq⟩ : ∃ z, z = Zbm (Zav (wL j)) s := ⟨_, rfl⟩;rw [← hq] at hrw;have HRW := zh hrw;have HQ := zh hq;have tj : IntKind.i64.wrap ((j : Int) + 1) = ((j + 1 : Nat) : Int) := by rw [IntWalk.i64_in _ (by omega)]; rfl
   clear hf hrw hq ht;go_wp2_with fail;refine HFD.o.mono ?_;rintro e w2 ⟨rfl, rfl⟩;go_wp2_with fail;refine HRW.o.mono ?_;rintro e w3 ⟨rfl, rfl⟩;have HL3 := zh (Zb.trans HL.o ((Zb.refl wr).alloc (Zau (wL j))))
   cases q with
   | true =>
    go_wp2_with fail;go_ret;exact ⟨⟨_, rfl, by rw [Zts hlt HQ.o.symm]; exact nT (by omega)⟩, HL1.o.trans HL3.o⟩
   | false =>
    go_wp2_with fail
    go_roundw
    case rel => exact ⟨j + 1, by omega, by go_num, zh (fun k hk => by
     by_cases h2 : k < j
     ·exact HJ.o k h2
     ·obtain rfl : k = j := by omega
      exact HQ.o.symm), HL3.o⟩
    case measure => simp [intOf]; omega
  ·obtain rfl : j = 11 := by omega
   go_wp2_with fail;go_ret;exact ⟨⟨0, rfl, by rw [Ztt (fun k hk => HJ.o k hk)]; rfl⟩, HL1.o.trans HL.o⟩
theorem Ziz (s : ByteArray) (w : World) : Calls Tryz.prog 195 #[.string s] w fun e w' => e = .returned (.bool (Zrw s)) ∧ Below w.heap.size w w' := by
 have hro := Zjb (Zav Zm6) _ s _ _ (Zdf w Zm6 (by decide) (by decide));rw [Zdv] at hro;have HC := zh hro;clear hro;go_enter Tryz.func195, Tryz.ntmps195;go_wp2_with fail;refine HC.o.mono ?_;rintro e w' ⟨rfl, hw⟩;subst hw;go_wp2_with fail;go_ret;exact ⟨rfl, (Below.refl _ _).alloc (Nat.le_refl _) _⟩
theorem Zkq (s : ByteArray) (w : World) : Calls Tryz.prog 196 #[.string s] w fun e w' => e = .returned (.bool (Zxt s)) ∧ Below w.heap.size w w' := by
 have hro := Zjb (Zav wUn) _ s _ _ (Zdf w wUn (by decide) (by decide));rw [Zdv] at hro;have HC := zh hro;clear hro;go_enter Tryz.func196, Tryz.ntmps196;go_wp2_with fail;refine HC.o.mono ?_;rintro e w' ⟨rfl, hw⟩;subst hw;go_wp2_with fail;go_ret;exact ⟨rfl, (Below.refl _ _).alloc (Nat.le_refl _) _⟩
theorem Zgn (w : World) : Calls Tryz.prog 91 #[] w fun e w' => e = .returned (.slice (some ⟨w.heap.size, 0, none⟩) 55 55) ∧ w' = w.alloc (Zau Zd0) := by
 go_enter Tryz.func91, Tryz.ntmps91
 go_wp2
 go_ret;exact ⟨rfl, rfl⟩
theorem Zjp (s : ByteArray) (w : World) : Calls Tryz.prog 197 #[.string s] w fun e w' => (∃ r : Int, e = .returned (.int .i64 r) ∧ decide (0 < r) = Zd7 s) ∧ Below w.heap.size w w' := by
 obtain ⟨R, hR⟩ : ∃ z, Zd7 s = z := ⟨_, rfl⟩;rw [hR];have HR := zh (show R = decide (bl s ∈ Zjc) from hR.symm);clear hR;have hbl := zh (Zas s);go_enter Tryz.func197, Tryz.ntmps197;go_upto_region 2 with (fail)
 by_cases h2 : bl s = [38]
 ·have e2 : (s.toList == [38]) = true := by rw [beq_iff_eq, hbl.o]; exact h2
  go_wp2_with fail;go_ret;exact ⟨⟨_, rfl, by rw [HR.o, h2]; decide +kernel⟩, Below.refl _ _⟩
 have e2 : (s.toList == [38]) = false := by rw [nH, hbl.o]; exact h2
 have H2 := zh h2;clear h2;go_upto_region 4 with (fail);clear e2
 by_cases h4 : bl s = [63]
 ·have e4 : (s.toList == [63]) = true := by rw [beq_iff_eq, hbl.o]; exact h4
  go_wp2_with fail;go_ret;exact ⟨⟨_, rfl, by rw [HR.o, h4]; decide +kernel⟩, Below.refl _ _⟩
 have e4 : (s.toList == [63]) = false := by rw [nH, hbl.o]; exact h4
 have H4 := zh h4;clear h4;go_upto_region 6 with (fail);clear e4
 by_cases h6 : bl s = [58, 61]
 ·have e6 : (s.toList == [58, 61]) = true := by rw [beq_iff_eq, hbl.o]; exact h6
  go_wp2_with fail;go_ret;exact ⟨⟨_, rfl, by rw [HR.o, h6]; decide +kernel⟩, Below.refl _ _⟩
 have e6 : (s.toList == [58, 61]) = false := by rw [nH, hbl.o]; exact h6
 have H6 := zh h6;clear h6;go_upto_region 7 with (fail);clear e6
 by_cases h7 : bl s = [60, 45]
 ·have e7 : (s.toList == [60, 45]) = true := by rw [beq_iff_eq, hbl.o]; exact h7
  go_wp2_with fail;go_ret;exact ⟨⟨_, rfl, by rw [HR.o, h7]; decide +kernel⟩, Below.refl _ _⟩
 have e7 : (s.toList == [60, 45]) = false := by rw [nH, hbl.o]; exact h7
 have H7 := zh h7;clear h7;go_upto_region 8 with (fail);clear e7
 by_cases h8 : bl s = [58, 61, 58]
 ·have e8 : (s.toList == [58, 61, 58]) = true := by rw [beq_iff_eq, hbl.o]; exact h8
  go_wp2_with fail;go_ret;exact ⟨⟨_, rfl, by rw [HR.o, h8]; decide +kernel⟩, Below.refl _ _⟩
 have e8 : (s.toList == [58, 61, 58]) = false := by rw [nH, hbl.o]; exact h8
 have H8 := zh h8;clear h8;go_upto_region 9 with (fail);clear e8
 by_cases h9 : bl s = [60, 45, 62]
 ·have e9 : (s.toList == [60, 45, 62]) = true := by rw [beq_iff_eq, hbl.o]; exact h9
  go_wp2_with fail;go_ret;exact ⟨⟨_, rfl, by rw [HR.o, h9]; decide +kernel⟩, Below.refl _ _⟩
 have e9 : (s.toList == [60, 45, 62]) = false := by rw [nH, hbl.o]; exact h9
 have H9 := zh h9;clear h9;go_upto_region 10 with (fail);clear e9
 by_cases h10 : bl s = [43, 58, 61]
 ·have e10 : (s.toList == [43, 58, 61]) = true := by rw [beq_iff_eq, hbl.o]; exact h10
  go_wp2_with fail;go_ret;exact ⟨⟨_, rfl, by rw [HR.o, h10]; decide +kernel⟩, Below.refl _ _⟩
 have e10 : (s.toList == [43, 58, 61]) = false := by rw [nH, hbl.o]; exact h10
 have H10 := zh h10;clear h10;go_upto_region 11 with (fail);clear e10
 by_cases h11 : bl s = [45, 58, 61]
 ·have e11 : (s.toList == [45, 58, 61]) = true := by rw [beq_iff_eq, hbl.o]; exact h11
  go_wp2_with fail;go_ret;exact ⟨⟨_, rfl, by rw [HR.o, h11]; decide +kernel⟩, Below.refl _ _⟩
 have e11 : (s.toList == [45, 58, 61]) = false := by rw [nH, hbl.o]; exact h11
 have H11 := zh h11;clear h11;go_upto_region 12 with (fail);clear e11
 by_cases h12 : bl s = [42, 58, 61]
 ·have e12 : (s.toList == [42, 58, 61]) = true := by rw [beq_iff_eq, hbl.o]; exact h12
  go_wp2_with fail;go_ret;exact ⟨⟨_, rfl, by rw [HR.o, h12]; decide +kernel⟩, Below.refl _ _⟩
 have e12 : (s.toList == [42, 58, 61]) = false := by rw [nH, hbl.o]; exact h12
 have H12 := zh h12;clear h12;go_upto_region 13 with (fail);clear e12
 by_cases h13 : bl s = [47, 58, 61]
 ·have e13 : (s.toList == [47, 58, 61]) = true := by rw [beq_iff_eq, hbl.o]; exact h13
  go_wp2_with fail;go_ret;exact ⟨⟨_, rfl, by rw [HR.o, h13]; decide +kernel⟩, Below.refl _ _⟩
 have e13 : (s.toList == [47, 58, 61]) = false := by rw [nH, hbl.o]; exact h13
 have H13 := zh h13;clear h13;go_upto_region 14 with (fail);clear e13
 by_cases h14 : bl s = [37, 58, 61]
 ·have e14 : (s.toList == [37, 58, 61]) = true := by rw [beq_iff_eq, hbl.o]; exact h14
  go_wp2_with fail;go_ret;exact ⟨⟨_, rfl, by rw [HR.o, h14]; decide +kernel⟩, Below.refl _ _⟩
 have e14 : (s.toList == [37, 58, 61]) = false := by rw [nH, hbl.o]; exact h14
 have H14 := zh h14;clear h14;go_upto_region 15 with (fail);clear e14
 by_cases h15 : bl s = [94, 58, 61]
 ·have e15 : (s.toList == [94, 58, 61]) = true := by rw [beq_iff_eq, hbl.o]; exact h15
  go_wp2_with fail;go_ret;exact ⟨⟨_, rfl, by rw [HR.o, h15]; decide +kernel⟩, Below.refl _ _⟩
 have e15 : (s.toList == [94, 58, 61]) = false := by rw [nH, hbl.o]; exact h15
 have H15 := zh h15;clear h15;go_upto_region 16 with (fail);clear e15
 by_cases h16 : bl s = [124, 124, 58, 61]
 ·have e16 : (s.toList == [124, 124, 58, 61]) = true := by rw [beq_iff_eq, hbl.o]; exact h16
  go_wp2_with fail;go_ret;exact ⟨⟨_, rfl, by rw [HR.o, h16]; decide +kernel⟩, Below.refl _ _⟩
 have e16 : (s.toList == [124, 124, 58, 61]) = false := by rw [nH, hbl.o]; exact h16
 have H16 := zh h16;clear h16;go_upto_region 17 with (fail);clear e16
 by_cases h17 : bl s = [124, 124, 124, 58, 61]
 ·have e17 : (s.toList == [124, 124, 124, 58, 61]) = true := by rw [beq_iff_eq, hbl.o]; exact h17
  go_wp2_with fail;go_ret;exact ⟨⟨_, rfl, by rw [HR.o, h17]; decide +kernel⟩, Below.refl _ _⟩
 have e17 : (s.toList == [124, 124, 124, 58, 61]) = false := by rw [nH, hbl.o]; exact h17
 have H17 := zh h17;clear h17;go_upto_region 18 with (fail);clear e17
 by_cases h18 : bl s = [43, 43, 58, 61]
 ·have e18 : (s.toList == [43, 43, 58, 61]) = true := by rw [beq_iff_eq, hbl.o]; exact h18
  go_wp2_with fail;go_ret;exact ⟨⟨_, rfl, by rw [HR.o, h18]; decide +kernel⟩, Below.refl _ _⟩
 have e18 : (s.toList == [43, 43, 58, 61]) = false := by rw [nH, hbl.o]; exact h18
 have H18 := zh h18;clear h18;go_upto_region 19 with (fail);clear e18
 by_cases h19 : bl s = [45, 45, 58, 61]
 ·have e19 : (s.toList == [45, 45, 58, 61]) = true := by rw [beq_iff_eq, hbl.o]; exact h19
  go_wp2_with fail;go_ret;exact ⟨⟨_, rfl, by rw [HR.o, h19]; decide +kernel⟩, Below.refl _ _⟩
 have e19 : (s.toList == [45, 45, 58, 61]) = false := by rw [nH, hbl.o]; exact h19
 have H19 := zh h19;clear h19;go_upto_region 20 with (fail);clear e19
 by_cases h20 : bl s = [42, 42, 58, 61]
 ·have e20 : (s.toList == [42, 42, 58, 61]) = true := by rw [beq_iff_eq, hbl.o]; exact h20
  go_wp2_with fail;go_ret;exact ⟨⟨_, rfl, by rw [HR.o, h20]; decide +kernel⟩, Below.refl _ _⟩
 have e20 : (s.toList == [42, 42, 58, 61]) = false := by rw [nH, hbl.o]; exact h20
 have H20 := zh h20;clear h20;go_upto_region 22 with (fail);clear e20
 by_cases h22 : bl s = [124]
 ·have e22 : (s.toList == [124]) = true := by rw [beq_iff_eq, hbl.o]; exact h22
  go_wp2_with fail;go_ret;exact ⟨⟨_, rfl, by rw [HR.o, h22]; decide +kernel⟩, Below.refl _ _⟩
 have e22 : (s.toList == [124]) = false := by rw [nH, hbl.o]; exact h22
 have H22 := zh h22;clear h22;go_upto_region 23 with (fail);clear e22
 by_cases h23 : bl s = [46, 124]
 ·have e23 : (s.toList == [46, 124]) = true := by rw [beq_iff_eq, hbl.o]; exact h23
  go_wp2_with fail;go_ret;exact ⟨⟨_, rfl, by rw [HR.o, h23]; decide +kernel⟩, Below.refl _ _⟩
 have e23 : (s.toList == [46, 124]) = false := by rw [nH, hbl.o]; exact h23
 have H23 := zh h23;clear h23;go_upto_region 25 with (fail);clear e23
 by_cases h25 : bl s = [60]
 ·have e25 : (s.toList == [60]) = true := by rw [beq_iff_eq, hbl.o]; exact h25
  go_wp2_with fail;go_ret;exact ⟨⟨_, rfl, by rw [HR.o, h25]; decide +kernel⟩, Below.refl _ _⟩
 have e25 : (s.toList == [60]) = false := by rw [nH, hbl.o]; exact h25
 have H25 := zh h25;clear h25;go_upto_region 26 with (fail);clear e25
 by_cases h26 : bl s = [60, 61]
 ·have e26 : (s.toList == [60, 61]) = true := by rw [beq_iff_eq, hbl.o]; exact h26
  go_wp2_with fail;go_ret;exact ⟨⟨_, rfl, by rw [HR.o, h26]; decide +kernel⟩, Below.refl _ _⟩
 have e26 : (s.toList == [60, 61]) = false := by rw [nH, hbl.o]; exact h26
 have H26 := zh h26;clear h26;go_upto_region 27 with (fail);clear e26
 by_cases h27 : bl s = [61]
 ·have e27 : (s.toList == [61]) = true := by rw [beq_iff_eq, hbl.o]; exact h27
  go_wp2_with fail;go_ret;exact ⟨⟨_, rfl, by rw [HR.o, h27]; decide +kernel⟩, Below.refl _ _⟩
 have e27 : (s.toList == [61]) = false := by rw [nH, hbl.o]; exact h27
 have H27 := zh h27;clear h27;go_upto_region 28 with (fail);clear e27
 by_cases h28 : bl s = [62, 61]
 ·have e28 : (s.toList == [62, 61]) = true := by rw [beq_iff_eq, hbl.o]; exact h28
  go_wp2_with fail;go_ret;exact ⟨⟨_, rfl, by rw [HR.o, h28]; decide +kernel⟩, Below.refl _ _⟩
 have e28 : (s.toList == [62, 61]) = false := by rw [nH, hbl.o]; exact h28
 have H28 := zh h28;clear h28;go_upto_region 29 with (fail);clear e28
 by_cases h29 : bl s = [62]
 ·have e29 : (s.toList == [62]) = true := by rw [beq_iff_eq, hbl.o]; exact h29
  go_wp2_with fail;go_ret;exact ⟨⟨_, rfl, by rw [HR.o, h29]; decide +kernel⟩, Below.refl _ _⟩
 have e29 : (s.toList == [62]) = false := by rw [nH, hbl.o]; exact h29
 have H29 := zh h29;clear h29;go_upto_region 30 with (fail);clear e29
 by_cases h30 : bl s = [126, 61]
 ·have e30 : (s.toList == [126, 61]) = true := by rw [beq_iff_eq, hbl.o]; exact h30
  go_wp2_with fail;go_ret;exact ⟨⟨_, rfl, by rw [HR.o, h30]; decide +kernel⟩, Below.refl _ _⟩
 have e30 : (s.toList == [126, 61]) = false := by rw [nH, hbl.o]; exact h30
 have H30 := zh h30;clear h30;go_upto_region 31 with (fail);clear e30
 by_cases h31 : bl s = [60, 60]
 ·have e31 : (s.toList == [60, 60]) = true := by rw [beq_iff_eq, hbl.o]; exact h31
  go_wp2_with fail;go_ret;exact ⟨⟨_, rfl, by rw [HR.o, h31]; decide +kernel⟩, Below.refl _ _⟩
 have e31 : (s.toList == [60, 60]) = false := by rw [nH, hbl.o]; exact h31
 have H31 := zh h31;clear h31;go_upto_region 32 with (fail);clear e31
 by_cases h32 : bl s = [60, 60, 61]
 ·have e32 : (s.toList == [60, 60, 61]) = true := by rw [beq_iff_eq, hbl.o]; exact h32
  go_wp2_with fail;go_ret;exact ⟨⟨_, rfl, by rw [HR.o, h32]; decide +kernel⟩, Below.refl _ _⟩
 have e32 : (s.toList == [60, 60, 61]) = false := by rw [nH, hbl.o]; exact h32
 have H32 := zh h32;clear h32;go_upto_region 33 with (fail);clear e32
 by_cases h33 : bl s = [61, 61]
 ·have e33 : (s.toList == [61, 61]) = true := by rw [beq_iff_eq, hbl.o]; exact h33
  go_wp2_with fail;go_ret;exact ⟨⟨_, rfl, by rw [HR.o, h33]; decide +kernel⟩, Below.refl _ _⟩
 have e33 : (s.toList == [61, 61]) = false := by rw [nH, hbl.o]; exact h33
 have H33 := zh h33;clear h33;go_upto_region 34 with (fail);clear e33
 by_cases h34 : bl s = [62, 62, 61]
 ·have e34 : (s.toList == [62, 62, 61]) = true := by rw [beq_iff_eq, hbl.o]; exact h34
  go_wp2_with fail;go_ret;exact ⟨⟨_, rfl, by rw [HR.o, h34]; decide +kernel⟩, Below.refl _ _⟩
 have e34 : (s.toList == [62, 62, 61]) = false := by rw [nH, hbl.o]; exact h34
 have H34 := zh h34;clear h34;go_upto_region 35 with (fail);clear e34
 by_cases h35 : bl s = [62, 62]
 ·have e35 : (s.toList == [62, 62]) = true := by rw [beq_iff_eq, hbl.o]; exact h35
  go_wp2_with fail;go_ret;exact ⟨⟨_, rfl, by rw [HR.o, h35]; decide +kernel⟩, Below.refl _ _⟩
 have e35 : (s.toList == [62, 62]) = false := by rw [nH, hbl.o]; exact h35
 have H35 := zh h35;clear h35;go_upto_region 36 with (fail);clear e35
 by_cases h36 : bl s = [126, 61, 61]
 ·have e36 : (s.toList == [126, 61, 61]) = true := by rw [beq_iff_eq, hbl.o]; exact h36
  go_wp2_with fail;go_ret;exact ⟨⟨_, rfl, by rw [HR.o, h36]; decide +kernel⟩, Below.refl _ _⟩
 have e36 : (s.toList == [126, 61, 61]) = false := by rw [nH, hbl.o]; exact h36
 have H36 := zh h36;clear h36;go_upto_region 37 with (fail);clear e36
 by_cases h37 : bl s = [61, 61, 61]
 ·have e37 : (s.toList == [61, 61, 61]) = true := by rw [beq_iff_eq, hbl.o]; exact h37
  go_wp2_with fail;go_ret;exact ⟨⟨_, rfl, by rw [HR.o, h37]; decide +kernel⟩, Below.refl _ _⟩
 have e37 : (s.toList == [61, 61, 61]) = false := by rw [nH, hbl.o]; exact h37
 have H37 := zh h37;clear h37;go_upto_region 38 with (fail);clear e37
 by_cases h38 : bl s = [126, 61, 61, 61]
 ·have e38 : (s.toList == [126, 61, 61, 61]) = true := by rw [beq_iff_eq, hbl.o]; exact h38
  go_wp2_with fail;go_ret;exact ⟨⟨_, rfl, by rw [HR.o, h38]; decide +kernel⟩, Below.refl _ _⟩
 have e38 : (s.toList == [126, 61, 61, 61]) = false := by rw [nH, hbl.o]; exact h38
 have H38 := zh h38;clear h38;go_upto_region 39 with (fail);clear e38
 by_cases h39 : bl s = [63, 63]
 ·have e39 : (s.toList == [63, 63]) = true := by rw [beq_iff_eq, hbl.o]; exact h39
  go_wp2_with fail;go_ret;exact ⟨⟨_, rfl, by rw [HR.o, h39]; decide +kernel⟩, Below.refl _ _⟩
 have e39 : (s.toList == [63, 63]) = false := by rw [nH, hbl.o]; exact h39
 have H39 := zh h39;clear h39;go_upto_region 41 with (fail);clear e39
 by_cases h41 : bl s = [124, 124]
 ·have e41 : (s.toList == [124, 124]) = true := by rw [beq_iff_eq, hbl.o]; exact h41
  go_wp2_with fail;go_ret;exact ⟨⟨_, rfl, by rw [HR.o, h41]; decide +kernel⟩, Below.refl _ _⟩
 have e41 : (s.toList == [124, 124]) = false := by rw [nH, hbl.o]; exact h41
 have H41 := zh h41;clear h41;go_upto_region 42 with (fail);clear e41
 by_cases h42 : bl s = [124, 124, 124]
 ·have e42 : (s.toList == [124, 124, 124]) = true := by rw [beq_iff_eq, hbl.o]; exact h42
  go_wp2_with fail;go_ret;exact ⟨⟨_, rfl, by rw [HR.o, h42]; decide +kernel⟩, Below.refl _ _⟩
 have e42 : (s.toList == [124, 124, 124]) = false := by rw [nH, hbl.o]; exact h42
 have H42 := zh h42;clear h42;go_upto_region 44 with (fail);clear e42
 by_cases h44 : bl s = [43]
 ·have e44 : (s.toList == [43]) = true := by rw [beq_iff_eq, hbl.o]; exact h44
  go_wp2_with fail;go_ret;exact ⟨⟨_, rfl, by rw [HR.o, h44]; decide +kernel⟩, Below.refl _ _⟩
 have e44 : (s.toList == [43]) = false := by rw [nH, hbl.o]; exact h44
 have H44 := zh h44;clear h44;go_upto_region 45 with (fail);clear e44
 by_cases h45 : bl s = [45]
 ·have e45 : (s.toList == [45]) = true := by rw [beq_iff_eq, hbl.o]; exact h45
  go_wp2_with fail;go_ret;exact ⟨⟨_, rfl, by rw [HR.o, h45]; decide +kernel⟩, Below.refl _ _⟩
 have e45 : (s.toList == [45]) = false := by rw [nH, hbl.o]; exact h45
 have H45 := zh h45;clear h45;go_upto_region 46 with (fail);clear e45
 by_cases h46 : bl s = [43, 43]
 ·have e46 : (s.toList == [43, 43]) = true := by rw [beq_iff_eq, hbl.o]; exact h46
  go_wp2_with fail;go_ret;exact ⟨⟨_, rfl, by rw [HR.o, h46]; decide +kernel⟩, Below.refl _ _⟩
 have e46 : (s.toList == [43, 43]) = false := by rw [nH, hbl.o]; exact h46
 have H46 := zh h46;clear h46;go_upto_region 47 with (fail);clear e46
 by_cases h47 : bl s = [45, 45]
 ·have e47 : (s.toList == [45, 45]) = true := by rw [beq_iff_eq, hbl.o]; exact h47
  go_wp2_with fail;go_ret;exact ⟨⟨_, rfl, by rw [HR.o, h47]; decide +kernel⟩, Below.refl _ _⟩
 have e47 : (s.toList == [45, 45]) = false := by rw [nH, hbl.o]; exact h47
 have H47 := zh h47;clear h47;go_upto_region 49 with (fail);clear e47
 by_cases h49 : bl s = [42]
 ·have e49 : (s.toList == [42]) = true := by rw [beq_iff_eq, hbl.o]; exact h49
  go_wp2_with fail;go_ret;exact ⟨⟨_, rfl, by rw [HR.o, h49]; decide +kernel⟩, Below.refl _ _⟩
 have e49 : (s.toList == [42]) = false := by rw [nH, hbl.o]; exact h49
 have H49 := zh h49;clear h49;go_upto_region 50 with (fail);clear e49
 by_cases h50 : bl s = [47]
 ·have e50 : (s.toList == [47]) = true := by rw [beq_iff_eq, hbl.o]; exact h50
  go_wp2_with fail;go_ret;exact ⟨⟨_, rfl, by rw [HR.o, h50]; decide +kernel⟩, Below.refl _ _⟩
 have e50 : (s.toList == [47]) = false := by rw [nH, hbl.o]; exact h50
 have H50 := zh h50;clear h50;go_upto_region 51 with (fail);clear e50
 by_cases h51 : bl s = [37]
 ·have e51 : (s.toList == [37]) = true := by rw [beq_iff_eq, hbl.o]; exact h51
  go_wp2_with fail;go_ret;exact ⟨⟨_, rfl, by rw [HR.o, h51]; decide +kernel⟩, Below.refl _ _⟩
 have e51 : (s.toList == [37]) = false := by rw [nH, hbl.o]; exact h51
 have H51 := zh h51;clear h51;go_upto_region 52 with (fail);clear e51
 by_cases h52 : bl s = [42, 42]
 ·have e52 : (s.toList == [42, 42]) = true := by rw [beq_iff_eq, hbl.o]; exact h52
  go_wp2_with fail;go_ret;exact ⟨⟨_, rfl, by rw [HR.o, h52]; decide +kernel⟩, Below.refl _ _⟩
 have e52 : (s.toList == [42, 42]) = false := by rw [nH, hbl.o]; exact h52
 have H52 := zh h52;clear h52;go_upto_region 54 with (fail);clear e52
 by_cases h54 : bl s = [94]
 ·have e54 : (s.toList == [94]) = true := by rw [beq_iff_eq, hbl.o]; exact h54
  go_wp2_with fail;go_ret;exact ⟨⟨_, rfl, by rw [HR.o, h54]; decide +kernel⟩, Below.refl _ _⟩
 have e54 : (s.toList == [94]) = false := by rw [nH, hbl.o]; exact h54
 have H54 := zh h54;clear h54;go_upto_region 56 with (fail);clear e54
 by_cases h56 : bl s = [92]
 ·have e56 : (s.toList == [92]) = true := by rw [beq_iff_eq, hbl.o]; exact h56
  go_wp2_with fail;go_ret;exact ⟨⟨_, rfl, by rw [HR.o, h56]; decide +kernel⟩, Below.refl _ _⟩
 have e56 : (s.toList == [92]) = false := by rw [nH, hbl.o]; exact h56
 have H56 := zh h56;clear h56;go_upto_region 57 with (fail);clear e56
 by_cases h57 : bl s = [45, 62]
 ·have e57 : (s.toList == [45, 62]) = true := by rw [beq_iff_eq, hbl.o]; exact h57
  go_wp2_with fail;go_ret;exact ⟨⟨_, rfl, by rw [HR.o, h57]; decide +kernel⟩, Below.refl _ _⟩
 have e57 : (s.toList == [45, 62]) = false := by rw [nH, hbl.o]; exact h57
 have H57 := zh h57;clear h57;go_upto_region 58 with (fail);clear e57
 by_cases h58 : bl s = [61, 62]
 ·have e58 : (s.toList == [61, 62]) = true := by rw [beq_iff_eq, hbl.o]; exact h58
  go_wp2_with fail;go_ret;exact ⟨⟨_, rfl, by rw [HR.o, h58]; decide +kernel⟩, Below.refl _ _⟩
 have e58 : (s.toList == [61, 62]) = false := by rw [nH, hbl.o]; exact h58
 have H58 := zh h58;clear h58;go_wp2_with fail;go_ret;exact ⟨⟨_, rfl, by rw [HR.o]; show false = _; symm; rw [nI]; simp only [Zjc, List.mem_cons, List.not_mem_nil, or_false, not_or]; exact ⟨H2.o, H4.o, H6.o, H7.o, H8.o, H9.o, H10.o, H11.o, H12.o, H13.o, H14.o, H15.o, H16.o, H17.o, H18.o, H19.o, H20.o, H22.o, H23.o, H25.o, H26.o, H27.o, H28.o, H29.o, H30.o, H31.o, H32.o, H33.o, H34.o, H35.o, H36.o, H37.o, H38.o, H39.o, H41.o, H42.o, H44.o, H45.o, H46.o, H47.o, H49.o, H50.o, H51.o, H52.o, H54.o, H56.o, H57.o, H58.o⟩⟩, Below.refl _ _⟩
theorem Zkd (N : Nat) (F : Nat → Prop) (w : World) (u : Zt) (A1 A2 A3 : Option Addr) (k1 k2 k3 : Nat) (s : ByteArray) (hu : UV N F w u A1 A2 A3 k1 k2 k3) (ht : Spc w) : Calls Tryz.prog 153 #[.agg #[.slice A1 u.aA.length k1, .slice A2 u.globals.length k2, .slice A3 u.procedures.length k3], .string s] w fun e w' => e = .returned (.tuple #[.int .i64 (Zb1 u s).1, .int .i64 (Zb1 u s).2]) ∧ Below w.heap.size w w' := by
 have HU := zh hu;obtain ⟨hn1, hn2, hn3⟩ := hu.len;obtain ⟨wb, hlwb, HB, hwb⟩ := aN w (.cells #[.slice A1 u.aA.length k1, .slice A2 u.globals.length k2, .slice A3 u.procedures.length k3] 52);replace HB := zh HB;have HLb := zh hlwb;have HT := zh (ht.below hlwb);clear ht;clear hlwb hu;obtain ⟨R, hR⟩ : ∃ z, z = (Zb1 u s).1 := ⟨_, rfl⟩;obtain ⟨Q, hQ⟩ : ∃ z, z = (Zb1 u s).2 := ⟨_, rfl⟩;rw [← hR, ← hQ];have HR := zh hR;have HQ := zh hQ;clear hR hQ;have g0 := cz3 HB.o;have fg0 := fz HB.o;go_enter Tryz.func153, Tryz.ntmps153;go_wp2_with fail
 go_loopw [16] (fun iv wr => ∃ j : Nat, j ≤ u.aA.length ∧ iv = .int .i64 j ∧ Hd (∀ k (h : k < u.aA.length), k < j → u.aA[k].name ≠ s) ∧ Zb wb wr) (fun iv _ => u.aA.length - (intOf iv).toNat)
 case atStart => exact ⟨0, Nat.zero_le _, rfl, zh (fun k _ h => by omega), Zb.refl _⟩
 case round =>
  obtain ⟨j, hj, rfl, HJ1, hl⟩ := hrel;have HL := zh hl;clear hl;clear g0 fg0;have HBk := zB HL HB;have g0 := cz3 HBk.o;have fg0 := fz HBk.o
  by_cases hlt : j < u.aA.length
  ·have hlt' : (j : Int) < (u.aA.length : Int) := by omega
   have HUr := zh (HU.o.later (HLb.o.trans HL.o));obtain ⟨pb, po, As, ks, eA, hat⟩ := HUr.o.rct hlt;cases eA;have hfl := hat.len;have HST := zh (fun (h : u.aA[j].name ≠ s) => show ∀ k (h : k < u.aA.length), k < j + 1 → u.aA[k].name ≠ s from fun k hk h2 => by
    rcases Nat.lt_or_ge k j with h3 | h3
    ·exact HJ1.o k hk h3
    ·obtain rfl : k = j := by omega
     exact h)
   have HHIT := zh (fun (h : u.aA[j].name = s) => Zoh hlt h HJ1.o);obtain ⟨r, hv_⟩ : ∃ z, z = u.aA[j] := ⟨_, rfl⟩;rw [← hv_] at hat HHIT HST;have HAT := zh hat;have d0 := hat.c0;have d1 := hat.c1;have d2 := hat.c2;clear hat hv_;obtain ⟨w4, hla, HRB, hw4⟩ := aN wr (.cells #[.string r.name, .slice As r.fields.length ks, .int .i64 r.line] 101);replace HRB := zh HRB;have HL4 := zh (Zb.trans HL.o hla);have HW4 := zh hw4;obtain ⟨RB, hRB⟩ : ∃ z, wr.heap.size = z := ⟨_, rfl⟩;rw [hRB] at HRB;have HRE := zh hRB;clear hla hw4 hRB;go_upto_region 4 with (fail);rw [HW4.o, HRE.o];clear d0 d1 d2;obtain ⟨r0, r1, r2⟩ := cz3 HRB.o;have fr0 := fz HRB.o
   by_cases he : r.name = s
   ·have hh := HHIT.o he;obtain rfl : R = _ := HR.o.trans (congrArg Prod.fst hh);obtain rfl : Q = _ := HQ.o.trans (congrArg Prod.snd hh);have v1 : (r.name.toList == s.toList) = true := by rw [he]; simp
    clear hh he;go_wp2_with fail
    go_ret2
    exact ⟨rfl, HLb.o.trans HL4.o⟩
   ·have v1 : (r.name.toList == s.toList) = false := by rw [nH]; exact fun h => he (Zdy h)
    have HST2 := zh (HST.o he);clear he;go_wp2_with fail
    go_roundw
    case rel => exact ⟨j + 1, by omega, by go_num, HST2, HL4.o⟩
    case measure => simp [intOf]; omega
  ·obtain rfl : j = u.aA.length := by omega
   have F1 := zh (show Zak (Zba u) s = -1 from Zgg fun k hk => HJ1.o k hk hk);clear hlt;go_wp2_with fail
   go_loopw [30] (fun iv wr => ∃ j : Nat, j ≤ u.globals.length ∧ iv = .int .i64 j ∧ Hd (∀ k (h : k < u.globals.length), k < j → u.globals[k] ≠ s) ∧ Zb wb wr) (fun iv _ => u.globals.length - (intOf iv).toNat)
   case atStart => exact ⟨0, Nat.zero_le _, rfl, zh (fun k _ h => by omega), HL.o⟩
   case round =>
    obtain ⟨j, hj, rfl, HJ2, hl⟩ := hrel;have HL := zh hl;clear hl;clear g0 fg0;have HBk := zB HL HB;have g0 := cz3 HBk.o;have fg0 := fz HBk.o
    by_cases hlt : j < u.globals.length
    ·have hlt' : (j : Int) < (u.globals.length : Int) := by omega
     obtain ⟨A', c', eA, _, _, hel⟩ := (HU.o.later (HLb.o.trans HL.o)).gl;cases eA;obtain ⟨gb, go, cs, rfl, -, hgb, ⟨rfl, -⟩, hgc⟩ := hel j hlt;have d0 := hgc 0 _ rfl;simp only [Nat.mul_one, Nat.add_zero] at d0;clear hgc hel;have HST := zh (fun (h : u.globals[j] ≠ s) => show ∀ k (h : k < u.globals.length), k < j + 1 → u.globals[k] ≠ s from fun k hk h2 => by
      rcases Nat.lt_or_ge k j with h3 | h3
      ·exact HJ2.o k hk h3
      ·obtain rfl : k = j := by omega
       exact h)
     have HHIT := zh (fun (h : u.globals[j] = s) => Zoi F1.o (Zf3 hlt h HJ2.o) (by omega));obtain ⟨g, hv_⟩ : ∃ z, z = u.globals[j] := ⟨_, rfl⟩;rw [← hv_] at d0 HHIT HST;clear hv_
     by_cases he : g = s
     ·have hh := HHIT.o he;obtain rfl : R = _ := HR.o.trans (congrArg Prod.fst hh);obtain rfl : Q = _ := HQ.o.trans (congrArg Prod.snd hh);have v1 : (g.toList == s.toList) = true := by rw [he]; simp
      clear hh he;go_wp2_with fail
      go_ret2
      exact ⟨rfl, HLb.o.trans HL.o⟩
     ·have v1 : (g.toList == s.toList) = false := by rw [nH]; exact fun h => he (Zdy h)
      have HST2 := zh (HST.o he);clear he;go_wp2_with fail
      go_roundw
      case rel => exact ⟨j + 1, by omega, by go_num, HST2, HL.o⟩
      case measure => simp [intOf]; omega
    ·obtain rfl : j = u.globals.length := by omega
     have F2 := zh (show Zak u.globals s < 0 by rw [Zgy fun k hk => HJ2.o k hk hk]; decide);clear hlt;go_wp2_with fail
     go_loopw [43] (fun iv wr => ∃ j : Nat, j ≤ u.procedures.length ∧ iv = .int .i64 j ∧ Hd (∀ k (h : k < u.procedures.length), k < j → u.procedures[k].name ≠ s) ∧ Zb wb wr) (fun iv _ => u.procedures.length - (intOf iv).toNat)
     case atStart => exact ⟨0, Nat.zero_le _, rfl, zh (fun k _ h => by omega), HL.o⟩
     case round =>
      obtain ⟨j, hj, rfl, HJ3, hl⟩ := hrel;have HL := zh hl;clear hl;clear g0 fg0;have HBk := zB HL HB;have g0 := cz3 HBk.o;have fg0 := fz HBk.o
      by_cases hlt : j < u.procedures.length
      ·have hlt' : (j : Int) < (u.procedures.length : Int) := by omega
       have HUr := zh (HU.o.later (HLb.o.trans HL.o));obtain ⟨pb, po, Ap, Al, Ab, kp, kl, kb, eA, hat⟩ := HUr.o.proc hlt;cases eA;have hlp := hat.lp;have hll := hat.ll;have HST := zh (fun (h : u.procedures[j].name ≠ s) => show ∀ k (h : k < u.procedures.length), k < j + 1 → u.procedures[k].name ≠ s from fun k hk h2 => by
        rcases Nat.lt_or_ge k j with h3 | h3
        ·exact HJ3.o k hk h3
        ·obtain rfl : k = j := by omega
         exact h)
       have HHIT := zh (fun (h : u.procedures[j].name = s) => Zoj F1.o F2.o hlt h HJ3.o);obtain ⟨q, hv_⟩ : ∃ z, z = u.procedures[j] := ⟨_, rfl⟩;rw [← hv_] at hat HHIT HST;have HAT := zh hat;have d0 := hat.c0;have d1 := hat.c1;have d2 := hat.c2;have d3 := hat.c3;have d4 := hat.c4;have d5 := hat.c5;have d6 := hat.c6;have d7 := hat.c7;have d8 := hat.c8;clear hat hv_;obtain ⟨w4, hla, HRB, hw4⟩ := aN wr (.cells #[.string q.name, .slice Ap q.params.length kp, .slice Al q.locals.length kl, .int .i64 q.body.kind, .string q.body.text, .int .i64 q.body.aB, .int .i64 q.body.line, .slice Ab q.body.kids.length kb, .int .i64 q.line] 106);replace HRB := zh HRB;have HL4 := zh (Zb.trans HL.o hla);have HW4 := zh hw4;obtain ⟨RB, hRB⟩ : ∃ z, wr.heap.size = z := ⟨_, rfl⟩;rw [hRB] at HRB;have HRE := zh hRB;clear hla hw4 hRB;go_upto_region 16 with (fail);rw [HW4.o, HRE.o];clear d0 d1 d2 d3 d4 d5 d6 d7 d8;obtain ⟨r0, r1, r2, r3, r4, r5, r6, r7, r8⟩ := cz9 HRB.o;have fr0 := fz HRB.o
       by_cases he : q.name = s
       ·have hh := HHIT.o he;obtain rfl : R = _ := HR.o.trans (congrArg Prod.fst hh);obtain rfl : Q = _ := HQ.o.trans (congrArg Prod.snd hh);have v1 : (q.name.toList == s.toList) = true := by rw [he]; simp
        clear hh he;go_wp2_with fail
        go_ret2
        exact ⟨rfl, HLb.o.trans HL4.o⟩
       ·have v1 : (q.name.toList == s.toList) = false := by rw [nH]; exact fun h => he (Zdy h)
        have HST2 := zh (HST.o he);clear he;go_wp2_with fail
        go_roundw
        case rel => exact ⟨j + 1, by omega, by go_num, HST2, HL4.o⟩
        case measure => simp [intOf]; omega
      ·obtain rfl : j = u.procedures.length := by omega
       have F3 := zh (show Zak (Zdd u) s = -1 from Zgg fun k hk => HJ3.o k hk hk);clear hlt;go_wp2_with fail;refine (Zfm s _ (HT.o.below HL.o)).mono ?_;rintro e w5 ⟨rfl, hb⟩;have HL5 := zh (HL.o.trans hb);obtain ⟨z, hz⟩ : ∃ z, z = fnN s := ⟨_, rfl⟩;rw [← hz];have HZ := zh hz;clear hb hz
       by_cases h0 : 0 ≤ z
       ·have hh := Zok F1.o F2.o F3.o HZ.o.symm h0;obtain rfl : R = _ := HR.o.trans (congrArg Prod.fst hh);obtain rfl : Q = _ := HQ.o.trans (congrArg Prod.snd hh);have v1 : decide (0 ≤ Q) = true := nT h0;clear hh h0;go_wp2_with fail
        go_ret2
        exact ⟨rfl, HLb.o.trans HL5.o⟩
       ·have hh := Zqp F1.o F2.o F3.o (by rw [← HZ.o]; omega);obtain rfl : R = _ := HR.o.trans (congrArg Prod.fst hh);obtain rfl : Q = _ := HQ.o.trans (congrArg Prod.snd hh);have v1 : decide (0 ≤ z) = false := nU h0;clear hh h0;go_wp2_with fail
        go_ret2
        exact ⟨rfl, HLb.o.trans HL5.o⟩
theorem Zwi {a : Act} (w : World) (UB EB : Nat) (v : Value) (c : Ze) (A : Option Addr) (k : Nat) (HB : Hd (w.heap[EB]? = some (.cells #[.int .i64 c.kind, .string c.text, .int .i64 c.aB, .int .i64 c.line, .slice A c.kids.length k] 104 (0, 0)))) (HF : Hd (FaA UB EB v a)) : adT.wp Tryz.prog (Zc0 fun a' x => FaB UB EB v (c.kind == 4 || c.kind == 28) a' ∧ x = w) a w := by
 have c0 := Z1 HB.o;have fc0 := fz HB.o;obtain ⟨b4, hb4⟩ : ∃ z, (c.kind == 4) = z := ⟨_, rfl⟩;obtain ⟨b28, hb28⟩ : ∃ z, (c.kind == 28) = z := ⟨_, rfl⟩;rw [hb4, hb28];obtain ⟨fr, rfl⟩ := HF.o.opn;clear HF
 conv => arg 2; whnf
 cases b4 <;> cases b28 <;> (go_wp2_with fail; exact ⟨FaB.mk' rfl rfl rfl rfl rfl rfl, rfl⟩)
theorem Zuy {a : Act} (N : Nat) (w0 : World) (F : Nat → Prop) (u : Zt) (A1 A2 A3 : Option Addr) (k1 k2 k3 : Nat) (w : World) (UB EB : Nat) (c : Ze) (A : Option Addr) (k : Nat) (out : List ByteArray) (v : Value) (t : Bool) (HU : Hd (UV N F w0 u A1 A2 A3 k1 k2 k3)) (HT : Hd (Spc w0)) (HL : Hd (Zb w0 w)) (HR : Hd (Zax w0 w out v)) (hx : c.text.size ≤ maxLen) (hlen : out.length ≤ 1000000) (HUB : Hd (w.heap[UB]? = some (.cells #[.slice A1 u.aA.length k1, .slice A2 u.globals.length k2, .slice A3 u.procedures.length k3] 52 (0, 0)))) (HB : Hd (w.heap[EB]? = some (.cells #[.int .i64 c.kind, .string c.text, .int .i64 c.aB, .int .i64 c.line, .slice A c.kids.length k] 104 (0, 0)))) (HTQ : Hd (t = (c.kind == 4 || c.kind == 28))) (HF : Hd (FaB UB EB v t a)) : adIf.wp Tryz.prog (Zc0 fun a' x => ∃ v', FaA UB EB v' a' ∧ Zax w0 x (Ze8 u c.kind c.text out) v' ∧ Zbt w v x v') a w := by
 obtain ⟨iS, hiS, hz0, hz1, hz2⟩ := info_parts Zd2;have HX := zh hx;obtain ⟨hn1, hn2, hn3⟩ := HU.o.len;have hks1 : True := trivial;clear hx;have g0 := cz3 HUB.o;have fg0 := fz HUB.o;have c0 := Z1 HB.o;have fc0 := fz HB.o;obtain ⟨fr, rfl⟩ := HF.o.opn;clear HF
 conv => arg 2; whnf
 cases t with
 | false => (go_wp2_with fail; exact ⟨_, FaA.mk' rfl rfl rfl rfl rfl, by rw [Zqy HTQ.o.symm]; exact HR.o, Zbt.refl _ _⟩)
 | true =>
 go_wp2_with fail;refine (Zkd N F w u A1 A2 A3 k1 k2 k3 c.text (HU.o.later HL.o) (HT.o.below HL.o)).mono ?_;rintro e w2 ⟨rfl, hb⟩;have HL2 := zh (show Zb w w2 from hb);have HLL := zh (HL.o.trans hb);obtain ⟨z, hz⟩ : ∃ z, (Zb1 u c.text).1 = z := ⟨_, rfl⟩;obtain ⟨z', hz'⟩ : ∃ z, (Zb1 u c.text).2 = z := ⟨_, rfl⟩;rw [hz, hz'];have HZ := zh hz;clear hb hz hz';clear g0 fg0;clear c0 fc0;have HB2 := zB HL2 HB;have c0 := Z1 HB2.o;have fc0 := fz HB2.o;have HR2 := zh (HR.o.later HL2.o)
 by_cases h0 : z = 0
 ·subst h0;go_wp2_with fail;refine (Zcn out v c.text _ _ HR2.o.is).mono ?_;rintro e w3 ⟨rfl, hw⟩;obtain rfl : w2 = w3 := hw.symm;obtain ⟨q, hq⟩ : ∃ q, Zbm out c.text = q := ⟨_, rfl⟩;rw [hq];have HQ := zh hq;clear hq hw
  cases q with
  | true => (go_wp2_with fail; exact ⟨_, FaA.mk' rfl rfl rfl rfl rfl, by rw [Zqz HQ.o]; exact HR2.o, Zbt.ofLater _ HL2.o⟩)
  | false =>
  have hX : Zb w2 (w2.alloc (.cells #[.string c.text] Zc3)) := (Zb.refl _).alloc _;have HXL := zh hX;have HRX := zh (HR2.o.later hX);clear hX
  go_wp2_with (at_builtin; refine Zai (w0 := w0) rfl _ _ 24 rfl iS Tryz.underlying24 hiS hz0 hz1 hz2 rfl HRX.o (HLL.o.trans HXL.o) rfl (Zd1 w2 HX.o) (by simp; omega) ?_; intro v2 Y hrow hgr)
  exact ⟨v2, FaA.mk' rfl rfl rfl rfl rfl, by rw [Zo5 HTQ.o.symm HZ.o HQ.o]; exact hrow, (Zbt.ofLater v (HL2.o.trans HXL.o)).trans hgr⟩
 ·have e0 : (z == (0 : Int)) = false := nH.2 h0;have HNZ := zh (show (Zb1 u c.text).1 ≠ 0 by rw [HZ.o]; exact h0);clear h0;go_wp2_with fail;exact ⟨_, FaA.mk' rfl rfl rfl rfl rfl, by rw [Zo4 HNZ.o]; exact HR2.o, Zbt.ofLater _ HL2.o⟩
def Zxi (n : Nat) : Prop := ∀ (N : Nat) (w0 : World) (F : Nat → Prop) (u : Zt) (A1 A2 A3 : Option Addr) (k1 k2 k3 : Nat) (c : Ze) (A : Option Addr) (k : Nat) (w : World) (out : List ByteArray) (v : Value), UV N F w0 u A1 A2 A3 k1 k2 k3 → Spc w0 → EV n F w0 c A k → Zb w0 w → Zax w0 w out v → out.length + Zc6 c ≤ 1000000 → Calls Tryz.prog 106 #[.agg #[.slice A1 u.aA.length k1, .slice A2 u.globals.length k2, .slice A3 u.procedures.length k3], c.val A k, v] w fun e w' => ∃ v', e = .returned v' ∧ Zax w0 w' (Zgs u c out) v' ∧ Zbt w v w' v'
theorem Zpa : ∀ n, Zxi n
 | n => fun N w0 F u A1 A2 A3 k1 k2 k3 c A k w out v hu ht hv hl hr hc => by
  have IH : ∀ n', n = n' + 1 → Zxi n' := fun n' h => by subst h; exact Zpa n'
  unfold Ze.val;have HU := zh hu;have HT := zh ht;have HV := zh hv;have HR0 := zh hr;have hks1 := hv.len;obtain ⟨hn1, hn2, hn3⟩ := hu.len;obtain ⟨wa, hla, hub, hwa⟩ := aN w (.cells #[.slice A1 u.aA.length k1, .slice A2 u.globals.length k2, .slice A3 u.procedures.length k3] 52);have hlb : Zb wa (wa.alloc (.cells #[.int .i64 c.kind, .string c.text, .int .i64 c.aB, .int .i64 c.line, .slice A c.kids.length k] 104)) := (Zb.refl _).alloc _;have heb := heap_alloc_new wa (.cells #[.int .i64 c.kind, .string c.text, .int .i64 c.aB, .int .i64 c.line, .slice A c.kids.length k] 104);have hub2 := (hlb.block _ (Za hub)).trans hub;obtain ⟨wb, hwb⟩ : ∃ z, wa.alloc (.cells #[.int .i64 c.kind, .string c.text, .int .i64 c.aB, .int .i64 c.line, .slice A c.kids.length k] 104) = z := ⟨_, rfl⟩;rw [hwb] at hlb heb hub2;have HLb := zh (Zb.trans hla hlb);have HL0 := zh (Zb.trans hl HLb.o);have hsz : w.heap.size ≤ wa.heap.size := hla.size;have HNO := zh (show ∀ b, w.heap.size ≤ b → v.ownBlock ≠ some b from fun b h e => by have := (HR0.o.own e).2; omega);obtain ⟨UB, hUB⟩ : ∃ z, w.heap.size = z := ⟨_, rfl⟩;obtain ⟨EB, hEB⟩ : ∃ z, wa.heap.size = z := ⟨_, rfl⟩;rw [hUB] at hub2 hsz HNO;rw [hEB] at heb hsz;have HUB := zh hub2;have HEB := zh heb;have HNU := zh (HNO.o UB (Nat.le_refl _));have HNE := zh (HNO.o EB hsz);have HSTART := zh (⟨hwa, hwb, hUB, hEB⟩ : _ ∧ _ ∧ _ ∧ _);clear hla hlb hub heb hub2 hu ht hv hr hl HNO hsz hwa hwb hUB hEB;have hcp := Zn4 c;go_enter Tryz.func106, Tryz.ntmps106
  obtain ⟨hwa, hwb, hUB, hEB⟩ := HSTART.o;go_upto_region 1 with (fail);clear hwa hwb hUB hEB;refine @Z8 _ adT ?R1 _ _ _ _ ?h ?k
  case h =>
   refine Zwi wb UB EB v c A k HEB (zh ?hf)
   case hf => exact FaA.mk' rfl rfl rfl rfl rfl
  case k =>
  rintro a1 w1 ⟨hf, hw⟩;obtain rfl : wb = w1 := hw.symm;clear hw;obtain ⟨fr0, rfl⟩ := hf.opn;clear hf
  go_upto_if 18 with (fail)
  refine @Z8 _ adIf ?R2 _ _ _ _ ?h2 ?k2
  case h2 =>
   refine Zuy N w0 F u A1 A2 A3 k1 k2 k3 wb UB EB c A k out v (c.kind == 4 || c.kind == 28) HU HT HL0 (zh (HR0.o.later HLb.o)) HV.o.tx (by omega) HUB HEB (zh rfl) (zh ?hf2)
   case hf2 => exact FaB.mk' rfl rfl rfl rfl rfl rfl
  case k2 =>
  rintro a2 w2 ⟨v1, hf, hr1, hg1⟩;obtain ⟨fr1, rfl⟩ := hf.opn;clear hf;have HR1 := zh hr1;have HG1 := zh hg1;have HUB2 := zh (hg1.box HNU.o HUB.o);have HEB2 := zh (hg1.box HNE.o HEB.o);clear hr1 hg1;obtain ⟨c0, c1, c2, c3, c4⟩ := Z1 HEB2.o;have fc0 := fz HEB2.o;go_wp2_with fail
  go_loopw [2, 10, 43] (fun ov _ iv wr => ∃ j : Nat, j ≤ c.kids.length ∧ iv = .int .i64 j ∧ Zax w0 wr (Zdh u (c.kids.take j) (Ze8 u c.kind c.text out)) ov ∧ Zbt wb v wr ov) (fun _ _ iv _ => c.kids.length - (intOf iv).toNat)
  case atStart => exact ⟨0, Nat.zero_le _, rfl, by simp only [List.take_zero, Zdh]; exact HR1.o, HG1.o⟩
  case round =>
   obtain ⟨j, hj, rfl, hrr, hgr⟩ := hrel;rename_i ov _ _ wr;have HRr := zh hrr;have HGr := zh hgr;have HLr := zh (hgr.later0 HL0.o fun b e => (HR0.o.own e).1);have HUBr := zh (hgr.box HNU.o HUB.o);have HEBr := zh (hgr.box HNE.o HEB.o);clear hrr hgr;clear c0 fc0 c1 c2 c3 c4;have g0 := cz3 HUBr.o;have fg0 := fz HUBr.o;obtain ⟨c0, c1, c2, c3, c4⟩ := Z1 HEBr.o;have fc0 := fz HEBr.o
   by_cases hlt : j < c.kids.length
   ·obtain ⟨n', rfl⟩ := HV.o.lev hlt;have hlt' : (j : Int) < (c.kids.length : Int) := by omega
    obtain ⟨kb, ko, Bk, q, eA, hca⟩ := HV.o.kid hlt;cases eA;have HKX := zh (Zcv hlt);obtain ⟨x, hx⟩ : ∃ z, z = c.kids[j] := ⟨_, rfl⟩;rw [← hx] at hca HKX;have HX := zh hx;have HCA := zh hca;have hkb := Nat.lt_of_lt_of_le hca.lt HLr.o.size;have d0 := (HLr.o.cell ⟨kb, _, none⟩ hca.lt).trans hca.c0;have d1 := (HLr.o.cell ⟨kb, _, none⟩ hca.lt).trans hca.c1;have d2 := (HLr.o.cell ⟨kb, _, none⟩ hca.lt).trans hca.c2;have d3 := (HLr.o.cell ⟨kb, _, none⟩ hca.lt).trans hca.c3;have d4 := (HLr.o.cell ⟨kb, _, none⟩ hca.lt).trans hca.c4;clear hca hx;have HLEN := zh (show (Zdh u (c.kids.take j) (Ze8 u c.kind c.text out)).length + Zc6 x ≤ 1000000 by
     have h1 := Zhn u (c.kids.take j) (Ze8 u c.kind c.text out);have h2 := Zol u c.kind c.text out;have h3 := HKX.o
     omega)
    obtain ⟨w4, hla, HKB, hw4⟩ := aN wr (.cells #[.int .i64 x.kind, .string x.text, .int .i64 x.aB, .int .i64 x.line, .slice Bk x.kids.length q] 104);replace HKB := zh HKB;have HA4 := zh hla;have HW4 := zh hw4;obtain ⟨KB, hKB⟩ : ∃ z, wr.heap.size = z := ⟨_, rfl⟩;rw [hKB] at HKB;have HKE := zh hKB;have HUB4 := yC hla HUBr;clear hla hw4 hKB;go_upto_region 8 with (fail);rw [HW4.o, HKE.o];clear d0 d1 d2 d3 d4;clear g0 fg0;have g0 := cz3 HUB4.o;have fg0 := fz HUB4.o;obtain ⟨d0, d1, d2, d3, d4⟩ := Z1 HKB.o;have fd0 := fz HKB.o;go_wp2_with fail;refine (IH n' rfl N w0 F u A1 A2 A3 k1 k2 k3 x Bk q _ _ _ HU.o HT.o HCA.o.ev (HLr.o.trans HA4.o) (HRr.o.later HA4.o) HLEN.o).mono ?_;rintro e w5 ⟨v5, rfl, hr5, hg5⟩;have HR5 := zh hr5;have HG5 := zh ((HGr.o.late HA4.o).trans hg5);clear hr5 hg5;go_wp2_with fail
    go_roundw
    case rel => exact ⟨j + 1, by omega, by go_num, by rw [Zh5 u c.kids j hlt, ← HX.o]; exact HR5.o, HG5.o⟩
    case measure => simp [intOf]; omega
   ·obtain rfl : j = c.kids.length := by omega
    go_wp2_with fail;go_ret;exact ⟨_, rfl, by have h := HRr.o; rw [List.take_length] at h; rw [Zil]; exact h, (Zbt.ofLater v HLb.o).trans HGr.o⟩
def Zuz (n : Nat) : Prop := ∀ (w : World) (F : Nat → Prop) (c : Ze) (A : Option Addr) (k : Nat), EV n F w c A k → Zc6 c ≤ 4194304 → Calls Tryz.prog 174 #[c.val A k] w fun e w' => e = .returned (.int .i64 (Zc6 c : Nat)) ∧ Below w.heap.size w w'
theorem Zmv : ∀ n, Zuz n
 | n => fun w F c A k hv hc => by
  have IH : ∀ n', n = n' + 1 → Zuz n' := fun n' h => by subst h; exact Zmv n'
  unfold Ze.val;have HV := zh hv;have hks1 := hv.len;obtain ⟨wb, hlwb, HB, hwb⟩ := aN w (.cells #[.int .i64 c.kind, .string c.text, .int .i64 c.aB, .int .i64 c.line, .slice A c.kids.length k] 104);replace HB := zh HB;have HLb := zh hlwb;clear hlwb hv;have HC := zh hc;clear hc;obtain ⟨c0, c1, c2, c3, c4⟩ := Z1 HB.o;have fc0 := fz HB.o;go_enter Tryz.func174, Tryz.ntmps174;go_wp2_with fail
  go_loopw [3, 5, 9] (fun nv _ iv wr => ∃ j : Nat, j ≤ c.kids.length ∧ iv = .int .i64 j ∧ nv = .int .i64 ((Zcc (c.kids.take j) + 1) : Nat) ∧ Zb wb wr) (fun _ _ iv _ => c.kids.length - (intOf iv).toNat)
  case atStart => exact ⟨0, Nat.zero_le _, rfl, by simp [Zcc, Zgr], Zb.refl _⟩
  case round =>
   obtain ⟨j, hj, rfl, rfl, hl⟩ := hrel;have HL := zh hl;clear hl;clear c0 fc0 c1 c2 c3 c4;have HBk := zB HL HB;obtain ⟨c0, c1, c2, c3, c4⟩ := Z1 HBk.o;have fc0 := fz HBk.o;clear HBk
   by_cases hlt : j < c.kids.length
   ·obtain ⟨n', rfl⟩ := HV.o.lev hlt;have hlt' : (j : Int) < (c.kids.length : Int) := by omega
    obtain ⟨kb, ko, Bk, q, eA, hca⟩ := (HV.o.later (HLb.o.trans HL.o)).kid hlt;cases eA;have HKX := zh (Zcv hlt);obtain ⟨x, hx⟩ : ∃ z, z = c.kids[j] := ⟨_, rfl⟩;rw [← hx] at hca HKX;have HX := zh hx;have HCA := zh hca;have d0 := hca.c0;have d1 := hca.c1;have d2 := hca.c2;have d3 := hca.c3;have d4 := hca.c4;clear hca hx;have hb3 := Zgx (c.kids.take j);have hb4 := Zm4 x;have hkx := HKX.o;have hcx := HC.o;obtain ⟨t, ht⟩ : ∃ z, z = (Zcc (c.kids.take j) + 1) := ⟨_, rfl⟩;rw [← ht];have HT2 := zh ht;go_wp2_with fail;refine (IH n' rfl _ F x Bk q (EV.later HCA.o.ev ((Zb.refl _).alloc _)) (by omega)).mono ?_;rintro e w2 ⟨rfl, hb2⟩;have HL2 := zh (HL.o.trans (Zb.trans ((Zb.refl _).alloc _) hb2));clear hb2 d0 d1 d2 d3 d4;have t1 : IntKind.i64.wrap ((t : Int) + (Zc6 x : Nat)) = ((t + Zc6 x : Nat) : Int) := by rw [IntWalk.i64_in _ (by omega)]; rfl
    clear hkx hcx hb3 hb4 ht;go_wp2_with fail
    go_roundw
    case rel => exact ⟨j + 1, by omega, by go_num, by rw [Zfg c.kids j hlt, ← HX.o]; have e := HT2.o; subst e; congr 1; omega, HL2.o⟩
    case measure => simp [intOf]; omega
   ·obtain rfl : j = c.kids.length := by omega
    go_wp2_with fail;go_ret;exact ⟨Zu (by rw [List.take_length, Zfu]), HLb.o.trans HL.o⟩
def Zu0 (n : Nat) : Prop := ∀ (w : World) (F : Nat → Prop) (c : Ze) (A : Option Addr) (k : Nat), EV n F w c A k → Zc6 c ≤ 4194304 → Calls Tryz.prog 175 #[c.val A k] w fun e w' => e = .returned (.int .i64 (dpX c : Nat)) ∧ Below w.heap.size w w'
theorem Zmw : ∀ n, Zu0 n
 | n => fun w F c A k hv hc => by
  have IH : ∀ n', n = n' + 1 → Zu0 n' := fun n' h => by subst h; exact Zmw n'
  unfold Ze.val;have HV := zh hv;have hks1 := hv.len;obtain ⟨wb, hlwb, HB, hwb⟩ := aN w (.cells #[.int .i64 c.kind, .string c.text, .int .i64 c.aB, .int .i64 c.line, .slice A c.kids.length k] 104);replace HB := zh HB;have HLb := zh hlwb;clear hlwb hv;have HC := zh hc;clear hc;obtain ⟨c0, c1, c2, c3, c4⟩ := Z1 HB.o;have fc0 := fz HB.o;go_enter Tryz.func175, Tryz.ntmps175;go_wp2_with fail
  go_loopw [3, 5, 9] (fun nv _ iv wr => ∃ j : Nat, j ≤ c.kids.length ∧ iv = .int .i64 j ∧ nv = .int .i64 (Zgr (c.kids.take j) : Nat) ∧ Zb wb wr) (fun _ _ iv _ => c.kids.length - (intOf iv).toNat)
  case atStart => exact ⟨0, Nat.zero_le _, rfl, by simp [Zcc, Zgr], Zb.refl _⟩
  case round =>
   obtain ⟨j, hj, rfl, rfl, hl⟩ := hrel;have HL := zh hl;clear hl;clear c0 fc0 c1 c2 c3 c4;have HBk := zB HL HB;obtain ⟨c0, c1, c2, c3, c4⟩ := Z1 HBk.o;have fc0 := fz HBk.o;clear HBk
   by_cases hlt : j < c.kids.length
   ·obtain ⟨n', rfl⟩ := HV.o.lev hlt;have hlt' : (j : Int) < (c.kids.length : Int) := by omega
    obtain ⟨kb, ko, Bk, q, eA, hca⟩ := (HV.o.later (HLb.o.trans HL.o)).kid hlt;cases eA;have HKX := zh (Zcv hlt);obtain ⟨x, hx⟩ : ∃ z, z = c.kids[j] := ⟨_, rfl⟩;rw [← hx] at hca HKX;have HX := zh hx;have HCA := zh hca;have d0 := hca.c0;have d1 := hca.c1;have d2 := hca.c2;have d3 := hca.c3;have d4 := hca.c4;clear hca hx;have hb3 := Zgx (c.kids.take j);have hb4 := Zm4 x;have hkx := HKX.o;have hcx := HC.o;obtain ⟨t, ht⟩ : ∃ z, z = Zgr (c.kids.take j) := ⟨_, rfl⟩;rw [← ht] at hb3 ⊢;have HT2 := zh ht;go_wp2_with fail;refine (IH n' rfl _ F x Bk q (EV.later HCA.o.ev ((Zb.refl _).alloc _)) (by omega)).mono ?_;rintro e w2 ⟨rfl, hb2⟩;have HL2 := zh (HL.o.trans (Zb.trans ((Zb.refl _).alloc _) hb2));clear hb2 d0 d1 d2 d3 d4;have t1 : max (t : Int) (dpX x : Nat) = ((max t (dpX x) : Nat) : Int) := by omega
    clear hkx hcx hb3 hb4 ht;go_wp2_with fail
    go_roundw
    case rel => exact ⟨j + 1, by omega, by go_num, by rw [Zml c.kids j hlt, ← HX.o]; have e := HT2.o; subst e; first | rfl | (congr 1; omega), HL2.o⟩
    case measure => simp [intOf]; omega
   ·obtain rfl : j = c.kids.length := by omega
    go_wp2_with fail;go_ret;exact ⟨Zu (by have h1 := Zgx c.kids; have h2 := Zfu c; have h3 := HC.o; rw [Zpv, IntWalk.wrap64_in _ (by omega)]; rfl), HLb.o.trans HL.o⟩
def lft (L : Int) (m : Nat) : Int := max (L - m) (-1)
theorem Zwj {L t : Int} {m k : Nat} (h : lft L m = t) (ht : 0 ≤ t) : lft t k = lft L (m + k) := by unfold lft at *; omega
theorem Zwk {L : Int} {m k : Nat} (h : lft L m < 0) (hk : m ≤ k) : lft L m = lft L k := by unfold lft at *; omega
def Zq1 (n : Nat) : Prop := ∀ (w : World) (F : Nat → Prop) (c : Ze) (A : Option Addr) (k : Nat) (L : Int), EV n F w c A k → 0 ≤ L → L ≤ 1000000 → Calls Tryz.prog 171 #[c.val A k, .int .i64 L] w fun e w' => e = .returned (.int .i64 (lft L (Zc6 c))) ∧ Below w.heap.size w w'
theorem Zlk : ∀ n, Zq1 n
 | n => fun w F c A k L hv h0 h1 => by
  have IH : ∀ n', n = n' + 1 → Zq1 n' := fun n' h => by subst h; exact Zlk n'
  unfold Ze.val;have HV := zh hv;have hks1 := hv.len;obtain ⟨wb, hlwb, HB, hwb⟩ := aN w (.cells #[.int .i64 c.kind, .string c.text, .int .i64 c.aB, .int .i64 c.line, .slice A c.kids.length k] 104);replace HB := zh HB;have HLb := zh hlwb;clear hlwb hv;have HB1 := zh h1;have tL : IntKind.i64.wrap (L - 1) = L - 1 := IntWalk.i64_in _ (by omega);obtain ⟨c0, c1, c2, c3, c4⟩ := Z1 HB.o;have fc0 := fz HB.o;go_enter Tryz.func171, Tryz.ntmps171;go_wp2_with fail
  go_loopw [1, 5] (fun nv iv wr => ∃ j : Nat, j ≤ c.kids.length ∧ iv = .int .i64 j ∧ nv = .int .i64 (lft L (Zcc (c.kids.take j) + 1)) ∧ Zb wb wr) (fun _ iv _ => c.kids.length - (intOf iv).toNat)
  case atStart => exact ⟨0, Nat.zero_le _, rfl, by simp [Zcc]; unfold lft; omega, Zb.refl _⟩
  case round =>
   obtain ⟨j, hj, rfl, rfl, hl⟩ := hrel;have HL := zh hl;clear hl;clear c0 fc0 c1 c2 c3 c4;have HBk := zB HL HB;obtain ⟨c0, c1, c2, c3, c4⟩ := Z1 HBk.o;have fc0 := fz HBk.o;clear HBk
   by_cases hlt : j < c.kids.length
   ·obtain ⟨n', rfl⟩ := HV.o.lev hlt;have hlt' : (j : Int) < (c.kids.length : Int) := by omega
    obtain ⟨kb, ko, Bk, q, eA, hca⟩ := (HV.o.later (HLb.o.trans HL.o)).kid hlt;cases eA;have HKX := zh (Zcv hlt);obtain ⟨x, hx⟩ : ∃ z, z = c.kids[j] := ⟨_, rfl⟩;rw [← hx] at hca HKX;have HX := zh hx;have HCA := zh hca;have d0 := hca.c0;have d1 := hca.c1;have d2 := hca.c2;have d3 := hca.c3;have d4 := hca.c4;clear hca hx;have hkx := HKX.o;obtain ⟨t, ht⟩ : ∃ z, z = lft L (Zcc (c.kids.take j) + 1) := ⟨_, rfl⟩;rw [← ht];have HT2 := zh ht
    by_cases h0 : 0 ≤ t
    ·have tb : t ≤ 1000000 := by have := HB1.o; rw [ht]; unfold lft; omega
     have ht0 : decide (0 ≤ t) = true := nT h0;clear ht hkx;go_wp2_with fail;refine (IH n' rfl _ F x Bk q t HCA.o.ev h0 tb).mono ?_;rintro e w2 ⟨rfl, hb2⟩;have HL2 := zh (HL.o.trans hb2);clear hb2 d0 d1 d2 d3 d4;go_wp2_with fail
     go_roundw
     case rel => exact ⟨j + 1, by omega, by go_num, by rw [Zfg c.kids j hlt, ← HX.o, Zwj HT2.o.symm h0, Nat.add_right_comm], HL2.o⟩
     case measure => simp [intOf]; omega
    ·have ht0 : decide (0 ≤ t) = false := nU h0;clear ht d0 d1 d2 d3 d4;go_wp2_with fail;go_ret;exact ⟨Zu (by rw [HT2.o]; exact Zwk (by rw [← HT2.o]; omega) (by omega)), HLb.o.trans HL.o⟩
   ·obtain rfl : j = c.kids.length := by omega
    obtain ⟨b, hb⟩ : ∃ b : Bool, decide (0 ≤ lft L (Zcc c.kids + 1)) = b := ⟨_, rfl⟩;go_wp2_with fail;go_ret;exact ⟨Zu (by rw [List.take_length, Zfu]), HLb.o.trans HL.o⟩
section
def FvA (EB : Nat) (tq nq : Bool) (a : Act) : Prop := Fr 141 [(1, .pointer (some ⟨EB, 0, none⟩)), (2, .bool false), (5, .bool tq), (6, .bool nq)] a
section
variable {EB : Nat} {tq nq : Bool} {a : Act}
theorem FvA.opn (h : FvA EB tq nq a) : ∃ f : Nat → Value, a = ⟨#[f 0, .pointer (some ⟨EB, 0, none⟩), .bool false, f 3, f 4, .bool tq, .bool nq, f 7, f 8, f 9, f 10, f 11, f 12, f 13, f 14, f 15, f 16, f 17, f 18, f 19, f 20, f 21, f 22, f 23, f 24, f 25, f 26, f 27, f 28, f 29, f 30, f 31, f 32, f 33, f 34, f 35, f 36, f 37, f 38, f 39, f 40, f 41, f 42, f 43, f 44, f 45, f 46, f 47, f 48, f 49, f 50, f 51, f 52, f 53, f 54, f 55, f 56, f 57, f 58, f 59, f 60, f 61, f 62, f 63, f 64, f 65, f 66, f 67, f 68, f 69, f 70, f 71, f 72, f 73, f 74, f 75, f 76, f 77, f 78, f 79, f 80, f 81, f 82, f 83, f 84, f 85, f 86, f 87, f 88, f 89, f 90, f 91, f 92, f 93, f 94, f 95, f 96, f 97, f 98, f 99, f 100, f 101, f 102, f 103, f 104, f 105, f 106, f 107, f 108, f 109, f 110, f 111, f 112, f 113, f 114, f 115, f 116, f 117, f 118, f 119, f 120, f 121, f 122, f 123, f 124, f 125, f 126, f 127, f 128, f 129, f 130, f 131, f 132, f 133, f 134, f 135, f 136, f 137, f 138, f 139, f 140], []⟩ := by
 obtain ⟨f, e, hf⟩ := Fr.lit h;obtain ⟨h1, h2, h5, h6, -⟩ := h.has;refine ⟨f, e.trans ?_⟩;have k1 := Zi h1 (hf 1 (by omega));have k2 := Zi h2 (hf 2 (by omega));have k5 := Zi h5 (hf 5 (by omega));have k6 := Zi h6 (hf 6 (by omega));rw [← k1];rw [← k2];rw [← k5];rw [← k6]
 rfl
theorem FvA.mk' {A : Array Value} (hs : A.size = 141) (h1 : A[1]? = some (.pointer (some ⟨EB, 0, none⟩))) (h2 : A[2]? = some (.bool false)) (h5 : A[5]? = some (.bool tq)) (h6 : A[6]? = some (.bool nq)) : FvA EB tq nq ⟨A, []⟩ := ⟨hs, rfl, h1, h2, h5, h6, trivial⟩
end
def FvS (EB : Nat) (tq nq : Bool) (kd : Int) (a : Act) : Prop := Fr 141 [(1, .pointer (some ⟨EB, 0, none⟩)), (2, .bool false), (5, .bool tq), (6, .bool nq), (49, .int .i64 kd)] a
section
variable {EB : Nat} {tq nq : Bool} {kd : Int} {a : Act}
theorem FvS.opn (h : FvS EB tq nq kd a) : ∃ f : Nat → Value, a = ⟨#[f 0, .pointer (some ⟨EB, 0, none⟩), .bool false, f 3, f 4, .bool tq, .bool nq, f 7, f 8, f 9, f 10, f 11, f 12, f 13, f 14, f 15, f 16, f 17, f 18, f 19, f 20, f 21, f 22, f 23, f 24, f 25, f 26, f 27, f 28, f 29, f 30, f 31, f 32, f 33, f 34, f 35, f 36, f 37, f 38, f 39, f 40, f 41, f 42, f 43, f 44, f 45, f 46, f 47, f 48, .int .i64 kd, f 50, f 51, f 52, f 53, f 54, f 55, f 56, f 57, f 58, f 59, f 60, f 61, f 62, f 63, f 64, f 65, f 66, f 67, f 68, f 69, f 70, f 71, f 72, f 73, f 74, f 75, f 76, f 77, f 78, f 79, f 80, f 81, f 82, f 83, f 84, f 85, f 86, f 87, f 88, f 89, f 90, f 91, f 92, f 93, f 94, f 95, f 96, f 97, f 98, f 99, f 100, f 101, f 102, f 103, f 104, f 105, f 106, f 107, f 108, f 109, f 110, f 111, f 112, f 113, f 114, f 115, f 116, f 117, f 118, f 119, f 120, f 121, f 122, f 123, f 124, f 125, f 126, f 127, f 128, f 129, f 130, f 131, f 132, f 133, f 134, f 135, f 136, f 137, f 138, f 139, f 140], []⟩ := by
 obtain ⟨f, e, hf⟩ := Fr.lit h;obtain ⟨h1, h2, h5, h6, h49, -⟩ := h.has;refine ⟨f, e.trans ?_⟩;have k1 := Zi h1 (hf 1 (by omega));have k2 := Zi h2 (hf 2 (by omega));have k5 := Zi h5 (hf 5 (by omega));have k6 := Zi h6 (hf 6 (by omega));have k49 := Zi h49 (hf 49 (by omega));rw [← k1];rw [← k2];rw [← k5];rw [← k6];rw [← k49]
 rfl
theorem FvS.mk' {A : Array Value} (hs : A.size = 141) (h1 : A[1]? = some (.pointer (some ⟨EB, 0, none⟩))) (h2 : A[2]? = some (.bool false)) (h5 : A[5]? = some (.bool tq)) (h6 : A[6]? = some (.bool nq)) (h49 : A[49]? = some (.int .i64 kd)) : FvS EB tq nq kd ⟨A, []⟩ := ⟨hs, rfl, h1, h2, h5, h6, h49, trivial⟩
end
noncomputable def xvSw : Code := cR (cL (cR (cR (cR (cR (cR (Zal Tryz.f176)))))))
end
section
variable {P : Program} {ops : Array Oper} {Q : Exit → Act → World → Prop}
theorem Zam (i : Nat) (d : Option Tmp) {L U : List Nat} {oi : Oper} {fuel : Nat} {listed : Array Bool} {a : Act} {w : World} (hi : ops[i]? = some oi) (hd : oi.dst = d)
  (hB : Zhv ops L listed i = true)
  (hQ : ∀ c a w, Q (.panic c) (a.put d undef) w → Q (.panic c) a w)
  (hw : Region.wanted oi (yielded ops a.tmps) = false)
  (h : wpU P ops Q L U fuel (listed.setIfInBounds i true) (a.put d undef) w) : wpU P ops Q L U (fuel + 1) listed a w := by
 subst hd;simp only [Zhv, Bool.and_eq_true] at hB;obtain ⟨⟨⟨⟨hs, hf⟩, hr⟩, hc⟩, ht⟩ := hB;refine Ze6 hi (Region.noSelect_spec hs) hQ (fun j _ htj => ?_) fuel listed a w (Region.free_spec hi hf) (Zhi hc) (by simpa using hr) (.inr ⟨hw, rfl⟩) (Zb.refl w) h;simp only [Zgf, Bool.or_eq_true] at htj
 rcases htj with h1 | h1
 ·exact .inr (List.all_eq_true.1 ht j (by simpa using h1))
 ·exact .inl h1
end
theorem Zfn (s : ByteArray) : (bl s).length = s.size := by simp [bl]
theorem Zf0 (s : ByteArray) (j : Nat) (h : j < s.size) : (bl s)[j]'(by rw [Zfn]; exact h) = s[j] := rfl
theorem Zll (s : ByteArray) (w : World) (hs : s.size ≤ maxLen) : Calls Tryz.prog 138 #[.string s] w fun e w' => e = .returned (.bool (Zje (bl s))) ∧ Below w.heap.size w w' := by
 unfold maxLen at hs;obtain ⟨R, hR⟩ : ∃ R, Zje (bl s) = R := ⟨_, rfl⟩;rw [hR];have HR := zh hR;clear hR;go_enter Tryz.func138, Tryz.ntmps138;go_wp2_with fail
 go_loopw [3] (fun i wr => ∃ j : Nat, i = .int .i64 j ∧ j ≤ s.size ∧ Hd (∀ k (h : k < s.size), k < j → s[k].toNat ≤ 127 ∧ ∀ (_ : 0 < k), s[k - 1].toNat < s[k].toNat) ∧ Below w.heap.size w wr) (fun i _ => s.size - (intOf i).toNat)
 case atStart => exact ⟨0, rfl, Nat.zero_le _, zh (fun k _ h => by omega), Below.refl _ _⟩
 case round =>
  obtain ⟨j, rfl, hj, HD, hbel⟩ := hrel
  by_cases hlt : j < s.size
  ·have t1 : decide ((j : Int) < s.size) = true := nT (by omega);have hlt' : (j : Int) < s.size := by omega
   obtain ⟨c, hc⟩ : ∃ c : Int, (s[j].toNat : Int) = c := ⟨_, rfl⟩;have HC := zh hc;have HB := zh (fun (h : 127 < s[j].toNat) => Zof (s := bl s) (x := s[j]) (by rw [← Zf0 s j hlt]; exact List.getElem_mem _) h)
   by_cases h7 : 127 < c
   ·have hR0 : R = false := by rw [← HR.o, HB.o (by have := HC.o; omega)]
    have t2 : decide ((127 : Int) < c) = true := nT h7;go_upto_region 4 with (fail);refine Zx [] [] (by kernel_rfl) (fun W hW => ?_);have hWw : Below w.heap.size w W := by rw [hW]; exact hbel.drew
    clear hW;refine uU 0 10 ?_;simp only [yN];refine uU 1 11 ?_;simp only [yN];refine uU 2 12 ?_;simp only [yN];refine uU 3 13 ?_;simp only [yN];refine uU 4 14 ?_;simp only [yN];refine Zam 5 (some 15) rfl rfl (by kernel_rfl) (fun _ _ _ h => h) rfl ?_;simp only [yN];refine Zam 6 (some 16) rfl rfl (by kernel_rfl) (fun _ _ _ h => h) rfl ?_;simp only [yN];refine Zam 7 (some 17) rfl rfl (by kernel_rfl) (fun _ _ _ h => h) rfl ?_;simp only [yN];refine Zam 8 (some 18) rfl rfl (by kernel_rfl) (fun _ _ _ h => h) rfl ?_;simp only [yN];refine Zam 9 (some 19) rfl rfl (by kernel_rfl) (fun _ _ _ h => h) rfl ?_;simp only [yN];refine Zam 10 (some 20) rfl rfl (by kernel_rfl) (fun _ _ _ h => h) rfl ?_;simp only [yN];refine Zam 11 (some 21) rfl rfl (by kernel_rfl) (fun _ _ _ h => h) rfl ?_;simp only [yN];refine Zam 12 (some 22) rfl rfl (by kernel_rfl) (fun _ _ _ h => h) rfl ?_;simp only [yN];refine Zam 13 (some 23) rfl rfl (by kernel_rfl) (fun _ _ _ h => h) rfl ?_;simp only [yN];refine Zam 14 (some 24) rfl rfl (by kernel_rfl) (fun _ _ _ h => h) rfl ?_;simp only [yN];refine Zam 15 (some 25) rfl rfl (by kernel_rfl) (fun _ _ _ h => h) rfl ?_;simp only [yN];refine Zam 16 (some 26) rfl rfl (by kernel_rfl) (fun _ _ _ h => h) rfl ?_;simp only [yN];refine uU 17 27 ?_;simp only [yN];refine Z6 [] (by kernel_rfl) rfl rfl ?_;subst hR0;go_wp2_with fail;go_ret;exact ⟨rfl, hWw⟩
   have t2 : decide ((127 : Int) < c) = false := nU h7
   by_cases h0 : j = 0
   ·subst h0;have HD2 : Hd (∀ k (h : k < s.size), k < 1 → s[k].toNat ≤ 127 ∧ ∀ (_ : 0 < k), s[k - 1].toNat < s[k].toNat) := zh (fun k hk h => by
     obtain rfl : k = 0 := by omega
     exact ⟨by have := HC.o; omega, fun h => by omega⟩)
    have t3 : decide ((0 : Int) < 0) = false := by decide
    go_upto_region 4 with (fail);refine Zx [] [] (by kernel_rfl) (fun W hW => ?_);have hWw : Below w.heap.size w W := by rw [hW]; exact hbel.drew
    clear hW;refine uU 0 10 ?_;simp only [yN];refine uU 1 11 ?_;simp only [yN];refine uU 2 12 ?_;simp only [yN];refine uU 3 13 ?_;simp only [yN];refine uU 4 14 ?_;simp only [yN];refine uU 5 15 ?_;simp only [yN];refine uU 6 16 ?_;simp only [yN];refine uU 7 17 ?_;simp only [yN];refine Zam 8 (some 18) rfl rfl (by kernel_rfl) (fun _ _ _ h => h) rfl ?_;simp only [yN];refine Zam 9 (some 19) rfl rfl (by kernel_rfl) (fun _ _ _ h => h) rfl ?_;simp only [yN];refine Zam 10 (some 20) rfl rfl (by kernel_rfl) (fun _ _ _ h => h) rfl ?_;simp only [yN];refine Zam 11 (some 21) rfl rfl (by kernel_rfl) (fun _ _ _ h => h) rfl ?_;simp only [yN];refine Zam 12 (some 22) rfl rfl (by kernel_rfl) (fun _ _ _ h => h) rfl ?_;simp only [yN];refine Zam 13 (some 23) rfl rfl (by kernel_rfl) (fun _ _ _ h => h) rfl ?_;simp only [yN];refine Zam 14 (some 24) rfl rfl (by kernel_rfl) (fun _ _ _ h => h) rfl ?_;simp only [yN];refine Zam 15 (some 25) rfl rfl (by kernel_rfl) (fun _ _ _ h => h) rfl ?_;simp only [yN];refine uU 16 26 ?_;simp only [yN];refine uU 17 27 ?_;simp only [yN];refine Z6 [] (by kernel_rfl) rfl rfl ?_;go_wp2_with fail
    go_roundw
    case rel => exact ⟨1, by go_num, by omega, HD2, hWw⟩
    case measure => simp [intOf]; omega
   ·obtain ⟨i, hi⟩ : ∃ i : Nat, j = i + 1 := ⟨j - 1, by omega⟩;have hsub : (j : Int) - 1 = (i : Int) := by omega
    have hil : i < s.size := by omega
    have hil' : (i : Int) < s.size := by omega
    have hwr : IntKind.i64.wrap (i : Int) = (i : Int) := by rw [IntKind.wrap_i64]; omega
    have t3 : decide ((0 : Int) < j) = true := nT (by omega);have t3' : decide (0 < j) = true := nT (by omega);have t3p : 0 < j := by omega
    obtain ⟨d, hd⟩ : ∃ d : Int, (s[i].toNat : Int) = d := ⟨_, rfl⟩;have HDD := zh hd;have HI := zh hi;clear hi
    by_cases hcd : c ≤ d
    ·have hR0 : R = false := by
      rw [← HR.o, Zry (s := bl s) (j := i) (by rw [Zfn]; have := HI.o; omega) (by
       rw [Zf0 s i hil, Zf0 s (i + 1) (by have := HI.o; omega)];have h1 := HC.o;have h2 := HDD.o;simp only [HI.o] at h1
       omega)]
     have t4 : decide (c ≤ d) = true := nT hcd;go_upto_region 4 with (fail);refine Zx [] [] (by kernel_rfl) (fun W hW => ?_);have hWw : Below w.heap.size w W := by rw [hW]; exact hbel.drew
     clear hW;refine uU 0 10 ?_;simp only [yN];refine uU 1 11 ?_;simp only [yN];refine uU 2 12 ?_;simp only [yN];refine uU 3 13 ?_;simp only [yN];refine uU 4 14 ?_;simp only [yN];refine uU 5 15 ?_;simp only [yN];refine uU 6 16 ?_;simp only [yN];refine uU 7 17 ?_;simp only [yN];refine uU 8 18 ?_;simp only [yN];refine uU 9 19 ?_;simp only [yN];refine uU 10 20 ?_;simp only [yN];refine uU 11 21 ?_;simp only [yN];refine uU 12 22 ?_;simp only [yN];refine uU 13 23 ?_;simp only [yN];refine uU 14 24 ?_;simp only [yN];refine uU 15 25 ?_;simp only [yN];refine uU 16 26 ?_;simp only [yN];refine uU 17 27 ?_;simp only [yN];refine Z6 [] (by kernel_rfl) rfl rfl ?_;subst hR0;go_wp2_with fail;go_ret;exact ⟨rfl, hWw⟩
    ·have t4 : decide (c ≤ d) = false := nU hcd;have HD2 : Hd (∀ k (h : k < s.size), k < j + 1 → s[k].toNat ≤ 127 ∧ ∀ (_ : 0 < k), s[k - 1].toNat < s[k].toNat) := zh (fun k hk h => by
      rcases Nat.lt_or_ge k j with h1 | h1
      ·exact HD.o k hk h1
      ·obtain rfl : k = j := by omega
       have h2 := HC.o;have h3 := HDD.o;refine ⟨by omega, fun _ => ?_⟩;have h4 := HI.o;have e : s[k - 1].toNat = s[i].toNat := by simp only [h4, Nat.add_sub_cancel]
       omega)
     go_upto_region 4 with (fail);refine Zx [] [] (by kernel_rfl) (fun W hW => ?_);have hWw : Below w.heap.size w W := by rw [hW]; exact hbel.drew
     clear hW;refine uU 0 10 ?_;simp only [yN];refine uU 1 11 ?_;simp only [yN];refine uU 2 12 ?_;simp only [yN];refine uU 3 13 ?_;simp only [yN];refine uU 4 14 ?_;simp only [yN];refine uU 5 15 ?_;simp only [yN];refine uU 6 16 ?_;simp only [yN];refine uU 7 17 ?_;simp only [yN];refine uU 8 18 ?_;simp only [yN];refine uU 9 19 ?_;simp only [yN];refine uU 10 20 ?_;simp only [yN];refine uU 11 21 ?_;simp only [yN];refine uU 12 22 ?_;simp only [yN];refine uU 13 23 ?_;simp only [yN];refine uU 14 24 ?_;simp only [yN];refine uU 15 25 ?_;simp only [yN];refine uU 16 26 ?_;simp only [yN];refine uU 17 27 ?_;simp only [yN];refine Z6 [] (by kernel_rfl) rfl rfl ?_;go_wp2_with fail
     go_roundw
     case rel => exact ⟨j + 1, by go_num, by omega, HD2, hWw⟩
     case measure => simp [intOf]; omega
  ·have t1 : decide ((j : Int) < s.size) = false := nU (by omega);have hR0 : R = true := by
    rw [← HR.o, Zt3 (fun k h => by rw [Zfn] at h; rw [Zf0 s k h]; exact (HD.o k h (by omega)).1) (fun k h => by
     rw [Zfn] at h;rw [Zf0 s k (by omega), Zf0 s (k + 1) h];have := (HD.o (k + 1) h (by omega)).2 (by omega)
     simpa using this)]
   subst hR0;go_wp2_with fail;go_ret;exact ⟨rfl, hbel⟩
theorem Zu1 {a : Act} (n : Nat) (w : World) (F : Nat → Prop) (c : Ze) (A : Option Addr) (k : Nat) (EB : Nat) (kd nm : Int) (tx : ByteArray) (HV : Hd (EV n F w c A k)) (HK : Hd (kd = c.kind ∧ nm = c.aB ∧ tx = c.text)) (HB : Hd (w.heap[EB]? = some (.cells #[.int .i64 kd, .string tx, .int .i64 nm, .int .i64 c.line, .slice A c.kids.length k] TEx (0, 0)))) (ht : Spc w) (HF : Hd (FvS EB (tx.toList == []) (nm == 0) kd a)) :
  xvSw.wp Tryz.prog (Zc0 fun a' x => FvA EB (xW kd tx) (xN kd nm c.kids.length) a' ∧ Zb w x) a w := by
 obtain ⟨R, hR⟩ : ∃ z, z = xW kd tx := ⟨_, rfl⟩;obtain ⟨Q, hQ⟩ : ∃ z, z = xN kd nm c.kids.length := ⟨_, rfl⟩;obtain ⟨tq, htq⟩ : ∃ z, z = (tx.toList == []) := ⟨_, rfl⟩;obtain ⟨nq, hnq⟩ : ∃ z, z = (nm == 0) := ⟨_, rfl⟩;rw [← hR, ← hQ];rw [← htq, ← hnq] at HF;have HR := zh hR;have HQ := zh hQ;have HTQ := zh htq;have HNQ := zh hnq;have HT := zh ht;have hks1 := HV.o.len;have htz : tx.size ≤ maxLen := by rw [HK.o.2.2]; exact HV.o.tx
 have HTZ := zh htz;clear hR hQ htq hnq ht htz;have c0 := Z1 HB.o;have fc0 := fz HB.o;obtain ⟨fr, rfl⟩ := HF.o.opn;clear HF
 conv => arg 2; whnf
 go_upto_region 7 with (fail)
 by_cases h7 : kd = 1
 ·subst h7;obtain rfl : R = tq := HR.o.trans HTQ.o.symm;obtain ⟨p, hp⟩ : ∃ b : Bool, decide (0 ≤ nm) = b := ⟨_, rfl⟩;obtain ⟨q, hq⟩ : ∃ b : Bool, decide (nm ≤ 999999999999) = b := ⟨_, rfl⟩;obtain rfl : Q = (p && q) := HQ.o.trans (by rw [← hp, ← hq]; rfl)
  cases p <;> cases q <;> (go_wp2_with fail; exact ⟨FvA.mk' rfl rfl rfl rfl rfl, Zb.refl _⟩)
 have e7 : (kd == (1 : Int)) = false := nH.2 h7;have H7 := zh h7;clear h7;go_upto_region 9 with (fail);clear e7
 by_cases h9 : kd = 2
 ·subst h9;obtain rfl : Q = nq := HQ.o.trans HNQ.o.symm;obtain ⟨q, hq⟩ : ∃ b : Bool, decide ((tx.size : Int) ≤ 120) = b := ⟨_, rfl⟩;obtain rfl : R = q := HR.o.trans hq;go_wp2_with fail;exact ⟨FvA.mk' rfl rfl rfl rfl rfl, Zb.refl _⟩
 have e9 : (kd == (2 : Int)) = false := nH.2 h9;have H9 := zh h9;clear h9;go_upto_region 11 with (fail);clear e9
 by_cases h11 : kd = 3
 ·subst h11;obtain rfl : Q = nq := HQ.o.trans HNQ.o.symm;go_wp2_with fail;refine (Zll tx _ HTZ.o).mono ?_;rintro e w2 ⟨rfl, hb2⟩;have HL2 := zh (show Zb w w2 from hb2);clear hb2;go_wp2_with fail;rw [HR.o];exact ⟨FvA.mk' rfl rfl rfl rfl rfl, HL2.o⟩
 have e11 : (kd == (3 : Int)) = false := nH.2 h11;have H11 := zh h11;clear h11;go_upto_region 13 with (fail);clear e11
 by_cases h13 : kd = 4
 ·subst h13;obtain rfl : Q = nq := HQ.o.trans HNQ.o.symm;go_wp2_with fail;refine (Zcw tx _ HTZ.o HT.o).mono ?_;rintro e w2 ⟨rfl, hb2⟩;have HL2 := zh (show Zb w w2 from hb2);clear hb2;go_wp2_with fail;rw [HR.o];exact ⟨FvA.mk' rfl rfl rfl rfl rfl, HL2.o⟩
 have e13 : (kd == (4 : Int)) = false := nH.2 h13;have H13 := zh h13;clear h13;go_upto_region 14 with (fail);clear e13
 by_cases h14 : kd = 13
 ·subst h14;obtain rfl : Q = nq := HQ.o.trans HNQ.o.symm;go_wp2_with fail;refine (Zcw tx _ HTZ.o HT.o).mono ?_;rintro e w2 ⟨rfl, hb2⟩;have HL2 := zh (show Zb w w2 from hb2);clear hb2;go_wp2_with fail;rw [HR.o];exact ⟨FvA.mk' rfl rfl rfl rfl rfl, HL2.o⟩
 have e14 : (kd == (13 : Int)) = false := nH.2 h14;have H14 := zh h14;clear h14;go_upto_region 15 with (fail);clear e14
 by_cases h15 : kd = 28
 ·subst h15;obtain rfl : Q = nq := HQ.o.trans HNQ.o.symm;go_wp2_with fail;refine (Zcw tx _ HTZ.o HT.o).mono ?_;rintro e w2 ⟨rfl, hb2⟩;have HL2 := zh (show Zb w w2 from hb2);clear hb2;go_wp2_with fail;rw [HR.o];exact ⟨FvA.mk' rfl rfl rfl rfl rfl, HL2.o⟩
 have e15 : (kd == (28 : Int)) = false := nH.2 h15;have H15 := zh h15;clear h15;go_upto_region 17 with (fail);clear e15
 by_cases h17 : kd = 5
 ·subst h17;obtain rfl : Q = nq := HQ.o.trans HNQ.o.symm;go_wp2_with fail;refine (Zix tx _ HT.o).mono ?_;rintro e w2 ⟨rfl, hb2⟩;have HL2 := zh (show Zb w w2 from hb2);clear hb2;go_wp2_with fail;rw [HR.o];exact ⟨FvA.mk' rfl rfl rfl rfl rfl, HL2.o⟩
 have e17 : (kd == (5 : Int)) = false := nH.2 h17;have H17 := zh h17;clear h17;go_upto_region 19 with (fail);clear e17
 by_cases h19 : kd = 7
 ·subst h19;obtain rfl : Q = nq := HQ.o.trans HNQ.o.symm;go_wp2_with fail;refine (Zkp tx _ HT.o).mono ?_;rintro e w2 ⟨rfl, hb2⟩;have HL2 := zh (show Zb w w2 from hb2);clear hb2;go_wp2_with fail;rw [HR.o];exact ⟨FvA.mk' rfl rfl rfl rfl rfl, HL2.o⟩
 have e19 : (kd == (7 : Int)) = false := nH.2 h19;have H19 := zh h19;clear h19;go_upto_region 21 with (fail);clear e19
 by_cases h21 : kd = 8
 ·subst h21;obtain rfl : Q = nq := HQ.o.trans HNQ.o.symm;go_wp2_with fail;refine (Zjo tx _ HT.o).mono ?_;rintro e w2 ⟨⟨r, rfl, hr⟩, hb2⟩;have HL2 := zh (show Zb w w2 from hb2);obtain rfl : R = decide (0 < r) := HR.o.trans hr.symm;clear hb2 hr HR;go_wp2_with fail;exact ⟨FvA.mk' rfl rfl rfl rfl rfl, HL2.o⟩
 have e21 : (kd == (8 : Int)) = false := nH.2 h21;have H21 := zh h21;clear h21;go_upto_region 23 with (fail);clear e21
 by_cases h23 : kd = 20
 ·subst h23;obtain rfl : R = tq := HR.o.trans HTQ.o.symm
  by_cases h0 : nm = 0
  ·subst h0;obtain ⟨p, hp⟩ : ∃ b : Bool, decide ((1 : Int) + (0 : Int) ≤ (c.kids.length : Int)) = b := ⟨_, rfl⟩;obtain ⟨q, hq⟩ : ∃ b : Bool, (((c.kids.length : Int) - 1 - (0 : Int)) % 2 == 0) = b := ⟨_, rfl⟩;obtain rfl : Q = (p && q) := HQ.o.trans (by rw [← hp, ← hq]; rfl);have hp2 : decide ((1 : Int) ≤ (c.kids.length : Int)) = p := hp;have tw : IntKind.i64.wrap ((c.kids.length : Int) - 1) = (c.kids.length : Int) - 1 := IntWalk.i64_in _ (by omega);have tw2 : IntKind.i64.wrap ((c.kids.length : Int) - 1 - 0) = (c.kids.length : Int) - 1 := by rw [IntWalk.i64_in _ (by omega)]; omega
   clear hp
   cases p with
   | false => (go_wp2_with fail; exact ⟨FvA.mk' rfl rfl rfl rfl rfl, Zb.refl _⟩)
   | true =>
    have hge := of_decide_eq_true hp2;have hm : (((c.kids.length : Int) - 1).tmod 2 == 0) = q := by rw [Int.tmod_eq_emod_of_nonneg (by omega), show (c.kids.length : Int) - 1 = (c.kids.length : Int) - 1 - 0 by omega]; exact hq
    clear hq hge;go_wp2_with fail;exact ⟨FvA.mk' rfl rfl rfl rfl rfl, Zb.refl _⟩
  by_cases h1 : nm = 1
  ·subst h1;obtain ⟨p, hp⟩ : ∃ b : Bool, decide ((1 : Int) + (1 : Int) ≤ (c.kids.length : Int)) = b := ⟨_, rfl⟩;obtain ⟨q, hq⟩ : ∃ b : Bool, (((c.kids.length : Int) - 1 - (1 : Int)) % 2 == 0) = b := ⟨_, rfl⟩;obtain rfl : Q = (p && q) := HQ.o.trans (by rw [← hp, ← hq]; rfl);have hp2 : decide ((2 : Int) ≤ (c.kids.length : Int)) = p := hp;have tw : IntKind.i64.wrap ((c.kids.length : Int) - 1) = (c.kids.length : Int) - 1 := IntWalk.i64_in _ (by omega);have tw2 : IntKind.i64.wrap ((c.kids.length : Int) - 1 - 1) = (c.kids.length : Int) - 2 := by rw [IntWalk.i64_in _ (by omega)]; omega
   clear hp
   cases p with
   | false => (go_wp2_with fail; exact ⟨FvA.mk' rfl rfl rfl rfl rfl, Zb.refl _⟩)
   | true =>
    have hge := of_decide_eq_true hp2;have hm : (((c.kids.length : Int) - 2).tmod 2 == 0) = q := by rw [Int.tmod_eq_emod_of_nonneg (by omega), show (c.kids.length : Int) - 2 = (c.kids.length : Int) - 1 - 1 by omega]; exact hq
    clear hq hge;go_wp2_with fail;exact ⟨FvA.mk' rfl rfl rfl rfl rfl, Zb.refl _⟩
  obtain rfl : Q = false := HQ.o.trans (by unfold xN; simp [h0, h1]);have e0 : (nm == (0 : Int)) = false := nH.2 h0;have e1 : (nm == (1 : Int)) = false := nH.2 h1;go_wp2_with fail;exact ⟨FvA.mk' rfl rfl rfl rfl rfl, Zb.refl _⟩
 have e23 : (kd == (20 : Int)) = false := nH.2 h23;have H23 := zh h23;clear h23;obtain rfl : R = tq := HR.o.trans (by have h7 := H7.o; have h9 := H9.o; have h11 := H11.o; have h13 := H13.o; have h14 := H14.o; have h15 := H15.o; have h17 := H17.o; have h19 := H19.o; have h21 := H21.o; have h23 := H23.o; unfold xW; rw [if_neg h9, if_neg h11, if_neg (by omega), if_neg h17, if_neg h19, if_neg h21]; exact HTQ.o.symm);obtain rfl : Q = nq := HQ.o.trans (by have h7 := H7.o; have h9 := H9.o; have h11 := H11.o; have h13 := H13.o; have h14 := H14.o; have h15 := H15.o; have h17 := H17.o; have h19 := H19.o; have h21 := H21.o; have h23 := H23.o; unfold xN; rw [if_neg h7, if_neg h23]; exact HNQ.o.symm);go_wp2_with fail;exact ⟨FvA.mk' rfl rfl rfl rfl rfl, Zb.refl _⟩
theorem Znm (w : World) (kd : Int) : Calls Tryz.prog 187 #[.int .i64 kd] w fun e w' => e = .returned (.tuple #[.int .i64 (xLo kd), .int .i64 (xHi kd)]) ∧ Below w.heap.size w w' := by
 obtain ⟨lo, hlo⟩ : ∃ z, z = xLo kd := ⟨_, rfl⟩;obtain ⟨hi, hhi⟩ : ∃ z, z = xHi kd := ⟨_, rfl⟩;rw [← hlo, ← hhi];have HLO := zh hlo;have HHI := zh hhi;clear hlo hhi;go_enter Tryz.func187, Tryz.ntmps187;go_upto_region 2 with (fail)
 by_cases h2 : kd = 6
 ·subst h2;obtain rfl : lo = 0 := HLO.o.trans (by decide);obtain rfl : hi = 8 := HHI.o.trans (by decide);go_wp2_with fail
  go_ret2
  exact ⟨rfl, Below.refl _ _⟩
 have e2 : (kd == (6 : Int)) = false := nH.2 h2;have H2 := zh h2;clear h2;go_upto_region 4 with (fail);clear e2
 by_cases h4 : kd = 7
 ·subst h4;obtain rfl : lo = 1 := HLO.o.trans (by decide);obtain rfl : hi = 1 := HHI.o.trans (by decide);go_wp2_with fail
  go_ret2
  exact ⟨rfl, Below.refl _ _⟩
 have e4 : (kd == (7 : Int)) = false := nH.2 h4;have H4 := zh h4;clear h4;go_upto_region 5 with (fail);clear e4
 by_cases h5 : kd = 13
 ·subst h5;obtain rfl : lo = 1 := HLO.o.trans (by decide);obtain rfl : hi = 1 := HHI.o.trans (by decide);go_wp2_with fail
  go_ret2
  exact ⟨rfl, Below.refl _ _⟩
 have e5 : (kd == (13 : Int)) = false := nH.2 h5;have H5 := zh h5;clear h5;go_upto_region 6 with (fail);clear e5
 by_cases h6 : kd = 19
 ·subst h6;obtain rfl : lo = 1 := HLO.o.trans (by decide);obtain rfl : hi = 1 := HHI.o.trans (by decide);go_wp2_with fail
  go_ret2
  exact ⟨rfl, Below.refl _ _⟩
 have e6 : (kd == (19 : Int)) = false := nH.2 h6;have H6 := zh h6;clear h6;go_upto_region 7 with (fail);clear e6
 by_cases h7 : kd = 26
 ·subst h7;obtain rfl : lo = 1 := HLO.o.trans (by decide);obtain rfl : hi = 1 := HHI.o.trans (by decide);go_wp2_with fail
  go_ret2
  exact ⟨rfl, Below.refl _ _⟩
 have e7 : (kd == (26 : Int)) = false := nH.2 h7;have H7 := zh h7;clear h7;go_upto_region 8 with (fail);clear e7
 by_cases h8 : kd = 27
 ·subst h8;obtain rfl : lo = 1 := HLO.o.trans (by decide);obtain rfl : hi = 1 := HHI.o.trans (by decide);go_wp2_with fail
  go_ret2
  exact ⟨rfl, Below.refl _ _⟩
 have e8 : (kd == (27 : Int)) = false := nH.2 h8;have H8 := zh h8;clear h8;go_upto_region 10 with (fail);clear e8
 by_cases h10 : kd = 8
 ·subst h10;obtain rfl : lo = 2 := HLO.o.trans (by decide);obtain rfl : hi = 2 := HHI.o.trans (by decide);go_wp2_with fail
  go_ret2
  exact ⟨rfl, Below.refl _ _⟩
 have e10 : (kd == (8 : Int)) = false := nH.2 h10;have H10 := zh h10;clear h10;go_upto_region 11 with (fail);clear e10
 by_cases h11 : kd = 11
 ·subst h11;obtain rfl : lo = 2 := HLO.o.trans (by decide);obtain rfl : hi = 2 := HHI.o.trans (by decide);go_wp2_with fail
  go_ret2
  exact ⟨rfl, Below.refl _ _⟩
 have e11 : (kd == (11 : Int)) = false := nH.2 h11;have H11 := zh h11;clear h11;go_upto_region 13 with (fail);clear e11
 by_cases h13 : kd = 9
 ·subst h13;obtain rfl : lo = 2 := HLO.o.trans (by decide);obtain rfl : hi = 3 := HHI.o.trans (by decide);go_wp2_with fail
  go_ret2
  exact ⟨rfl, Below.refl _ _⟩
 have e13 : (kd == (9 : Int)) = false := nH.2 h13;have H13 := zh h13;clear h13;go_upto_region 14 with (fail);clear e13
 by_cases h14 : kd = 15
 ·subst h14;obtain rfl : lo = 2 := HLO.o.trans (by decide);obtain rfl : hi = 3 := HHI.o.trans (by decide);go_wp2_with fail
  go_ret2
  exact ⟨rfl, Below.refl _ _⟩
 have e14 : (kd == (15 : Int)) = false := nH.2 h14;have H14 := zh h14;clear h14;go_upto_region 16 with (fail);clear e14
 by_cases h16 : kd = 10
 ·subst h16;obtain rfl : lo = 1 := HLO.o.trans (by decide);obtain rfl : hi = 9 := HHI.o.trans (by decide);go_wp2_with fail
  go_ret2
  exact ⟨rfl, Below.refl _ _⟩
 have e16 : (kd == (10 : Int)) = false := nH.2 h16;have H16 := zh h16;clear h16;go_upto_region 18 with (fail);clear e16
 by_cases h18 : kd = 12
 ·subst h18;obtain rfl : lo = 3 := HLO.o.trans (by decide);obtain rfl : hi = 3 := HHI.o.trans (by decide);go_wp2_with fail
  go_ret2
  exact ⟨rfl, Below.refl _ _⟩
 have e18 : (kd == (12 : Int)) = false := nH.2 h18;have H18 := zh h18;clear h18;go_upto_region 20 with (fail);clear e18
 by_cases h20 : kd = 14
 ·subst h20;obtain rfl : lo = 0 := HLO.o.trans (by decide);obtain rfl : hi = 24 := HHI.o.trans (by decide);go_wp2_with fail
  go_ret2
  exact ⟨rfl, Below.refl _ _⟩
 have e20 : (kd == (14 : Int)) = false := nH.2 h20;have H20 := zh h20;clear h20;go_upto_region 22 with (fail);clear e20
 by_cases h22 : kd = 16
 ·subst h22;obtain rfl : lo = 1 := HLO.o.trans (by decide);obtain rfl : hi = 2 := HHI.o.trans (by decide);go_wp2_with fail
  go_ret2
  exact ⟨rfl, Below.refl _ _⟩
 have e22 : (kd == (16 : Int)) = false := nH.2 h22;have H22 := zh h22;clear h22;go_upto_region 23 with (fail);clear e22
 by_cases h23 : kd = 17
 ·subst h23;obtain rfl : lo = 1 := HLO.o.trans (by decide);obtain rfl : hi = 2 := HHI.o.trans (by decide);go_wp2_with fail
  go_ret2
  exact ⟨rfl, Below.refl _ _⟩
 have e23 : (kd == (17 : Int)) = false := nH.2 h23;have H23 := zh h23;clear h23;go_upto_region 24 with (fail);clear e23
 by_cases h24 : kd = 18
 ·subst h24;obtain rfl : lo = 1 := HLO.o.trans (by decide);obtain rfl : hi = 2 := HHI.o.trans (by decide);go_wp2_with fail
  go_ret2
  exact ⟨rfl, Below.refl _ _⟩
 have e24 : (kd == (18 : Int)) = false := nH.2 h24;have H24 := zh h24;clear h24;go_upto_region 26 with (fail);clear e24
 by_cases h26 : kd = 20
 ·subst h26;obtain rfl : lo = 1 := HLO.o.trans (by decide);obtain rfl : hi = 14 := HHI.o.trans (by decide);go_wp2_with fail
  go_ret2
  exact ⟨rfl, Below.refl _ _⟩
 have e26 : (kd == (20 : Int)) = false := nH.2 h26;have H26 := zh h26;clear h26;go_upto_region 28 with (fail);clear e26
 by_cases h28 : kd = 21
 ·subst h28;obtain rfl : lo = 0 := HLO.o.trans (by decide);obtain rfl : hi = 1 := HHI.o.trans (by decide);go_wp2_with fail
  go_ret2
  exact ⟨rfl, Below.refl _ _⟩
 have e28 : (kd == (21 : Int)) = false := nH.2 h28;have H28 := zh h28;clear h28;go_upto_region 29 with (fail);clear e28
 by_cases h29 : kd = 24
 ·subst h29;obtain rfl : lo = 0 := HLO.o.trans (by decide);obtain rfl : hi = 1 := HHI.o.trans (by decide);go_wp2_with fail
  go_ret2
  exact ⟨rfl, Below.refl _ _⟩
 have e29 : (kd == (24 : Int)) = false := nH.2 h29;have H29 := zh h29;clear h29;go_upto_region 31 with (fail);clear e29
 by_cases h31 : kd = 22
 ·subst h31;obtain rfl : lo = 0 := HLO.o.trans (by decide);obtain rfl : hi = 2 := HHI.o.trans (by decide);go_wp2_with fail
  go_ret2
  exact ⟨rfl, Below.refl _ _⟩
 have e31 : (kd == (22 : Int)) = false := nH.2 h31;have H31 := zh h31;clear h31;go_upto_region 33 with (fail);clear e31
 by_cases h33 : kd = 29
 ·subst h33;obtain rfl : lo = 2 := HLO.o.trans (by decide);obtain rfl : hi = 8 := HHI.o.trans (by decide);go_wp2_with fail
  go_ret2
  exact ⟨rfl, Below.refl _ _⟩
 have e33 : (kd == (29 : Int)) = false := nH.2 h33;have H33 := zh h33;clear h33;obtain rfl : lo = 0 := HLO.o.trans (by have h2 := H2.o; have h4 := H4.o; have h5 := H5.o; have h6 := H6.o; have h7 := H7.o; have h8 := H8.o; have h10 := H10.o; have h11 := H11.o; have h13 := H13.o; have h14 := H14.o; have h16 := H16.o; have h18 := H18.o; have h20 := H20.o; have h22 := H22.o; have h23 := H23.o; have h24 := H24.o; have h26 := H26.o; have h28 := H28.o; have h29 := H29.o; have h31 := H31.o; have h33 := H33.o; unfold xLo; simp [h2, h4, h5, h6, h7, h8, h10, h11, h13, h14, h16, h18, h20, h22, h23, h24, h26, h28, h29, h31, h33]);obtain rfl : hi = 0 := HHI.o.trans (by have h2 := H2.o; have h4 := H4.o; have h5 := H5.o; have h6 := H6.o; have h7 := H7.o; have h8 := H8.o; have h10 := H10.o; have h11 := H11.o; have h13 := H13.o; have h14 := H14.o; have h16 := H16.o; have h18 := H18.o; have h20 := H20.o; have h22 := H22.o; have h23 := H23.o; have h24 := H24.o; have h26 := H26.o; have h28 := H28.o; have h29 := H29.o; have h31 := H31.o; have h33 := H33.o; unfold xHi; simp [h2, h4, h5, h6, h7, h8, h10, h11, h13, h14, h16, h18, h20, h22, h23, h24, h26, h28, h29, h31, h33]);go_wp2_with fail
 go_ret2
 exact ⟨rfl, Below.refl _ _⟩
theorem Znn (n : Nat) (w : World) (F : Nat → Prop) (c : Ze) (A : Option Addr) (k : Nat) (hv : EV n F w c A k) : Calls Tryz.prog 185 #[c.val A k] w fun e w' => e = .returned (.tuple #[.int .i64 (xLo c.kind), .int .i64 (xHi c.kind)]) ∧ Below w.heap.size w w' := by
 unfold Ze.val;have HV := zh hv;have hks1 := hv.len;obtain ⟨wb, hlwb, HB, hwb⟩ := aN w (.cells #[.int .i64 c.kind, .string c.text, .int .i64 c.aB, .int .i64 c.line, .slice A c.kids.length k] 104);replace HB := zh HB;have HLb := zh hlwb;clear hlwb hv;obtain ⟨c0, c1, c2, c3, c4⟩ := Z1 HB.o;have fc0 := fz HB.o;obtain ⟨kd, hkd⟩ : ∃ z, z = c.kind := ⟨_, rfl⟩;rw [← hkd] at c0 ⊢;rw [← hkd] at hwb;clear hkd;obtain ⟨lo, hlo⟩ : ∃ z, z = xLo kd := ⟨_, rfl⟩;obtain ⟨hi, hhi⟩ : ∃ z, z = xHi kd := ⟨_, rfl⟩;rw [← hlo, ← hhi];have HLO := zh hlo;have HHI := zh hhi;clear hlo hhi;go_enter Tryz.func185, Tryz.ntmps185;go_upto_region 2 with (fail);clear hwb c0 fc0 c1 c2 c3 c4
 by_cases h2 : kd = 6
 ·subst h2;obtain rfl : lo = 0 := HLO.o.trans (by decide);obtain rfl : hi = 8 := HHI.o.trans (by decide);go_wp2_with fail
  go_ret2
  exact ⟨rfl, HLb.o⟩
 have e2 : (kd == (6 : Int)) = false := nH.2 h2;have H2 := zh h2;clear h2;go_upto_region 4 with (fail);clear e2
 by_cases h4 : kd = 7
 ·subst h4;obtain rfl : lo = 1 := HLO.o.trans (by decide);obtain rfl : hi = 1 := HHI.o.trans (by decide);go_wp2_with fail
  go_ret2
  exact ⟨rfl, HLb.o⟩
 have e4 : (kd == (7 : Int)) = false := nH.2 h4;have H4 := zh h4;clear h4;go_upto_region 5 with (fail);clear e4
 by_cases h5 : kd = 13
 ·subst h5;obtain rfl : lo = 1 := HLO.o.trans (by decide);obtain rfl : hi = 1 := HHI.o.trans (by decide);go_wp2_with fail
  go_ret2
  exact ⟨rfl, HLb.o⟩
 have e5 : (kd == (13 : Int)) = false := nH.2 h5;have H5 := zh h5;clear h5;go_upto_region 6 with (fail);clear e5
 by_cases h6 : kd = 19
 ·subst h6;obtain rfl : lo = 1 := HLO.o.trans (by decide);obtain rfl : hi = 1 := HHI.o.trans (by decide);go_wp2_with fail
  go_ret2
  exact ⟨rfl, HLb.o⟩
 have e6 : (kd == (19 : Int)) = false := nH.2 h6;have H6 := zh h6;clear h6;go_upto_region 7 with (fail);clear e6
 by_cases h7 : kd = 26
 ·subst h7;obtain rfl : lo = 1 := HLO.o.trans (by decide);obtain rfl : hi = 1 := HHI.o.trans (by decide);go_wp2_with fail
  go_ret2
  exact ⟨rfl, HLb.o⟩
 have e7 : (kd == (26 : Int)) = false := nH.2 h7;have H7 := zh h7;clear h7;go_upto_region 8 with (fail);clear e7
 by_cases h8 : kd = 27
 ·subst h8;obtain rfl : lo = 1 := HLO.o.trans (by decide);obtain rfl : hi = 1 := HHI.o.trans (by decide);go_wp2_with fail
  go_ret2
  exact ⟨rfl, HLb.o⟩
 have e8 : (kd == (27 : Int)) = false := nH.2 h8;have H8 := zh h8;clear h8;go_upto_region 10 with (fail);clear e8
 by_cases h10 : kd = 8
 ·subst h10;obtain rfl : lo = 2 := HLO.o.trans (by decide);obtain rfl : hi = 2 := HHI.o.trans (by decide);go_wp2_with fail
  go_ret2
  exact ⟨rfl, HLb.o⟩
 have e10 : (kd == (8 : Int)) = false := nH.2 h10;have H10 := zh h10;clear h10;go_upto_region 11 with (fail);clear e10
 by_cases h11 : kd = 11
 ·subst h11;obtain rfl : lo = 2 := HLO.o.trans (by decide);obtain rfl : hi = 2 := HHI.o.trans (by decide);go_wp2_with fail
  go_ret2
  exact ⟨rfl, HLb.o⟩
 have e11 : (kd == (11 : Int)) = false := nH.2 h11;have H11 := zh h11;clear h11;go_upto_region 13 with (fail);clear e11
 by_cases h13 : kd = 9
 ·subst h13;obtain rfl : lo = 2 := HLO.o.trans (by decide);obtain rfl : hi = 3 := HHI.o.trans (by decide);go_wp2_with fail
  go_ret2
  exact ⟨rfl, HLb.o⟩
 have e13 : (kd == (9 : Int)) = false := nH.2 h13;have H13 := zh h13;clear h13;go_upto_region 14 with (fail);clear e13
 by_cases h14 : kd = 15
 ·subst h14;obtain rfl : lo = 2 := HLO.o.trans (by decide);obtain rfl : hi = 3 := HHI.o.trans (by decide);go_wp2_with fail
  go_ret2
  exact ⟨rfl, HLb.o⟩
 have e14 : (kd == (15 : Int)) = false := nH.2 h14;have H14 := zh h14;clear h14;go_upto_region 16 with (fail);clear e14
 by_cases h16 : kd = 10
 ·subst h16;obtain rfl : lo = 1 := HLO.o.trans (by decide);obtain rfl : hi = 9 := HHI.o.trans (by decide);go_wp2_with fail
  go_ret2
  exact ⟨rfl, HLb.o⟩
 have e16 : (kd == (10 : Int)) = false := nH.2 h16;have H16 := zh h16;clear h16;go_upto_region 18 with (fail);clear e16
 by_cases h18 : kd = 12
 ·subst h18;obtain rfl : lo = 3 := HLO.o.trans (by decide);obtain rfl : hi = 3 := HHI.o.trans (by decide);go_wp2_with fail
  go_ret2
  exact ⟨rfl, HLb.o⟩
 have e18 : (kd == (12 : Int)) = false := nH.2 h18;have H18 := zh h18;clear h18;go_upto_region 20 with (fail);clear e18
 by_cases h20 : kd = 14
 ·subst h20;obtain rfl : lo = 0 := HLO.o.trans (by decide);obtain rfl : hi = 24 := HHI.o.trans (by decide);go_wp2_with fail
  go_ret2
  exact ⟨rfl, HLb.o⟩
 have e20 : (kd == (14 : Int)) = false := nH.2 h20;have H20 := zh h20;clear h20;go_upto_region 22 with (fail);clear e20
 by_cases h22 : kd = 16
 ·subst h22;obtain rfl : lo = 1 := HLO.o.trans (by decide);obtain rfl : hi = 2 := HHI.o.trans (by decide);go_wp2_with fail
  go_ret2
  exact ⟨rfl, HLb.o⟩
 have e22 : (kd == (16 : Int)) = false := nH.2 h22;have H22 := zh h22;clear h22;go_upto_region 23 with (fail);clear e22
 by_cases h23 : kd = 17
 ·subst h23;obtain rfl : lo = 1 := HLO.o.trans (by decide);obtain rfl : hi = 2 := HHI.o.trans (by decide);go_wp2_with fail
  go_ret2
  exact ⟨rfl, HLb.o⟩
 have e23 : (kd == (17 : Int)) = false := nH.2 h23;have H23 := zh h23;clear h23;go_upto_region 24 with (fail);clear e23
 by_cases h24 : kd = 18
 ·subst h24;obtain rfl : lo = 1 := HLO.o.trans (by decide);obtain rfl : hi = 2 := HHI.o.trans (by decide);go_wp2_with fail
  go_ret2
  exact ⟨rfl, HLb.o⟩
 have e24 : (kd == (18 : Int)) = false := nH.2 h24;have H24 := zh h24;clear h24;go_upto_region 26 with (fail);clear e24
 by_cases h26 : kd = 20
 ·subst h26;obtain rfl : lo = 1 := HLO.o.trans (by decide);obtain rfl : hi = 14 := HHI.o.trans (by decide);go_wp2_with fail
  go_ret2
  exact ⟨rfl, HLb.o⟩
 have e26 : (kd == (20 : Int)) = false := nH.2 h26;have H26 := zh h26;clear h26;go_upto_region 28 with (fail);clear e26
 by_cases h28 : kd = 21
 ·subst h28;obtain rfl : lo = 0 := HLO.o.trans (by decide);obtain rfl : hi = 1 := HHI.o.trans (by decide);go_wp2_with fail
  go_ret2
  exact ⟨rfl, HLb.o⟩
 have e28 : (kd == (21 : Int)) = false := nH.2 h28;have H28 := zh h28;clear h28;go_upto_region 29 with (fail);clear e28
 by_cases h29 : kd = 24
 ·subst h29;obtain rfl : lo = 0 := HLO.o.trans (by decide);obtain rfl : hi = 1 := HHI.o.trans (by decide);go_wp2_with fail
  go_ret2
  exact ⟨rfl, HLb.o⟩
 have e29 : (kd == (24 : Int)) = false := nH.2 h29;have H29 := zh h29;clear h29;go_upto_region 31 with (fail);clear e29
 by_cases h31 : kd = 22
 ·subst h31;obtain rfl : lo = 0 := HLO.o.trans (by decide);obtain rfl : hi = 2 := HHI.o.trans (by decide);go_wp2_with fail
  go_ret2
  exact ⟨rfl, HLb.o⟩
 have e31 : (kd == (22 : Int)) = false := nH.2 h31;have H31 := zh h31;clear h31;go_upto_region 33 with (fail);clear e31
 by_cases h33 : kd = 29
 ·subst h33;obtain rfl : lo = 2 := HLO.o.trans (by decide);obtain rfl : hi = 8 := HHI.o.trans (by decide);go_wp2_with fail
  go_ret2
  exact ⟨rfl, HLb.o⟩
 have e33 : (kd == (29 : Int)) = false := nH.2 h33;have H33 := zh h33;clear h33;obtain rfl : lo = 0 := HLO.o.trans (by have h2 := H2.o; have h4 := H4.o; have h5 := H5.o; have h6 := H6.o; have h7 := H7.o; have h8 := H8.o; have h10 := H10.o; have h11 := H11.o; have h13 := H13.o; have h14 := H14.o; have h16 := H16.o; have h18 := H18.o; have h20 := H20.o; have h22 := H22.o; have h23 := H23.o; have h24 := H24.o; have h26 := H26.o; have h28 := H28.o; have h29 := H29.o; have h31 := H31.o; have h33 := H33.o; unfold xLo; simp [h2, h4, h5, h6, h7, h8, h10, h11, h13, h14, h16, h18, h20, h22, h23, h24, h26, h28, h29, h31, h33]);obtain rfl : hi = 0 := HHI.o.trans (by have h2 := H2.o; have h4 := H4.o; have h5 := H5.o; have h6 := H6.o; have h7 := H7.o; have h8 := H8.o; have h10 := H10.o; have h11 := H11.o; have h13 := H13.o; have h14 := H14.o; have h16 := H16.o; have h18 := H18.o; have h20 := H20.o; have h22 := H22.o; have h23 := H23.o; have h24 := H24.o; have h26 := H26.o; have h28 := H28.o; have h29 := H29.o; have h31 := H31.o; have h33 := H33.o; unfold xHi; simp [h2, h4, h5, h6, h7, h8, h10, h11, h13, h14, h16, h18, h20, h22, h23, h24, h26, h28, h29, h31, h33]);go_wp2_with fail
 go_ret2
 exact ⟨rfl, HLb.o⟩
def Zxj (n : Nat) : Prop := ∀ (w : World) (F : Nat → Prop) (c : Ze) (A : Option Addr) (k : Nat), EV n F w c A k → Spc w → Calls Tryz.prog 176 #[c.val A k] w fun e w' => e = .returned (.bool (vX (n + 1) c)) ∧ Below w.heap.size w w'
theorem Zjq {f : Nat → Bool} {m : Nat} (h : ∀ i, i < m → f i = true) : (List.range m).all f = true := List.all_eq_true.2 fun i hi => h i (List.mem_range.1 hi)
theorem Zd3 {f : Nat → Bool} {m j : Nat} (hj : j < m) (h : f j = false) : (List.range m).all f = false := by
 rw [← Bool.not_eq_true];intro h2;have := List.all_eq_true.1 h2 j (List.mem_range.2 hj);rw [h] at this
 cases this
theorem Zhx : ∀ n, Zxj n
 | n => fun w F c A k hv ht => by
  have IH : ∀ n', n = n' + 1 → Zxj n' := fun n' h => by subst h; exact Zhx n'
  unfold Ze.val;have HV := zh hv;have hks1 := hv.len;obtain ⟨wb, hlwb, HB, hwb⟩ := aN w (.cells #[.int .i64 c.kind, .string c.text, .int .i64 c.aB, .int .i64 c.line, .slice A c.kids.length k] 104);replace HB := zh HB;have HLb := zh hlwb;clear hlwb hv;have HT := zh (ht.below HLb.o);obtain ⟨R, hR⟩ : ∃ z, z = vX (n + 1) c := ⟨_, rfl⟩;rw [← hR];have HR := zh (show R = (xHd c && (List.range c.kids.length).all fun i => vX n (c.kid i)) from hR);have HH := zh (show xHd c = (decide (1 ≤ c.kind) && (decide (c.kind ≤ 29) && (decide (0 ≤ c.line) && (decide (xLo c.kind ≤ (c.kids.length : Int)) && (decide ((c.kids.length : Int) ≤ xHi c.kind) && (xW c.kind c.text && xN c.kind c.aB c.kids.length)))))) from rfl);obtain ⟨lo, hlo⟩ : ∃ z, z = xLo c.kind := ⟨_, rfl⟩;obtain ⟨hi, hhi⟩ : ∃ z, z = xHi c.kind := ⟨_, rfl⟩;rw [← hlo, ← hhi] at HH;have HLO := zh hlo;have HHI := zh hhi;clear hR ht hlo hhi;obtain ⟨b1, hb1⟩ : ∃ b : Bool, decide (c.kind < 1) = b := ⟨_, rfl⟩;obtain ⟨b2, hb2⟩ : ∃ b : Bool, decide (29 < c.kind) = b := ⟨_, rfl⟩;obtain ⟨b3, hb3⟩ : ∃ b : Bool, decide ((c.kids.length : Int) < lo) = b := ⟨_, rfl⟩;obtain ⟨b4, hb4⟩ : ∃ b : Bool, decide (hi < (c.kids.length : Int)) = b := ⟨_, rfl⟩;obtain ⟨b5, hb5⟩ : ∃ b : Bool, decide (c.line < 0) = b := ⟨_, rfl⟩;have HD := zh (show xHd c = (!b1 && (!b2 && (!b3 && (!b4 && (!b5 && (xW c.kind c.text && xN c.kind c.aB c.kids.length)))))) by
   rw [HH.o, ← hb1, ← hb2, ← hb3, ← hb4, ← hb5, Bool.eq_iff_iff];simp only [Bool.and_eq_true, nJ, Bool.not_eq_true', nI, Int.not_lt]
   constructor
   ·rintro ⟨a1, a2, a3, a4, a5, a6⟩; exact ⟨a1, a2, a4, a5, a3, a6⟩
   ·rintro ⟨a1, a2, a4, a5, a3, a6⟩; exact ⟨a1, a2, a3, a4, a5, a6⟩)
  clear HH;obtain ⟨c0, c1, c2, c3, c4⟩ := Z1 HB.o;have fc0 := fz HB.o;go_enter Tryz.func176, Tryz.ntmps176;go_wp2_with fail;refine (Znm _ c.kind).mono ?_;rintro e w2 ⟨rfl, hb⟩;rw [← HLO.o, ← HHI.o];have HL2 := zh (show Zb wb w2 from hb);clear hb;clear c0 fc0 c1 c2 c3 c4;have HB2 := zB HL2 HB;obtain ⟨c0, c1, c2, c3, c4⟩ := Z1 HB2.o;have fc0 := fz HB2.o
  cases b1 with
  | true => (go_wp2_with fail; go_ret; exact ⟨by rw [HR.o, HD.o]; rfl, HLb.o.trans HL2.o⟩)
  | false =>
  cases b2 with
  | true => (go_wp2_with fail; go_ret; exact ⟨by rw [HR.o, HD.o]; rfl, HLb.o.trans HL2.o⟩)
  | false =>
  cases b3 with
  | true => (go_wp2_with fail; go_ret; exact ⟨by rw [HR.o, HD.o]; rfl, HLb.o.trans HL2.o⟩)
  | false =>
  cases b4 with
  | true => (go_wp2_with fail; go_ret; exact ⟨by rw [HR.o, HD.o]; rfl, HLb.o.trans HL2.o⟩)
  | false =>
  cases b5 with
  | true => (go_wp2_with fail; go_ret; exact ⟨by rw [HR.o, HD.o]; rfl, HLb.o.trans HL2.o⟩)
  | false =>
  obtain ⟨tq, htq⟩ : ∃ z : Bool, (c.text.toList == []) = z := ⟨_, rfl⟩;obtain ⟨nq, hnq⟩ : ∃ z : Bool, (c.aB == 0) = z := ⟨_, rfl⟩
  go_upto_block 0 with (fail)
  have HV2 := zh (HV.o.later (HLb.o.trans HL2.o));refine @Z8 _ xvSw ?R1 _ _ _ _ ?h ?k
  case h =>
   refine Zu1 n w2 F c A k w.heap.size c.kind c.aB c.text HV2 (zh ⟨rfl, rfl, rfl⟩) HB2 (HT.o.below HL2.o) (zh ?hf)
   case hf => exact (by rw [htq, hnq]; exact FvS.mk' rfl rfl rfl rfl rfl rfl)
  case k =>
  rintro a' w3 ⟨hf, hl⟩;obtain ⟨fr1, rfl⟩ := hf.opn;have HL3 := zh (Zb.trans HL2.o hl);clear hf hl htq hnq;clear c0 fc0 c1 c2 c3 c4;have HB3 := zB HL3 HB;obtain ⟨c0, c1, c2, c3, c4⟩ := Z1 HB3.o;have fc0 := fz HB3.o;obtain ⟨xw, hxw⟩ : ∃ z, z = xW c.kind c.text := ⟨_, rfl⟩;obtain ⟨xn, hxn⟩ : ∃ z, z = xN c.kind c.aB c.kids.length := ⟨_, rfl⟩;rw [← hxw, ← hxn];rw [← hxw, ← hxn] at HD;clear hxw hxn
  cases xw with
  | false => (go_wp2_with fail; go_ret; exact ⟨by rw [HR.o, HD.o]; rfl, HLb.o.trans HL3.o⟩)
  | true =>
  cases xn with
  | false => (go_wp2_with fail; go_ret; exact ⟨by rw [HR.o, HD.o]; rfl, HLb.o.trans HL3.o⟩)
  | true =>
  clear hb1 hb2 hb3 hb4 hb5;go_wp2_with fail
  go_loopw [8, 133] (fun _ iv wr => ∃ j : Nat, j ≤ c.kids.length ∧ iv = .int .i64 j ∧ Hd (∀ i, i < j → vX n (c.kid i) = true) ∧ Zb wb wr) (fun _ iv _ => c.kids.length - (intOf iv).toNat)
  case atStart => exact ⟨0, Nat.zero_le _, rfl, zh (fun i h => by omega), HL3.o⟩
  case round =>
   obtain ⟨j, hj, rfl, HJ, hl⟩ := hrel;have HL := zh hl;clear hl;clear c0 fc0 c1 c2 c3 c4
   by_cases hlt : j < c.kids.length
   ·obtain ⟨n', rfl⟩ := HV.o.lev hlt;have hlt' : (j : Int) < (c.kids.length : Int) := by omega
    obtain ⟨kb, ko, Bk, q, eA, hca⟩ := (HV.o.later (HLb.o.trans HL.o)).kid hlt;cases eA;have HKX := zh (Zcv hlt);obtain ⟨x, hx⟩ : ∃ z, z = c.kids[j] := ⟨_, rfl⟩;rw [← hx] at hca HKX;have HX := zh hx;have HCA := zh hca;have d0 := hca.c0;have d1 := hca.c1;have d2 := hca.c2;have d3 := hca.c3;have d4 := hca.c4;clear hca hx;have HXK := zh (show c.kid j = x by rw [Zcr hlt, HX.o]);go_wp2_with fail;refine (IH n' rfl _ F x Bk q (EV.later HCA.o.ev ((Zb.refl _).alloc _)) ((HT.o.below HL.o).below ((Zb.refl _).alloc _))).mono ?_;rintro e w4 ⟨rfl, hb⟩;have HL4 := zh (HL.o.trans (Zb.trans ((Zb.refl _).alloc _) hb));clear hb d0 d1 d2 d3 d4;obtain ⟨r, hr⟩ : ∃ z, z = vX (n' + 1) x := ⟨_, rfl⟩;rw [← hr];have HRR := zh hr;clear hr
    cases r with
    | false =>
     go_wp2_with fail;go_ret;exact ⟨by rw [HR.o, Zd3 hlt (by rw [HXK.o, ← HRR.o]), Bool.and_false]; first | done | rfl, HLb.o.trans HL4.o⟩
    | true =>
     go_wp2_with fail
     go_roundw
     case rel => exact ⟨j + 1, by omega, by go_num, zh (fun i hi => by
      by_cases h2 : i < j
      ·exact HJ.o i h2
      ·obtain rfl : i = j := by omega
       rw [HXK.o, ← HRR.o]), HL4.o⟩
     case measure => simp [intOf]; omega
   ·obtain rfl : j = c.kids.length := by omega
    go_wp2_with fail;go_ret;exact ⟨by rw [HR.o, HD.o, Zjq (fun i hi => HJ.o i hi)]; rfl, HLb.o.trans HL.o⟩
section
def FyX (EB d : Nat) (a : Act) : Prop := Fr 110 [(1, .int .i64 (d : Nat)), (2, .pointer (some ⟨EB, 0, none⟩)), (4, .bool false)] a
section
variable {EB d : Nat} {a : Act}
theorem FyX.opn (h : FyX EB d a) : ∃ f : Nat → Value, a = ⟨#[f 0, .int .i64 (d : Nat), .pointer (some ⟨EB, 0, none⟩), f 3, .bool false, f 5, f 6, f 7, f 8, f 9, f 10, f 11, f 12, f 13, f 14, f 15, f 16, f 17, f 18, f 19, f 20, f 21, f 22, f 23, f 24, f 25, f 26, f 27, f 28, f 29, f 30, f 31, f 32, f 33, f 34, f 35, f 36, f 37, f 38, f 39, f 40, f 41, f 42, f 43, f 44, f 45, f 46, f 47, f 48, f 49, f 50, f 51, f 52, f 53, f 54, f 55, f 56, f 57, f 58, f 59, f 60, f 61, f 62, f 63, f 64, f 65, f 66, f 67, f 68, f 69, f 70, f 71, f 72, f 73, f 74, f 75, f 76, f 77, f 78, f 79, f 80, f 81, f 82, f 83, f 84, f 85, f 86, f 87, f 88, f 89, f 90, f 91, f 92, f 93, f 94, f 95, f 96, f 97, f 98, f 99, f 100, f 101, f 102, f 103, f 104, f 105, f 106, f 107, f 108, f 109], []⟩ := by
 obtain ⟨f, e, hf⟩ := Fr.lit h;obtain ⟨h1, h2, h4, -⟩ := h.has;refine ⟨f, e.trans ?_⟩;have k1 := Zi h1 (hf 1 (by omega));have k2 := Zi h2 (hf 2 (by omega));have k4 := Zi h4 (hf 4 (by omega));rw [← k1];rw [← k2];rw [← k4]
 rfl
theorem FyX.mk' {A : Array Value} (hs : A.size = 110) (h1 : A[1]? = some (.int .i64 (d : Nat))) (h2 : A[2]? = some (.pointer (some ⟨EB, 0, none⟩))) (h4 : A[4]? = some (.bool false)) : FyX EB d ⟨A, []⟩ := ⟨hs, rfl, h1, h2, h4, trivial⟩
end
def FyN (EB d : Nat) (k1 : Bool) (a : Act) : Prop := Fr 110 [(1, .int .i64 (d : Nat)), (2, .pointer (some ⟨EB, 0, none⟩)), (4, .bool false), (51, .bool k1)] a
section
variable {EB d : Nat} {k1 : Bool} {a : Act}
theorem FyN.opn (h : FyN EB d k1 a) : ∃ f : Nat → Value, a = ⟨#[f 0, .int .i64 (d : Nat), .pointer (some ⟨EB, 0, none⟩), f 3, .bool false, f 5, f 6, f 7, f 8, f 9, f 10, f 11, f 12, f 13, f 14, f 15, f 16, f 17, f 18, f 19, f 20, f 21, f 22, f 23, f 24, f 25, f 26, f 27, f 28, f 29, f 30, f 31, f 32, f 33, f 34, f 35, f 36, f 37, f 38, f 39, f 40, f 41, f 42, f 43, f 44, f 45, f 46, f 47, f 48, f 49, f 50, .bool k1, f 52, f 53, f 54, f 55, f 56, f 57, f 58, f 59, f 60, f 61, f 62, f 63, f 64, f 65, f 66, f 67, f 68, f 69, f 70, f 71, f 72, f 73, f 74, f 75, f 76, f 77, f 78, f 79, f 80, f 81, f 82, f 83, f 84, f 85, f 86, f 87, f 88, f 89, f 90, f 91, f 92, f 93, f 94, f 95, f 96, f 97, f 98, f 99, f 100, f 101, f 102, f 103, f 104, f 105, f 106, f 107, f 108, f 109], []⟩ := by
 obtain ⟨f, e, hf⟩ := Fr.lit h;obtain ⟨h1, h2, h4, h51, -⟩ := h.has;refine ⟨f, e.trans ?_⟩;have k1 := Zi h1 (hf 1 (by omega));have k2 := Zi h2 (hf 2 (by omega));have k4 := Zi h4 (hf 4 (by omega));have k51 := Zi h51 (hf 51 (by omega));rw [← k1];rw [← k2];rw [← k4];rw [← k51]
 rfl
theorem FyN.mk' {A : Array Value} (hs : A.size = 110) (h1 : A[1]? = some (.int .i64 (d : Nat))) (h2 : A[2]? = some (.pointer (some ⟨EB, 0, none⟩))) (h4 : A[4]? = some (.bool false)) (h51 : A[51]? = some (.bool k1)) : FyN EB d k1 ⟨A, []⟩ := ⟨hs, rfl, h1, h2, h4, h51, trivial⟩
end
noncomputable def xyNum : Code := cR (cL (cR (cR (cR (Zal Tryz.f172)))))
theorem Zxk (n : Nat) (v : Int) (hv : v = 0 ∨ v = 1) : xN 20 v n = (!(((n : Int) - (1 + v)).tmod 2 != 0) && !(decide ((n : Int) < 1 + v))) := by
 unfold xN;rw [if_neg (by decide), if_pos rfl, show ((v == 0) || (v == 1)) = true by rcases hv with rfl | rfl <;> rfl, Bool.true_and]
 by_cases h : 1 + v ≤ (n : Int)
 ·rw [nT h, nU (by omega), Bool.true_and, Int.tmod_eq_emod_of_nonneg (by omega), show (n : Int) - 1 - v = (n : Int) - (1 + v) by omega];simp [bne]
 ·rw [nU h, nT (by omega)];simp
theorem Zsn {a : Act} (n : Nat) (w : World) (F : Nat → Prop) (c : Ze) (A : Option Addr) (k : Nat) (EB d : Nat) (kd nm : Int) (HV : Hd (EV n F w c A k)) (HB : Hd (w.heap[EB]? = some (.cells #[.int .i64 kd, .string c.text, .int .i64 nm, .int .i64 c.line, .slice A c.kids.length k] TEx (0, 0)))) (HF : Hd (FyN EB d (kd == 1) a)) :
  xyNum.wp Tryz.prog (Zkb (fun a' x => xN kd nm c.kids.length = true ∧ FyX EB d a' ∧ x = w) (fun a' x => xN kd nm c.kids.length = false ∧ FyX EB d a' ∧ x = w)) a w := by
 obtain ⟨Q, hQ⟩ : ∃ z, z = xN kd nm c.kids.length := ⟨_, rfl⟩;rw [← hQ];have HQ := zh hQ;have hks1 := HV.o.len;clear hQ;have c0 := Z1 HB.o;have fc0 := fz HB.o;obtain ⟨k1, hk1⟩ : ∃ z : Bool, (kd == (1 : Int)) = z := ⟨_, rfl⟩;rw [hk1] at HF;obtain ⟨fr, rfl⟩ := HF.o.opn;clear HF
 conv => arg 2; whnf
 by_cases h1 : kd = 1
 ·subst h1;obtain rfl : k1 = true := hk1.symm;obtain ⟨p, hp⟩ : ∃ b : Bool, decide (nm < 0) = b := ⟨_, rfl⟩;obtain ⟨q, hq⟩ : ∃ b : Bool, decide (999999999999 < nm) = b := ⟨_, rfl⟩;obtain rfl : Q = (!p && !q) := HQ.o.trans (by rw [← hp, ← hq]; unfold xN; rw [if_pos rfl, Bool.eq_iff_iff]; simp)
  cases p <;> cases q <;> (go_wp2_with fail; exact ⟨by first | rfl | simp, FyX.mk' rfl rfl rfl rfl, rfl⟩)
 obtain rfl : k1 = false := hk1.symm.trans (nH.2 h1)
 by_cases h20 : kd = 20
 ·subst h20
  by_cases h0 : nm = 0
  ·subst h0;obtain ⟨p, hp⟩ : ∃ b : Bool, ((c.kids.length : Int) - 1).tmod 2 = 0 ∧ b = true ∨ ((c.kids.length : Int) - 1).tmod 2 ≠ 0 ∧ b = false := by
    by_cases h : ((c.kids.length : Int) - 1).tmod 2 = 0
    ·exact ⟨true, .inl ⟨h, rfl⟩⟩
    ·exact ⟨false, .inr ⟨h, rfl⟩⟩
   obtain ⟨q, hq⟩ : ∃ b : Bool, decide ((c.kids.length : Int) < 1) = b := ⟨_, rfl⟩;have hpn : (((c.kids.length : Int) - 1).tmod 2 != 0) = !p := by rcases hp with ⟨h, rfl⟩ | ⟨h, rfl⟩ <;> simp [h]
   have tw : IntKind.i64.wrap ((c.kids.length : Int) - 1) = (c.kids.length : Int) - 1 := IntWalk.i64_in _ (by omega);have tw2 : IntKind.i64.wrap ((c.kids.length : Int) - 1 - 0) = (c.kids.length : Int) - 1 := by rw [IntWalk.i64_in _ (by omega)]; omega
   obtain rfl : Q = (p && !q) := HQ.o.trans (by rw [Zxk _ _ (by omega), show (1 : Int) + 0 = 1 from rfl, hpn, hq]; simp);clear hp
   cases p <;> cases q <;> (go_wp2_with fail; exact ⟨by first | rfl | simp, FyX.mk' rfl rfl rfl rfl, rfl⟩)
  by_cases h1 : nm = 1
  ·subst h1;obtain ⟨p, hp⟩ : ∃ b : Bool, ((c.kids.length : Int) - 2).tmod 2 = 0 ∧ b = true ∨ ((c.kids.length : Int) - 2).tmod 2 ≠ 0 ∧ b = false := by
    by_cases h : ((c.kids.length : Int) - 2).tmod 2 = 0
    ·exact ⟨true, .inl ⟨h, rfl⟩⟩
    ·exact ⟨false, .inr ⟨h, rfl⟩⟩
   obtain ⟨q, hq⟩ : ∃ b : Bool, decide ((c.kids.length : Int) < 2) = b := ⟨_, rfl⟩;have hpn : (((c.kids.length : Int) - 2).tmod 2 != 0) = !p := by rcases hp with ⟨h, rfl⟩ | ⟨h, rfl⟩ <;> simp [h]
   have tw : IntKind.i64.wrap ((c.kids.length : Int) - 1) = (c.kids.length : Int) - 1 := IntWalk.i64_in _ (by omega);have tw2 : IntKind.i64.wrap ((c.kids.length : Int) - 1 - 1) = (c.kids.length : Int) - 2 := by rw [IntWalk.i64_in _ (by omega)]; omega
   obtain rfl : Q = (p && !q) := HQ.o.trans (by rw [Zxk _ _ (by omega), show (1 : Int) + 1 = 2 from rfl, hpn, hq]; simp);clear hp
   cases p <;> cases q <;> (go_wp2_with fail; exact ⟨by first | rfl | simp, FyX.mk' rfl rfl rfl rfl, rfl⟩)
  have HQF := zh (show Q = false from HQ.o.trans (by unfold xN; simp [h0, h1]));obtain ⟨p, hp⟩ : ∃ b : Bool, decide (nm < 0) = b := ⟨_, rfl⟩;have hq : p = false → decide (1 < nm) = true := fun h => nT (by rw [h] at hp; have := of_decide_eq_false hp; omega)
  cases p with
  | true => (go_wp2_with fail; exact ⟨HQF.o, FyX.mk' rfl rfl rfl rfl, rfl⟩)
  | false =>
   have hq2 := hq rfl;clear hq
   (go_wp2_with fail; exact ⟨HQF.o, FyX.mk' rfl rfl rfl rfl, rfl⟩)
 have e20 : (kd == (20 : Int)) = false := nH.2 h20;obtain ⟨p, hp⟩ : ∃ b : Bool, (nm == 0) = b := ⟨_, rfl⟩;have hpn : (nm != 0) = !p := by rw [← hp]; rfl
 have HQP := zh (show Q = p from HQ.o.trans (by unfold xN; rw [if_neg h1, if_neg h20]; exact hp));clear hp
 cases p <;> (go_wp2_with fail; exact ⟨HQP.o, FyX.mk' rfl rfl rfl rfl, rfl⟩)
end
theorem Zmy : (Tryz.prog.info? 5).map (fun i => (i.zero, i.size, i.bytes)) = some (some (.int .u8 0), 1, 1) := by kernel_rfl
theorem Zlm {w : World} {base g cap n : Nat} {ns : List Int} (hn : ns.length = n) (hown : w.ownsRow base 5 1 (.slice (some ⟨g, 0, none⟩) n cap) n (ns.map (Value.int .u8))) :
  (convert 192 9 (.slice (some ⟨g, 0, none⟩) n cap)).run Tryz.prog w = .ok (.string (Zn6 ns)) w := by
 subst hn;rw [run_convert_bytes_string w 192 9 5 _ _ _ Tryz.underlying192 Tryz.underlying5 Tryz.underlying9];have hl := run_loadCells_list (P := Tryz.prog) w ⟨g, 0, none⟩ (ns.map (Value.int .u8)) (hown.cells (g := g) rfl);rw [List.length_map] at hl;rw [run_bytesToString w ⟨g, 0, none⟩ ns.length cap ns hl, Zn7]
theorem Zso {w x : World} {base : Nat} {e : TypeId} {size : Nat} {v : Value} {n : Nat} {xs : List Value} (h : w.ownsRow base e size v n xs) (hl : Zb w x) : x.ownsRow base e size v n xs := by
 refine ⟨h.1, ?_⟩
 rcases h.2 with hn | ⟨g, cap, cur, rfl, hb, hg, rest⟩
 ·exact .inl hn
 ·exact .inr ⟨g, cap, cur, rfl, hb, (Below.block hl g (Array.getElem?_eq_some_iff.1 hg).1).trans hg, rest⟩
structure Zgt (w : World) (o : List UInt8) (v : Value) (wr : World) : Prop where
 row : wr.ownsRow w.heap.size 5 1 v o.length ((Zmd o).map (Value.int .u8))
 bel : Below w.heap.size w wr
 nn : v ≠ .slice none 0 0
theorem Zgt.later {w wr x : World} {o : List UInt8} {v : Value} (h : Zgt w o v wr) (hl : Zb wr x) : Zgt w o v x :=
 ⟨Zso h.row hl, Below.trans h.bel (Below.mono hl h.bel.size), h.nn⟩
theorem Zgt.form {w wr : World} {o : List UInt8} {v : Value} (h : Zgt w o v wr) : ∃ g cap, v = .slice (some ⟨g, 0, none⟩) o.length cap := by
 rcases h.row.2 with ⟨hv, _⟩ | ⟨g, cap, cur, hv, _⟩
 ·exact absurd hv h.nn
 ·exact ⟨g, cap, hv⟩
theorem Zgt.push {w wr w1 : World} {o : List UInt8} {v v' : Value} (h : Zgt w o v wr) (x : UInt8) (c : Int) (hc : (x.toNat : Int) = c) {ob : Obj} (hown' : w1.ownsRow w.heap.size 5 1 v' (o.length + 1) ((Zmd o).map (Value.int .u8) ++ [Value.int .u8 c])) (hg : (wr.alloc ob).grownBy w1 v.ownBlock) (hn : v' = .slice none 0 0 ↔ v = .slice none 0 0 ∧ 1 = 0) : Zgt w (o ++ [x]) v' w1 := by
 subst hc;have hsz := h.bel.size;refine ⟨?_, (h.bel.alloc hsz ob).grown hg (by simp; omega) (fun g hg' => (h.row.lt g hg').1), fun e => by have := (hn.1 e).2; omega⟩;rw [List.length_append, List.length_singleton, Zn5, List.map_append];exact hown'
theorem Zgt.start (w : World) : Zgt w [] (.slice (some ⟨w.heap.size, 0, none⟩) 0 0) (w.alloc (.cells #[] 5)) :=
 ⟨⟨rfl, .inr ⟨w.heap.size, 0, #[], rfl, Nat.le_refl _, heap_alloc_new w _, Nat.le_refl _, Nat.zero_le _, rfl, rfl⟩⟩, (Below.refl _ _).alloc (Nat.le_refl _) _, fun e => by cases e⟩
theorem Zqb (o : List UInt8) : Zn6 (Zmd o) = ⟨o.toArray⟩ := by
 unfold Zn6 Zmd;rw [List.map_map]
 congr 1
 congr 1
 conv => rhs; rw [← List.map_id o]
 apply List.map_congr_left
 intro b _;simp
theorem Zgt.text {w wr : World} {o : List UInt8} {g cap : Nat} (h : Zgt w o (.slice (some ⟨g, 0, none⟩) o.length cap) wr) : (convert 192 9 (.slice (some ⟨g, 0, none⟩) o.length cap)).run Tryz.prog wr = .ok (.string ⟨o.toArray⟩) wr := by
 have := Zlm (ns := Zmd o) (n := o.length) (by simp [Zmd]) h.row;rw [Zqb] at this;exact this
end Go.Proofs.YtcmmdchjppaimaaGreatDoor
