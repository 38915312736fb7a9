/- Part of the walks that the claim stands on. -/
import Derived.Lib.Hide
import Derived.Below
import Derived.Laws.Rows
import Derived.Deep.RegionHeld3
import Derived.Deep.DrawnRows
import Derived.WalkKit
import Derived.ProofKit
import Derived.OpenShut
import Derived.Laws.AppendOwn
import Derived.OwnWalk
import Derived.Test.YtpmhelkiicigfaaGreatDoorChecked
import Derived.WalkSpells
import Derived.WalkLawsBesides
import Derived.Outline
import Derived.Deep.DeepCutAuto
import Derived.Deep.QuietTactic
import Derived.BigQuiet
import Derived.WalkSmall
import Derived.Laws.AppendOwnNone
import Derived.Lib.ItoaMem
import Derived.Lib.ItoaLen
import Derived.Lib.Split
import Derived.Deep.LoopGhost
import Derived.Deep.CutBlock
import Derived.Maps.AppendAt
import Derived.Deep.AppendLies
import Derived.Laws.Strings
import Derived.Test.YtpmhelkiicigfaaGreatDoorShelf
set_option maxRecDepth 100000
set_option maxHeartbeats 40000000
namespace Go.Proofs.YtpmhelkiicigfaaGreatDoor
open Go.RowKit
theorem nA {α : Type} (l : List α) (i : Nat) (a : α) : l.toArray.setIfInBounds i a = (l.set i a).toArray := List.setIfInBounds_toArray ..
theorem nB {α : Type} (a b : α) (l : List α) : (a :: l).set 0 b = b :: l := rfl
theorem nC {α : Type} (a b : α) (l : List α) (n : Nat) : (a :: l).set (n + 1) b = a :: l.set n b := rfl
theorem nD {α : Type} (l : List α) (i : Nat) : l.toArray[i]? = l[i]? := List.getElem?_toArray
theorem nE {α : Type} (a : α) (l : List α) (i : Nat) : (a :: l)[i + 1]? = l[i]? := List.getElem?_cons_succ
theorem nF {α : Type} (a : α) (l : List α) : (a :: l)[0]? = some a := List.getElem?_cons_zero
theorem nH {α : Type} [BEq α] [LawfulBEq α] {a b : α} : (a == b) = false ↔ a ≠ b := beq_eq_false_iff_ne
theorem nI {p : Prop} [Decidable p] : decide p = false ↔ ¬ p := decide_eq_false_iff_not
theorem nJ {p : Prop} [Decidable p] : (decide p = true) = p := decide_eq_true_eq
theorem nK {α : Type} [BEq α] [LawfulBEq α] {a b : α} : (a == b) = true ↔ a = b := beq_iff_eq
theorem nL {α : Type} [BEq α] [LawfulBEq α] {a b : α} : (a != b) = true ↔ a ≠ b := bne_iff_ne
theorem nM (b : Bool) : ((!b) = true) = (b = false) := Bool.not_eq_true' b
def Hd (p : Prop) : Prop := p
theorem Hd.o {p : Prop} (h : Hd p) : p := h
theorem zh {p : Prop} (h : p) : Hd p := h
theorem lB {w : World} {b : Nat} {o : Obj} (h : w.heap[b]? = some o) : b < w.heap.size := (Array.getElem?_eq_some_iff.1 h).1
theorem zB {u v : World} {b : Nat} {o : Obj} (h : Hd (Below u.heap.size u v)) (k : Hd (u.heap[b]? = some o)) : Hd (v.heap[b]? = some o) := (Below.block h b (lB k)).trans k
theorem zC {u v : World} {b : Nat} {o : Obj} (h : Below u.heap.size u v) (k : Hd (u.heap[b]? = some o)) : Hd (v.heap[b]? = some o) := (Below.block h b (lB k)).trans k
theorem cq {w : World} {g : Nat} {cs : Array Value} {t : TypeId} {fr : Nat × Nat} (h : w.heap[g]? = some (.cells cs t fr)) (j : Nat) : w.cell? ⟨g, j, none⟩ = cs[j]? := cell_of_row w g j cs t fr h
theorem fz {w : World} {g : Nat} {cs : Array Value} {t : TypeId} (h : w.heap[g]? = some (.cells cs t (0, 0))) : ∀ j, w.frozen? ⟨g, j, none⟩ = false := fun j => frozen_of_row w g j cs t h
theorem cz2 {w : World} {g : Nat} {t : TypeId} {fr : Nat × Nat} {r : List Value} {a0 a1 : Value} (h : w.heap[g]? = some (.cells (a0 :: a1 :: r).toArray t fr)) : w.cell? ⟨g, 0, none⟩ = some a0 ∧ w.cell? ⟨g, 1, none⟩ = some a1 := ⟨(cell_of_row w g 0 _ t fr h).trans (by simp), (cell_of_row w g 1 _ t fr h).trans (by simp)⟩
theorem cz3 {w : World} {g : Nat} {t : TypeId} {fr : Nat × Nat} {r : List Value} {a0 a1 a2 : Value} (h : w.heap[g]? = some (.cells (a0 :: a1 :: a2 :: r).toArray t fr)) : w.cell? ⟨g, 0, none⟩ = some a0 ∧ w.cell? ⟨g, 1, none⟩ = some a1 ∧ w.cell? ⟨g, 2, none⟩ = some a2 := ⟨(cell_of_row w g 0 _ t fr h).trans (by simp), (cell_of_row w g 1 _ t fr h).trans (by simp), (cell_of_row w g 2 _ t fr h).trans (by simp)⟩
theorem cz5 {w : World} {g : Nat} {t : TypeId} {fr : Nat × Nat} {r : List Value} {a0 a1 a2 a3 a4 : Value} (h : w.heap[g]? = some (.cells (a0 :: a1 :: a2 :: a3 :: a4 :: r).toArray t fr)) : w.cell? ⟨g, 0, none⟩ = some a0 ∧ w.cell? ⟨g, 1, none⟩ = some a1 ∧ w.cell? ⟨g, 2, none⟩ = some a2 ∧ w.cell? ⟨g, 3, none⟩ = some a3 ∧ w.cell? ⟨g, 4, none⟩ = some a4 := ⟨(cell_of_row w g 0 _ t fr h).trans (by simp), (cell_of_row w g 1 _ t fr h).trans (by simp), (cell_of_row w g 2 _ t fr h).trans (by simp), (cell_of_row w g 3 _ t fr h).trans (by simp), (cell_of_row w g 4 _ t fr h).trans (by simp)⟩
theorem cz6 {w : World} {g : Nat} {t : TypeId} {fr : Nat × Nat} {r : List Value} {a0 a1 a2 a3 a4 a5 : Value} (h : w.heap[g]? = some (.cells (a0 :: a1 :: a2 :: a3 :: a4 :: a5 :: r).toArray t fr)) : w.cell? ⟨g, 0, none⟩ = some a0 ∧ w.cell? ⟨g, 1, none⟩ = some a1 ∧ w.cell? ⟨g, 2, none⟩ = some a2 ∧ w.cell? ⟨g, 3, none⟩ = some a3 ∧ w.cell? ⟨g, 4, none⟩ = some a4 ∧ w.cell? ⟨g, 5, none⟩ = some a5 := ⟨(cell_of_row w g 0 _ t fr h).trans (by simp), (cell_of_row w g 1 _ t fr h).trans (by simp), (cell_of_row w g 2 _ t fr h).trans (by simp), (cell_of_row w g 3 _ t fr h).trans (by simp), (cell_of_row w g 4 _ t fr h).trans (by simp), (cell_of_row w g 5 _ t fr h).trans (by simp)⟩
theorem Zbq {w : World} {g : Nat} {t : TypeId} {fr : Nat × Nat} {r : List Value} {a0 a1 a2 a3 a4 a5 a6 a7 a8 a9 a10 a11 a12 : Value} (h : w.heap[g]? = some (.cells (a0 :: a1 :: a2 :: a3 :: a4 :: a5 :: a6 :: a7 :: a8 :: a9 :: a10 :: a11 :: a12 :: r).toArray t fr)) : w.cell? ⟨g, 0, none⟩ = some a0 ∧ w.cell? ⟨g, 1, none⟩ = some a1 ∧ w.cell? ⟨g, 2, none⟩ = some a2 ∧ w.cell? ⟨g, 3, none⟩ = some a3 ∧ w.cell? ⟨g, 4, none⟩ = some a4 ∧ w.cell? ⟨g, 5, none⟩ = some a5 ∧ w.cell? ⟨g, 6, none⟩ = some a6 ∧ w.cell? ⟨g, 7, none⟩ = some a7 ∧ w.cell? ⟨g, 8, none⟩ = some a8 ∧ w.cell? ⟨g, 9, none⟩ = some a9 ∧ w.cell? ⟨g, 10, none⟩ = some a10 ∧ w.cell? ⟨g, 11, none⟩ = some a11 ∧ w.cell? ⟨g, 12, none⟩ = some a12 := ⟨(cell_of_row w g 0 _ t fr h).trans (by simp), (cell_of_row w g 1 _ t fr h).trans (by simp), (cell_of_row w g 2 _ t fr h).trans (by simp), (cell_of_row w g 3 _ t fr h).trans (by simp), (cell_of_row w g 4 _ t fr h).trans (by simp), (cell_of_row w g 5 _ t fr h).trans (by simp), (cell_of_row w g 6 _ t fr h).trans (by simp), (cell_of_row w g 7 _ t fr h).trans (by simp), (cell_of_row w g 8 _ t fr h).trans (by simp), (cell_of_row w g 9 _ t fr h).trans (by simp), (cell_of_row w g 10 _ t fr h).trans (by simp), (cell_of_row w g 11 _ t fr h).trans (by simp), (cell_of_row w g 12 _ t fr h).trans (by simp)⟩
end Go.Proofs.YtpmhelkiicigfaaGreatDoor
namespace Go.Proofs.YtpmhelkiicigfaaGreatDoor
open Go.RowKit
/-- x is w with new blocks alone (and other draws). -/
def Za (w x : World) : Prop := Below w.heap.size w x
theorem Za.refl (w : World) : Za w w := Below.refl _ _
theorem Za.trans {a b c : World} (h : Za a b) (k : Za b c) : Za a c := Below.trans h (Below.mono k h.size)
theorem Za.cell {w x : World} (h : Za w x) : ∀ p : Addr, p.block < w.heap.size → x.cell? p = w.cell? p := fun _ hp => Below.cell h hp
theorem Za.frozen {w x : World} (h : Za w x) : ∀ p : Addr, p.block < w.heap.size → x.frozen? p = w.frozen? p := fun _ hp => Below.frozen h hp
theorem Za.block {w x : World} (h : Za w x) : ∀ k, k < w.heap.size → x.heap[k]? = w.heap[k]? := fun k hk => Below.block h k hk
theorem Za.size {w x : World} (h : Za w x) : w.heap.size ≤ x.heap.size := Below.size h
theorem Za.drew {w x : World} (h : Za w x) : Za w x.drew := Below.drew h
theorem Za.alloc {w x : World} (h : Za w x) (o : Obj) : Za w (x.alloc o) := Below.alloc h h.size o
section
variable {P : Program} {ops : Array Oper} {Q : Exit → Act → World → Prop} {md : Region.Mode} {tl : Nat → Bool} {S S' : World → Prop}
/-- Whatever order is picked from here on; behind every operation that is not among the last ones S holds. -/
def Zgs (P : Program) (md : Region.Mode) (ops : Array Oper) (Q : Exit → Act → World → Prop) (tl : Nat → Bool) (S : World → Prop) : Nat → Array Bool → Act → World → Prop
 | 0, listed, a, w => Region.ready md ops listed = [] ∧ Q .normal a w
 | fuel + 1, listed, a, w =>
  (Region.ready md ops listed = [] → Q .normal a w) ∧
  ∀ i ∈ Region.ready md ops listed, wpOp P ops Q i (fun a' w' => (tl i = false → S w') ∧ Zgs P md ops Q tl S fuel (listed.setIfInBounds i true) a' w') a w
theorem Zl5 : ∀ (fuel : Nat) (listed : Array Bool) (a : Act) (w : World), Zgs P md ops Q tl S fuel listed a w → wpAny P md ops Q fuel listed a w
 | 0, _, _, _, h => h
 | fuel + 1, _, _, _, h => ⟨h.1, fun i hi => wpOp_mono (fun a' w' h' => Zl5 fuel _ a' w' h'.2) (h.2 i hi)⟩
theorem Zki (hs : ∀ w, S' w → S w) : ∀ (fuel : Nat) (listed : Array Bool) (a : Act) (w : World), Zgs P md ops Q tl S' fuel listed a w → Zgs P md ops Q tl S fuel listed a w
 | 0, _, _, _, h => h
 | fuel + 1, _, _, _, h => ⟨h.1, fun i hi => wpOp_mono (fun a' w' h' => ⟨fun ht => hs _ (h'.1 ht), Zki hs fuel _ a' w' h'.2⟩) (h.2 i hi)⟩
/-- What is listed has its forerunners listed. -/
def Zh8 (md : Region.Mode) (ops : Array Oper) (listed : Array Bool) : Prop :=
 ∀ j o, ops[j]? = some o → listed.getD j false = true → ∀ e ∈ o.after, Region.binds md e = true → listed.getD e.on false = true
def Znf (md : Region.Mode) (ops : Array Oper) (listed : Array Bool) : Bool :=
 (List.range ops.size).all fun j => !listed.getD j false || match ops[j]? with
  | some o => o.after.all fun e => !Region.binds md e || listed.getD e.on false
  | none => true
theorem Zjg {listed : Array Bool} (h : Znf md ops listed = true) : Zh8 md ops listed := by
 intro j o ho hl e he hb;have hj : j < ops.size := (Array.getElem?_eq_some_iff.1 ho).1;have h1 := List.all_eq_true.1 h j (List.mem_range.2 hj);simp only [ho, hl, Bool.not_true, Bool.false_or] at h1;have h2 := Array.all_eq_true_iff_forall_mem.1 h1 e he
 simpa [hb] using h2
theorem Zl6 {listed : Array Bool} {j : Nat} (h : Zh8 md ops listed) (hj : j ∈ Region.ready md ops listed) : Zh8 md ops (listed.setIfInBounds j true) := by
 intro k o ho hl e he hb;obtain ⟨_, oj, hoj, hall⟩ := mem_ready.1 hj
 by_cases hjk : j = k
 ·subst hjk;rw [hoj] at ho
  cases ho
  exact getD_set_true (hall e he hb)
 ·rw [getD_set_ne false hjk] at hl;exact getD_set_true (h k o ho hl e he hb)
/-- j waits for i, at once or through others. -/
def Zg7 (md : Region.Mode) (ops : Array Oper) : Nat → Nat → Nat → Bool
 | 0, _, _ => false
 | f + 1, j, i => match ops[j]? with
  | some o => o.after.any fun e => Region.binds md e && (e.on == i || Zg7 md ops f e.on i)
  | none => false
theorem Zem {listed : Array Bool} (hc : Zh8 md ops listed) : ∀ (f j i : Nat) (o : Oper), ops[j]? = some o → (∀ e ∈ o.after, Region.binds md e = true → listed.getD e.on false = true) →
  Zg7 md ops f j i = true → listed.getD i false = true
 | 0, _, _, _, _, _, h => by simp [Zg7] at h
 | f + 1, j, i, o, ho, hall, h => by
  simp only [Zg7, ho] at h;obtain ⟨e, he, h1⟩ := Array.any_eq_true'.1 h;simp only [Bool.and_eq_true, Bool.or_eq_true, beq_iff_eq] at h1;obtain ⟨hb, h2⟩ := h1
  rcases h2 with h2 | h2
  ·rw [← h2]; exact hall e he hb
  ·rcases hoe : ops[e.on]? with _ | oe
   ·cases f <;> simp [Zg7, hoe] at h2
   ·exact Zem hc f e.on i oe hoe (hc e.on oe hoe (hall e he hb)) h2
/-- The post of one operation that comes up alone. -/
def Zkj (Q : Exit → Act → World → Prop) (w : World) (K : Act → World → Prop) : Exit → Act → World → Prop
 | .normal, a', w' => Za w w' ∧ K a' w'
 | e, a', w' => Q e a' w'
/-- What is left comes up one by one. -/
def Zes (ops : Array Oper) : List Nat → Array Bool → Bool
 | [], listed => (Region.ready .any ops listed).isEmpty
 | i :: r, listed => (Region.ready .any ops listed == [i]) && Zes ops r (listed.setIfInBounds i true)
theorem Zn2 {S : World → Prop} : ∀ (L : List Nat) (os : List Oper) (listed : Array Bool) (a : Act) (w : World), Zes ops L listed = true → (∀ i ∈ L, tl i = true) → L.map (ops[·]?) = os.map some →
  wpList P ops Q os a w → Zgs P .any ops Q tl S L.length listed a w
 | [], os, listed, a, w, hch, _, hos, h => by
  have : os = [] := by cases os with
   | nil => rfl
   | cons => simp at hos
  subst this;exact ⟨by simpa [Zes] using hch, h⟩
 | i :: L, os, listed, a, w, hch, htl, hos, h => by
  obtain ⟨o, os', rfl⟩ : ∃ o os', os = o :: os' := by cases os with
   | nil => simp at hos
   | cons o os' => exact ⟨o, os', rfl⟩
  simp only [List.map_cons, List.cons.injEq] at hos;simp only [Zes, Bool.and_eq_true, beq_iff_eq] at hch;obtain ⟨hr, hch'⟩ := hch;refine ⟨fun h0 => (by rw [hr] at h0; cases h0), fun j hj => ?_⟩;rw [hr] at hj;obtain rfl : j = i := by simpa using hj
  have hK : ∀ a' w', wpList P ops Q os' a' w' → ((tl j = false → S w') ∧ Zgs P .any ops Q tl S L.length (listed.setIfInBounds j true) a' w') := fun a' w' h' =>
   ⟨fun ht => (by rw [htl j (by simp)] at ht; cases ht), Zn2 L os' _ a' w' hch' (fun k hk => htl k (by simp [hk])) hos.2 h'⟩
  unfold wpList at h;unfold wpOp;rw [hos.1];show if Region.wanted o (yielded ops a.tmps) = true then _ else _
  split
  ·rename_i hw;rw [if_pos hw] at h;exact h.imp (Oper.wp_mono hK) id
  ·rename_i hw;rw [if_neg hw] at h;exact hK _ _ h
end
end Go.Proofs.YtpmhelkiicigfaaGreatDoor
namespace Go.Proofs.YtpmhelkiicigfaaGreatDoor
open Go.RowKit
/-- The world x keeps the blocks of w that satisfy F. -/
structure Zg (F : Nat → Prop) (w x : World) : Prop where
 size : w.heap.size ≤ x.heap.size
 same : ∀ b, F b → b < w.heap.size → x.heap[b]? = w.heap[b]?
theorem Zg.later {F : Nat → Prop} {w x : World} (h : Za w x) : Zg F w x := ⟨h.size, fun b _ hb => h.block b hb⟩
theorem Zg.trans {F : Nat → Prop} {w x y : World} (h : Zg F w x) (k : Zg F x y) : Zg F w y :=
 ⟨Nat.le_trans h.size k.size, fun b hF hb => (k.same b hF (Nat.lt_of_lt_of_le hb h.size)).trans (h.same b hF hb)⟩
theorem Zg.set {F : Nat → Prop} {w x : World} (h : Zg F w x) {B : Nat} (hB : ¬ F B) (o : Nat) (v : Value) : Zg F w (x.setCell ⟨B, o, none⟩ v) :=
 ⟨Nat.le_trans h.size (Below.setCell (B := 0) (Below.refl 0 x) (p := ⟨B, o, none⟩) (Nat.zero_le _) v).size, fun b hF hb => (Below.heap_setCell _ _ _ _ (fun e => hB (by have e2 : b = B := e; rw [← e2]; exact hF))).trans (h.same b hF hb)⟩
theorem Zg.cell {F : Nat → Prop} {w x : World} (h : Zg F w x) {b o : Nat} (hF : F b) (hb : b < w.heap.size) : x.cell? ⟨b, o, none⟩ = w.cell? ⟨b, o, none⟩ := World.cell?_of_block (w := w) (h.same b hF hb)
/-- How a thing lies in cells: F holds of the blocks that it reaches. -/
abbrev Zcg (α : Type) := (Nat → Prop) → World → α → List Value → Prop
structure Zdj {α : Type} (El : Zcg α) (size : Nat) : Prop where
 len : ∀ {F w a cs}, El F w a cs → cs.length = size
 keep : ∀ {F G : Nat → Prop} {w x a cs}, El F w a cs → (∀ b, F b → G b) → Zg F w x → El G x a cs
/-- A row of things. -/
def Zp {α : Type} (El : Zcg α) (size : Nat) (F : Nat → Prop) (w : World) (l : List α) (v : Value) : Prop :=
 ∃ A c, v = .slice A l.length c ∧ l.length ≤ c ∧ c ≤ maxLen ∧ ∀ i (h : i < l.length), ∃ b o cs, A = some ⟨b, o, none⟩ ∧ F b ∧ b < w.heap.size ∧ El F w l[i] cs ∧ ∀ j x, cs[j]? = some x → w.cell? ⟨b, o + i * size + j, none⟩ = some x
def Zs (n : Int) : Prop := -9223372036854775808 ≤ n ∧ n ≤ 9223372036854775807
def Zb0 : Zcg ByteArray := fun _ _ s cs => cs = [.string s] ∧ s.size ≤ maxLen
def Zpd : Zcg Int := fun _ _ n cs => cs = [.int .i64 n] ∧ Zs n
section
variable {α : Type} {El : Zcg α} {size : Nat} {F G : Nat → Prop} {w x : World} {l : List α} {v : Value}
theorem Zp.keep (hE : Zdj El size) (h : Zp El size F w l v) (hFG : ∀ b, F b → G b) (hk : Zg F w x) : Zp El size G x l v := by
 obtain ⟨A, c, rfl, h1, h2, h3⟩ := h;refine ⟨A, c, rfl, h1, h2, fun i hi => ?_⟩;obtain ⟨b, o, cs, e, hF, hb, hel, hc⟩ := h3 i hi;exact ⟨b, o, cs, e, hFG b hF, Nat.lt_of_lt_of_le hb hk.size, hE.keep hel hFG hk, fun j y hy => (hk.cell hF hb).trans (hc j y hy)⟩
theorem Zp.later (hE : Zdj El size) (h : Zp El size F w l v) (hl : Za w x) : Zp El size F x l v := h.keep hE (fun _ hb => hb) (Zg.later hl)
theorem Zp.nil (El : Zcg α) (size : Nat) (F : Nat → Prop) (w : World) : Zp El size F w ([] : List α) (.slice none 0 0) := ⟨none, 0, rfl, Nat.le_refl _, Nat.zero_le _, fun i h => by simp at h⟩
end
theorem Zad : Zdj Zb0 1 where
 len := fun h => by rw [h.1]; rfl
 keep := fun h _ _ => h
theorem Zpe : Zdj Zpd 1 where
 len := fun h => by rw [h.1]; rfl
 keep := fun h _ _ => h
/-! ### Many cells written -/
def Zm (w : World) (B : Nat) : Nat → List Value → World
 | _, [] => w
 | o, v :: vs => Zm (w.setCell ⟨B, o, none⟩ v) B (o + 1) vs
theorem Zbz {B k : Nat} (hk : k ≠ B) : ∀ (vs : List Value) (w : World) (o : Nat), (Zm w B o vs).heap[k]? = w.heap[k]?
 | [], _, _ => rfl
 | v :: vs, w, o => by rw [Zm, Zbz hk vs]; exact Below.heap_setCell _ _ _ _ hk
theorem Zaj {w : World} {M o : Nat} {cur : Array Value} {T : TypeId} (h : w.heap[M]? = some (.cells cur T (0, 0))) (u : Value) :
  (w.setCell ⟨M, o, none⟩ u).heap[M]? = some (.cells (cur.setIfInBounds o u) T (0, 0)) := by
 simp only [World.setCell];rw [Array.getElem?_modify];simp [h]
theorem Zde {B : Nat} {T : TypeId} : ∀ (vs : List Value) (w : World) (o : Nat) (cur : Array Value), w.heap[B]? = some (.cells cur T (0, 0)) → o + vs.length ≤ cur.size →
  ∃ cur', (Zm w B o vs).heap[B]? = some (.cells cur' T (0, 0)) ∧ cur'.size = cur.size ∧ (∀ p, (p < o ∨ o + vs.length ≤ p) → cur'[p]? = cur[p]?) ∧ ∀ q y, vs[q]? = some y → cur'[o + q]? = some y
 | [], w, o, cur, h, _ => ⟨cur, h, rfl, fun _ _ => rfl, fun q y hq => by simp at hq⟩
 | v :: vs, w, o, cur, h, hs => by
  simp only [List.length_cons] at hs;obtain ⟨cur', h1, h2, h3, h4⟩ := Zde vs (w.setCell ⟨B, o, none⟩ v) (o + 1) (cur.setIfInBounds o v) (Zaj h v) (by simp; omega);refine ⟨cur', h1, by rw [h2]; simp, fun p hp => ?_, fun q y hq => ?_⟩
  ·simp only [List.length_cons] at hp;rw [h3 p (by omega), Array.getElem?_setIfInBounds_ne (by omega)]
  ·cases q with
   | zero =>
    obtain rfl : v = y := by simpa using hq
    rw [Nat.add_zero, h3 o (by omega), Array.getElem?_setIfInBounds_self_of_lt (by omega)]
   | succ q => rw [show o + (q + 1) = o + 1 + q by omega]; exact h4 q y (by simpa using hq)
theorem Z7 {b B : Nat} {a : World} (hB : b ≤ B) : ∀ (vs : List Value) (w : World) (o : Nat), Below b a w → Below b a (Zm w B o vs)
 | [], _, _, h => h
 | v :: vs, w, o, h => Z7 hB vs _ _ (h.setCell hB v)
theorem Z4 {F : Nat → Prop} {B : Nat} {w : World} (hB : ¬ F B) : ∀ (vs : List Value) (x : World) (o : Nat), Zg F w x → Zg F w (Zm x B o vs)
 | [], _, _, h => h
 | v :: vs, x, o, h => Z4 hB vs _ _ (h.set hB o v)
/-! ### A row that is being made -/
/-- The first j things lie in the block B already. -/
def Zen {α : Type} (El : Zcg α) (size : Nat) (T : TypeId) (B : Nat) (F : Nat → Prop) (l : List α) (j : Nat) (w : World) : Prop :=
 ∃ cur, w.heap[B]? = some (.cells cur T (0, 0)) ∧ cur.size = l.length * size ∧ ∀ i (h : i < l.length), i < j → ∃ cs, El F w l[i] cs ∧ ∀ q x, cs[q]? = some x → cur[i * size + q]? = some x
section
variable {α : Type} {El : Zcg α} {size : Nat} {T : TypeId} {B : Nat} {F G : Nat → Prop} {w x : World} {l : List α}
theorem Zen.start {cur : Array Value} (h : w.heap[B]? = some (.cells cur T (0, 0))) (hs : cur.size = l.length * size) : Zen El size T B F l 0 w := ⟨cur, h, hs, fun i _ h => by omega⟩
theorem Zen.next {j : Nat} (hE : Zdj El size) (hF : ¬ F B) (h : Zen El size T B F l j w) (hl : Za w x) (hj : j < l.length) {cs : List Value} (he : El F x l[j] cs) : Zen El size T B F l (j + 1) (Zm x B (j * size) cs) := by
 obtain ⟨cur, hB, hs, hall⟩ := h;have hBx : x.heap[B]? = some (.cells cur T (0, 0)) := (hl.block B (Array.getElem?_eq_some_iff.1 hB).1).trans hB;have hlen := hE.len he;have hroom : j * size + size ≤ cur.size := by
  have : (j + 1) * size ≤ l.length * size := Nat.mul_le_mul_right _ hj;rw [Nat.add_mul, Nat.one_mul] at this
  omega
 obtain ⟨cur', h1, h2, h3, h4⟩ := Zde cs x (j * size) cur hBx (by omega);refine ⟨cur', h1, by omega, fun i hi hij => ?_⟩;have hk : Zg F x (Zm x B (j * size) cs) := Z4 hF _ _ _ (Zg.later (Za.refl _))
 by_cases e : i = j
 ·subst e;exact ⟨cs, hE.keep he (fun _ h => h) hk, h4⟩
 ·obtain ⟨cs0, ha, hb⟩ := hall i hi (by omega);refine ⟨cs0, hE.keep ha (fun _ h => h) ((Zg.later hl).trans hk), fun q y hq => ?_⟩;have hq' : q < size := by have := hE.len ha; have := (List.getElem?_eq_some_iff.1 hq).1; omega
  have : (i + 1) * size ≤ j * size := Nat.mul_le_mul_right _ (by omega);rw [Nat.add_mul, Nat.one_mul] at this;rw [h3 _ (by omega)];exact hb q y hq
theorem Zen.done (hE : Zdj El size) (h : Zen El size T B F l l.length w) (hFG : ∀ b, F b → G b) (hG : G B) (hn : l.length ≤ maxLen) : Zp El size G w l (.slice (some ⟨B, 0, none⟩) l.length l.length) := by
 obtain ⟨cur, hB, hs, hall⟩ := h;refine ⟨_, _, rfl, Nat.le_refl _, hn, fun i hi => ?_⟩;obtain ⟨cs, ha, hb⟩ := hall i hi hi;exact ⟨B, 0, cs, rfl, hG, (Array.getElem?_eq_some_iff.1 hB).1, hE.keep ha hFG (Zg.later (Za.refl _)), fun q y hq => by rw [Nat.zero_add, cell_of_row _ _ _ _ _ _ hB]; exact hb q y hq⟩
theorem Zen.later {j : Nat} (hE : Zdj El size) (h : Zen El size T B F l j w) (hl : Za w x) : Zen El size T B F l j x := by
 obtain ⟨cur, hB, hs, hall⟩ := h;refine ⟨cur, (hl.block B (Array.getElem?_eq_some_iff.1 hB).1).trans hB, hs, fun i hi hij => ?_⟩;obtain ⟨cs, ha, hb⟩ := hall i hi hij;exact ⟨cs, hE.keep ha (fun _ h => h) (Zg.later hl), hb⟩
theorem Zen.at_ {j : Nat} (h : Zen El size T B F l j w) {k : Nat} (hk : k < l.length) : (∀ q, q < size → ∃ v, w.cell? ⟨B, k * size + q, none⟩ = some v) ∧ ∀ o, w.frozen? ⟨B, o, none⟩ = false := by
 obtain ⟨cur, hB, hs, _⟩ := h;refine ⟨fun q hq => ?_, fun o => frozen_of_row _ _ _ _ _ hB⟩;have : (k + 1) * size ≤ l.length * size := Nat.mul_le_mul_right _ hk;rw [Nat.add_mul, Nat.one_mul] at this;exact ⟨cur[k * size + q]'(by omega), by rw [cell_of_row _ _ _ _ _ _ hB]; exact Array.getElem?_eq_getElem _⟩
end
/-! ### How much there is -/
def Za0 {α : Type} (sz : α → Nat) : List α → Nat
 | [] => 0
 | a :: l => sz a + Za0 sz l
def Zo {α : Type} (sz : α → Nat) (l : List α) : Nat := l.length + Za0 sz l
theorem Zl7 {α : Type} (sz : α → Nat) : ∀ (l : List α) (j : Nat) (h : j < l.length), Za0 sz (l.take (j + 1)) = Za0 sz (l.take j) + sz l[j]
 | a :: l, 0, _ => by simp [Za0]
 | a :: l, j + 1, h => by
  have := Zl7 sz l j (by simpa using h);simp only [List.take_succ_cons, Za0, List.getElem_cons_succ]
  omega
theorem Zpf {α : Type} (sz : α → Nat) : ∀ (l : List α) (j : Nat), Za0 sz (l.take j) ≤ Za0 sz l
 | [], j => by simp [Za0]
 | a :: l, 0 => by simp [Za0]
 | a :: l, j + 1 => by
  have := Zpf sz l j;simp only [List.take_succ_cons, Za0]
  omega
theorem Zdl {α : Type} (sz : α → Nat) : ∀ (l : List α) (a : α), a ∈ l → sz a ≤ Za0 sz l
 | b :: l, a, h => by
  simp only [Za0]
  rcases List.mem_cons.1 h with rfl | h
  ·omega
  ·have := Zdl sz l a h; omega
end Go.Proofs.YtpmhelkiicigfaaGreatDoor
namespace Go.Proofs.YtpmhelkiicigfaaGreatDoor
open Go.RowKit
/-- S is a way of lying in cells that shares nothing; El forgets that. -/
structure Zff {α : Type} (S El : Zcg α) (size : Nat) : Prop where
 is : Zdj S size
 el : ∀ {F w a cs}, S F w a cs → El F w a cs
 trim : ∀ {F w a cs}, S F w a cs → S (fun b => F b ∧ b < w.heap.size) w a cs
/-- A row of things in a block of its own (tag tells which thing a block further down belongs to). -/
def Zae {α : Type} (S : Zcg α) (size : Nat) (T : TypeId) (F : Nat → Prop) (w : World) (l : List α) (v : Value) : Prop :=
 ∃ A c, v = .slice A l.length c ∧ l.length ≤ c ∧ c ≤ maxLen ∧ (0 < c → ∃ (b o : Nat) (cur : Array Value) (tag : Nat → Nat), A = some ⟨b, o, none⟩ ∧ F b ∧ w.heap[b]? = some (.cells cur T (0, 0)) ∧ (o = 0 ∧ o + c * size ≤ cur.size) ∧
  ∀ i (h : i < l.length), ∃ cs, S (fun x => (F x ∧ x ≠ b) ∧ tag x = i) w l[i] cs ∧ ∀ j x, cs[j]? = some x → cur[o + i * size + j]? = some x)
section
variable {α : Type} {S El : Zcg α} {size : Nat} {T : TypeId} {F G : Nat → Prop} {w x : World} {l : List α} {v : Value}
theorem Zb {w : World} {b : Nat} {o : Obj} (h : w.heap[b]? = some o) : b < w.heap.size := (Array.getElem?_eq_some_iff.1 h).1
theorem Zg.mono {F G : Nat → Prop} {w x : World} (h : Zg F w x) (hFG : ∀ b, G b → F b) : Zg G w x := ⟨h.size, fun b hb hl => h.same b (hFG b hb) hl⟩
theorem Zg.refl (F : Nat → Prop) (w : World) : Zg F w w := ⟨Nat.le_refl _, fun _ _ _ => rfl⟩
theorem Zae.nil (S : Zcg α) (size : Nat) (T : TypeId) (F : Nat → Prop) (w : World) : Zae S size T F w ([] : List α) (.slice none 0 0) := ⟨none, 0, rfl, Nat.le_refl _, Nat.zero_le _, fun h => by simp at h⟩
theorem Zae.keep (hE : Zdj S size) (h : Zae S size T F w l v) (hFG : ∀ b, F b → G b) (hk : Zg F w x) : Zae S size T G x l v := by
 obtain ⟨A, c, rfl, h1, h2, h3⟩ := h;refine ⟨A, c, rfl, h1, h2, fun hp => ?_⟩;obtain ⟨b, o, cur, tag, e, hF, hb, hcp, hel⟩ := h3 hp;refine ⟨b, o, cur, tag, e, hFG b hF, (hk.same b hF (Zb hb)).trans hb, hcp, fun i hi => ?_⟩;obtain ⟨cs, hs, hc⟩ := hel i hi;exact ⟨cs, hE.keep hs (fun y hy => ⟨⟨hFG y hy.1.1, hy.1.2⟩, hy.2⟩) (hk.mono fun y hy => hy.1.1), hc⟩
theorem Zae.later (hE : Zdj S size) (h : Zae S size T F w l v) (hl : Za w x) : Zae S size T F x l v := h.keep hE (fun _ hb => hb) (Zg.later hl)
theorem Zae.el (hE : Zff S El size) (h : Zae S size T F w l v) : Zp El size F w l v := by
 obtain ⟨A, c, rfl, h1, h2, h3⟩ := h;refine ⟨A, c, rfl, h1, h2, fun i hi => ?_⟩;obtain ⟨b, o, cur, tag, e, hF, hb, hcp, hel⟩ := h3 (by omega);obtain ⟨cs, hs, hc⟩ := hel i hi;exact ⟨b, o, cs, e, hF, Zb hb, hE.el (hE.is.keep hs (fun y hy => hy.1.1) (Zg.refl _ _)), fun j y hy => (cell_of_row _ _ _ _ _ _ hb).trans (hc j y hy)⟩
theorem Zae.trim (hE : Zff S El size) (h : Zae S size T F w l v) : Zae S size T (fun b => F b ∧ b < w.heap.size) w l v := by
 obtain ⟨A, c, rfl, h1, h2, h3⟩ := h;refine ⟨A, c, rfl, h1, h2, fun hp => ?_⟩;obtain ⟨b, o, cur, tag, e, hF, hb, hcp, hel⟩ := h3 hp;refine ⟨b, o, cur, tag, e, ⟨hF, Zb hb⟩, hb, hcp, fun i hi => ?_⟩;obtain ⟨cs, hs, hc⟩ := hel i hi;exact ⟨cs, hE.is.keep (hE.trim hs) (fun y hy => ⟨⟨⟨hy.1.1.1, hy.2⟩, hy.1.1.2⟩, hy.1.2⟩) (Zg.refl _ _), hc⟩
end
theorem Zh6 {α : Type} {El : Zcg α} {size : Nat} (hE : Zdj El size) (hflat : ∀ {F G w a cs}, El F w a cs → El G w a cs) : Zff El El size := ⟨hE, fun h => h, fun h => hflat h⟩
theorem Zt : Zff Zb0 Zb0 1 := Zh6 Zad fun h => h
/-! ### A row that is being made -/
/-- The first j things lie in the block B already; what they Zg7 lies above it. -/
def SMk {α : Type} (S : Zcg α) (size : Nat) (T : TypeId) (B : Nat) (l : List α) (j : Nat) (w : World) : Prop :=
 ∃ (cur : Array Value) (tag : Nat → Nat), w.heap[B]? = some (.cells cur T (0, 0)) ∧ cur.size = l.length * size ∧ ∀ i (h : i < l.length), i < j → ∃ cs, S (fun x => (B < x ∧ x < w.heap.size) ∧ tag x = i) w l[i] cs ∧ ∀ q x, cs[q]? = some x → cur[i * size + q]? = some x
section
variable {α : Type} {S El : Zcg α} {size : Nat} {T : TypeId} {B : Nat} {F G : Nat → Prop} {w x : World} {l : List α}
theorem SMk.start {cur : Array Value} (h : w.heap[B]? = some (.cells cur T (0, 0))) (hs : cur.size = l.length * size) : SMk S size T B l 0 w := ⟨cur, fun _ => 0, h, hs, fun i _ h => by omega⟩
theorem SMk.next {j : Nat} (hE : Zff S El size) (h : SMk S size T B l j w) (hl : Za w x) (hj : j < l.length) {cs : List Value} (he : S (fun b => w.heap.size ≤ b) x l[j] cs) : SMk S size T B l (j + 1) (Zm x B (j * size) cs) := by
 obtain ⟨cur, tag, hB, hs, hall⟩ := h;have hBw := Zb hB;have hBx : x.heap[B]? = some (.cells cur T (0, 0)) := (hl.block B hBw).trans hB;have hlen := hE.is.len he;have hroom : j * size + size ≤ cur.size := by
  have : (j + 1) * size ≤ l.length * size := Nat.mul_le_mul_right _ hj;rw [Nat.add_mul, Nat.one_mul] at this
  omega
 obtain ⟨cur', h1, h2, h3, h4⟩ := Zde cs x (j * size) cur hBx (by omega);have hkeep : ∀ {F : Nat → Prop}, ¬ F B → Zg F x (Zm x B (j * size) cs) := fun hF => Z4 hF _ _ _ (Zg.refl _ _);have hsz := (hkeep (F := fun _ => False) (by simp)).size;refine ⟨cur', fun y => if w.heap.size ≤ y then j else tag y, h1, by omega, fun i hi hij => ?_⟩
 by_cases e : i = j
 ·subst e;exact ⟨cs, hE.is.keep (hE.trim he) (fun y hy => ⟨⟨by omega, by omega⟩, by simp [hy.1]⟩) (hkeep (by omega)), h4⟩
 ·obtain ⟨cs0, ha, hb⟩ := hall i hi (by omega);refine ⟨cs0, hE.is.keep ha (fun y hy => ⟨⟨hy.1.1, by have := hl.size; omega⟩, by show (if w.heap.size ≤ y then j else tag y) = i; rw [if_neg (by omega)]; exact hy.2⟩) ((Zg.later hl).trans (hkeep (by omega))), fun q y hq => ?_⟩;have hq' : q < size := by have := hE.is.len ha; have := (List.getElem?_eq_some_iff.1 hq).1; omega
  have : (i + 1) * size ≤ j * size := Nat.mul_le_mul_right _ (by omega);rw [Nat.add_mul, Nat.one_mul] at this;rw [h3 _ (by omega)];exact hb q y hq
theorem SMk.done (hE : Zff S El size) (h : SMk S size T B l l.length w) (hG : ∀ b, B ≤ b → G b) (hn : l.length ≤ maxLen) : Zae S size T G w l (.slice (some ⟨B, 0, none⟩) l.length l.length) := by
 obtain ⟨cur, tag, hB, hs, hall⟩ := h;refine ⟨_, _, rfl, Nat.le_refl _, hn, fun _ => ⟨B, 0, cur, tag, rfl, hG B (Nat.le_refl _), hB, ⟨rfl, by omega⟩, fun i hi => ?_⟩⟩;obtain ⟨cs, ha, hb⟩ := hall i hi hi;exact ⟨cs, hE.is.keep ha (fun y hy => ⟨⟨hG y (by omega), by omega⟩, hy.2⟩) (Zg.refl _ _), fun q y hq => by rw [Nat.zero_add]; exact hb q y hq⟩
theorem SMk.later {j : Nat} (hE : Zdj S size) (h : SMk S size T B l j w) (hl : Za w x) : SMk S size T B l j x := by
 obtain ⟨cur, tag, hB, hs, hall⟩ := h;refine ⟨cur, tag, (hl.block B (Zb hB)).trans hB, hs, fun i hi hij => ?_⟩;obtain ⟨cs, ha, hb⟩ := hall i hi hij;exact ⟨cs, hE.keep ha (fun y hy => ⟨⟨hy.1.1, by have := hl.size; omega⟩, hy.2⟩) (Zg.later hl), hb⟩
theorem SMk.at_ {j : Nat} (h : SMk S size T B l j w) {k : Nat} (hk : k < l.length) : (∀ q, q < size → ∃ v, w.cell? ⟨B, k * size + q, none⟩ = some v) ∧ ∀ o, w.frozen? ⟨B, o, none⟩ = false := by
 obtain ⟨cur, tag, hB, hs, _⟩ := h;refine ⟨fun q hq => ?_, fun o => frozen_of_row _ _ _ _ _ hB⟩;have : (k + 1) * size ≤ l.length * size := Nat.mul_le_mul_right _ hk;rw [Nat.add_mul, Nat.one_mul] at this;exact ⟨cur[k * size + q]'(by omega), by rw [cell_of_row _ _ _ _ _ _ hB]; exact Array.getElem?_eq_getElem _⟩
theorem SMk.lt {j : Nat} (h : SMk S size T B l j w) : B < w.heap.size := by
 obtain ⟨cur, tag, hB, _⟩ := h;exact Zb hB
end
/-! ### A row that is being written over -/
/-- The row l lies in the block b from o on. -/
def SAt {α : Type} (S : Zcg α) (size : Nat) (T : TypeId) (F : Nat → Prop) (b o n : Nat) (tag : Nat → Nat) (w : World) (l : List α) : Prop :=
 ∃ cur, w.heap[b]? = some (.cells cur T (0, 0)) ∧ n ≤ cur.size ∧ ∀ i (h : i < l.length), ∃ cs, S (fun x => (F x ∧ x ≠ b) ∧ tag x = i) w l[i] cs ∧ ∀ j x, cs[j]? = some x → cur[o + i * size + j]? = some x
/-- The cells from base on are vs, the others as in cur0. -/
def St (T : TypeId) (b base : Nat) (cur0 : Array Value) (vs : List Value) (w : World) : Prop :=
 ∃ cur, w.heap[b]? = some (.cells cur T (0, 0)) ∧ cur.size = cur0.size ∧ base + vs.length ≤ cur.size ∧ (∀ p, (p < base ∨ base + vs.length ≤ p) → cur[p]? = cur0[p]?) ∧ ∀ q y, vs[q]? = some y → cur[base + q]? = some y
section
variable {α : Type} {S El : Zcg α} {size : Nat} {T : TypeId} {b o n base : Nat} {tag : Nat → Nat} {F G : Nat → Prop} {w x : World} {l : List α} {cur0 : Array Value} {vs : List Value}
theorem St.keep (h : St T b base cur0 vs w) (hk : x.heap[b]? = w.heap[b]?) : St T b base cur0 vs x := by
 obtain ⟨cur, hb, h⟩ := h;exact ⟨cur, hk.trans hb, h⟩
theorem St.lt (h : St T b base cur0 vs w) : b < w.heap.size := by
 obtain ⟨cur, hb, h⟩ := h;exact Zb hb
theorem St.later (h : St T b base cur0 vs w) (hl : Za w x) : St T b base cur0 vs x := h.keep (hl.block b h.lt)
theorem St.set (h : St T b base cur0 vs w) (q : Nat) (hq : q < vs.length) (u : Value) : St T b base cur0 (vs.set q u) (w.setCell ⟨b, base + q, none⟩ u) := by
 obtain ⟨cur, hb, hs, hr, ho, hi⟩ := h;refine ⟨_, Zaj hb u, by simpa using hs, by simpa using hr, fun p hp => ?_, fun q' y hy => ?_⟩
 ·simp only [List.length_set] at hp;rw [Array.getElem?_setIfInBounds_ne (by omega)];exact ho p hp
 ·by_cases e : q = q'
  ·subst e;rw [Array.getElem?_setIfInBounds_self_of_lt (by omega)]
   simpa [hq] using hy
  ·rw [Array.getElem?_setIfInBounds_ne (by omega)];exact hi q' y (by simpa [List.getElem?_set_ne e] using hy)
theorem St.cell (h : St T b base cur0 vs w) {q : Nat} {y : Value} (hy : vs[q]? = some y) : w.cell? ⟨b, base + q, none⟩ = some y := by
 obtain ⟨cur, hb, hs, hr, ho, hi⟩ := h;rw [cell_of_row _ _ _ _ _ _ hb];exact hi q y hy
theorem St.frozen (h : St T b base cur0 vs w) (o : Nat) : w.frozen? ⟨b, o, none⟩ = false := by
 obtain ⟨cur, hb, _⟩ := h;exact frozen_of_row _ _ _ _ _ hb
theorem SAt.put (hE : Zdj S size) (h : SAt S size T F b o n tag w l) {i : Nat} (hi : i < l.length) {cur : Array Value} (hc : w.heap[b]? = some (.cells cur T (0, 0))) {a : α} {cs : List Value}
  (hst : St T b (o + i * size) cur cs x) (hk : Zg (fun y => (F y ∧ y ≠ b) ∧ tag y ≠ i) w x) (hs : S (fun y => (F y ∧ y ≠ b) ∧ tag y = i) x a cs) : SAt S size T F b o n tag x (l.set i a) := by
 obtain ⟨cur1, hb, hnc, hall⟩ := h;obtain rfl : cur1 = cur := by rw [hb] at hc; cases hc; rfl
 obtain ⟨cur', hb', hsz, hr, ho, hin⟩ := hst;have hlen := hE.len hs;refine ⟨cur', hb', by omega, fun p hp => ?_⟩;simp only [List.length_set] at hp
 by_cases e : i = p
 ·subst e;rw [List.getElem_set_self];exact ⟨cs, hs, hin⟩
 ·rw [List.getElem_set_ne e];obtain ⟨cs0, ha, hcs⟩ := hall p hp;refine ⟨cs0, hE.keep ha (fun _ h => h) (hk.mono fun y hy => ⟨hy.1, fun h => e (h.symm.trans hy.2)⟩), fun q y hq => ?_⟩;have hq' : q < size := by have := hE.len ha; have := (List.getElem?_eq_some_iff.1 hq).1; omega
  rw [ho _ ?_]
  ·exact hcs q y hq
  ·rcases Nat.lt_or_gt_of_ne e with h | h
   ·have : (i + 1) * size ≤ p * size := Nat.mul_le_mul_right _ h;rw [Nat.add_mul, Nat.one_mul] at this
    omega
   ·have : (p + 1) * size ≤ i * size := Nat.mul_le_mul_right _ h;rw [Nat.add_mul, Nat.one_mul] at this
    omega
theorem SAt.keep (hE : Zdj S size) (h : SAt S size T F b o n tag w l) (hF : F b) (hk : Zg F w x) : SAt S size T F b o n tag x l := by
 obtain ⟨cur, hb, hnc, hall⟩ := h;refine ⟨cur, (hk.same b hF (Zb hb)).trans hb, hnc, fun i hi => ?_⟩;obtain ⟨cs, hs, hc⟩ := hall i hi;exact ⟨cs, hE.keep hs (fun _ h => h) (hk.mono fun y hy => hy.1.1), hc⟩
theorem SAt.lt (h : SAt S size T F b o n tag w l) : b < w.heap.size := by
 obtain ⟨cur, hb, h⟩ := h;exact Zb hb
theorem SAt.row (h : SAt S size T F b o n tag w l) (hF : F b) {c : Nat} (hc : l.length ≤ c) (hm : c ≤ maxLen) (hn : o = 0 ∧ o + c * size ≤ n) : Zae S size T F w l (.slice (some ⟨b, o, none⟩) l.length c) := by
 obtain ⟨cur, hb, hnc, h⟩ := h;exact ⟨_, c, rfl, hc, hm, fun _ => ⟨b, o, cur, tag, rfl, hF, hb, ⟨hn.1, by omega⟩, h⟩⟩
end
/-! ### Marked rows -/
section
variable {α : Type} (mk : α → Int → α) (cnt : α → Nat)
def Zbk : List α → Nat
 | [] => 0
 | a :: l => cnt a + Zbk l
/-- The first j things are marked, from k on. -/
def Zgt : List α → Int → Nat → List α
 | [], _, _ => []
 | a :: l, _, 0 => a :: l
 | a :: l, k, j + 1 => mk a k :: Zgt l (k + cnt a) j
theorem Zn3 (l : List α) (k : Int) : Zgt mk cnt l k 0 = l := by cases l <;> rfl
theorem Zet : ∀ (l : List α) (k : Int) (j : Nat), (Zgt mk cnt l k j).length = l.length
 | [], _, _ => rfl
 | a :: l, _, 0 => rfl
 | a :: l, k, j + 1 => by simp only [Zgt, List.length_cons, Zet l]
theorem Zrl : ∀ (l : List α) (k : Int) (j : Nat) (h : j < l.length), (Zgt mk cnt l k j)[j]'(by rw [Zet]; exact h) = l[j]
 | a :: l, _, 0, _ => rfl
 | a :: l, k, j + 1, h => by
  simp only [Zgt, List.getElem_cons_succ];exact Zrl l _ j (by simpa using h)
theorem Zn4 : ∀ (l : List α) (k : Int) (j : Nat) (h : j < l.length), Zgt mk cnt l k (j + 1) = (Zgt mk cnt l k j).set j (mk l[j] (k + Zbk cnt (l.take j)))
 | a :: l, k, 0, _ => by simp [Zgt, Zbk, Zn3]
 | a :: l, k, j + 1, h => by
  have := Zn4 l (k + cnt a) j (by simpa using h);simp only [Zgt, List.set_cons_succ, List.getElem_cons_succ, List.take_succ_cons, Zbk] at this ⊢;rw [this]
  congr 3
  push_cast
  omega
theorem Zpg : ∀ (l : List α) (k : Int) (j i : Nat) (h : i < l.length), i < j → (Zgt mk cnt l k j)[i]'(by rw [Zet]; exact h) = mk l[i] (k + Zbk cnt (l.take i))
 | a :: l, k, j + 1, 0, _, _ => by simp [Zgt, Zbk]
 | a :: l, k, j + 1, i + 1, h, hj => by
  simp only [Zgt, List.getElem_cons_succ, List.take_succ_cons, Zbk];rw [Zpg l _ j i (by simpa using h) (by omega)]
  congr 1
  push_cast
  omega
theorem Zkk : ∀ (l : List α) (j : Nat) (h : j < l.length), Zbk cnt (l.take (j + 1)) = Zbk cnt (l.take j) + cnt l[j]
 | a :: l, 0, _ => by simp [Zbk]
 | a :: l, j + 1, h => by
  have := Zkk l j (by simpa using h);simp only [List.take_succ_cons, Zbk, List.getElem_cons_succ]
  omega
theorem Zn5 : ∀ (l : List α) (j : Nat), Zbk cnt (l.take j) ≤ Zbk cnt l
 | [], j => by simp [Zbk]
 | a :: l, 0 => by simp [Zbk]
 | a :: l, j + 1 => by
  have := Zn5 l j;simp only [List.take_succ_cons, Zbk]
  omega
end
end Go.Proofs.YtpmhelkiicigfaaGreatDoor
namespace Go.Proofs.YtpmhelkiicigfaaGreatDoor
open Go.RowKit
structure Znh where
 low : Int
 high : Int
structure Zb3 where
 name : ByteArray
 fields : List ByteArray
 line : Int
def Zb7 : Zcg Zb3 := fun F w r cs => ∃ aU, cs = [.string r.name, aU, .int .i64 r.line] ∧ r.name.size ≤ maxLen ∧ Zp Zb0 1 F w r.fields aU ∧ Zs r.line
theorem Zbh : Zdj Zb7 3 where
 len := fun ⟨_, e, _⟩ => by rw [e]; rfl
 keep := fun ⟨aU, e, h0, h1, h2⟩ hFG hk => ⟨aU, e, h0, h1.keep Zad hFG hk, h2⟩
def Z5 (r : Zb3) : Nat := r.name.size + (Zo ByteArray.size r.fields)
def Zb8 : Zcg Zb3 := fun F w r cs => ∃ (tag : Nat → Nat) (aU : Value), cs = [.string r.name, aU, .int .i64 r.line] ∧ r.name.size ≤ maxLen ∧ Zae Zb0 1 9 (fun y => F y ∧ tag y = 0) w r.fields aU ∧ Zs r.line
theorem Zv : Zff Zb8 Zb7 3 where
 is := {
  len := fun ⟨_, _, e, _⟩ => by rw [e]; rfl
  keep := fun ⟨tag, aU, e, h0, h1, h2⟩ hFG hk => ⟨tag, aU, e, h0, h1.keep Zt.is (fun y hy => ⟨hFG y hy.1, hy.2⟩) (hk.mono fun y hy => hy.1), h2⟩ }
 el := fun ⟨tag, aU, e, h0, h1, h2⟩ => ⟨aU, e, h0, (h1.el Zt).keep Zad (fun y hy => hy.1) (Zg.refl _ _), h2⟩
 trim := fun ⟨tag, aU, e, h0, h1, h2⟩ => ⟨tag, aU, e, h0, (h1.trim Zt).keep Zt.is (fun y hy => ⟨⟨hy.1.1, hy.2⟩, hy.1.2⟩) (Zg.refl _ _), h2⟩
structure Ze where
 kind : Int
 aH : Int
 index : Int
 text : ByteArray
 set_ : Znh
def Zd : Zcg Ze := fun _ _ r cs => cs = [.int .i64 r.kind, .int .i64 r.aH, .int .i64 r.index, .string r.text, .int .i64 r.set_.low, .int .i64 r.set_.high] ∧ Zs r.kind ∧ Zs r.aH ∧ Zs r.index ∧ r.text.size ≤ maxLen ∧ Zs r.set_.low ∧ Zs r.set_.high
theorem Zc : Zdj Zd 6 where
 len := fun ⟨e, _⟩ => by rw [e]; rfl
 keep := fun ⟨e, h0, h1, h2, h3, h4, h5⟩ _ _ => ⟨e, h0, h1, h2, h3, h4, h5⟩
def Zah (r : Ze) : Nat := r.text.size
theorem Zj : Zff Zd Zd 6 := Zh6 Zc fun h => h
structure Z8 where
 kind : Int
 tag : Int
 aI : Int
 aJ : List Ze
 aK : List Ze
def Zcp : Zcg Z8 := fun F w r cs => ∃ aS aT, cs = [.int .i64 r.kind, .int .i64 r.tag, .int .i64 r.aI, aS, aT] ∧ Zs r.kind ∧ Zs r.tag ∧ Zs r.aI ∧ Zp Zd 6 F w r.aJ aS ∧ Zp Zd 6 F w r.aK aT
theorem Zb4 : Zdj Zcp 5 where
 len := fun ⟨_, _, e, _⟩ => by rw [e]; rfl
 keep := fun ⟨aS, aT, e, h0, h1, h2, h3, h4⟩ hFG hk => ⟨aS, aT, e, h0, h1, h2, h3.keep Zc hFG hk, h4.keep Zc hFG hk⟩
def Z3 (r : Z8) : Nat := Zo Zah r.aJ + (Zo Zah r.aK)
def Za2 : Zcg Z8 := fun F w r cs => ∃ (tag : Nat → Nat) (aS : Value) (aT : Value), cs = [.int .i64 r.kind, .int .i64 r.tag, .int .i64 r.aI, aS, aT] ∧ Zs r.kind ∧ Zs r.tag ∧ Zs r.aI ∧ Zae Zd 6 34 (fun y => F y ∧ tag y = 0) w r.aJ aS ∧ Zae Zd 6 34 (fun y => F y ∧ tag y = 1) w r.aK aT
theorem Zr : Zff Za2 Zcp 5 where
 is := {
  len := fun ⟨_, _, _, e, _⟩ => by rw [e]; rfl
  keep := fun ⟨tag, aS, aT, e, h0, h1, h2, h3, h4⟩ hFG hk => ⟨tag, aS, aT, e, h0, h1, h2, h3.keep Zj.is (fun y hy => ⟨hFG y hy.1, hy.2⟩) (hk.mono fun y hy => hy.1), h4.keep Zj.is (fun y hy => ⟨hFG y hy.1, hy.2⟩) (hk.mono fun y hy => hy.1)⟩ }
 el := fun ⟨tag, aS, aT, e, h0, h1, h2, h3, h4⟩ => ⟨aS, aT, e, h0, h1, h2, (h3.el Zj).keep Zc (fun y hy => hy.1) (Zg.refl _ _), (h4.el Zj).keep Zc (fun y hy => hy.1) (Zg.refl _ _)⟩
 trim := fun ⟨tag, aS, aT, e, h0, h1, h2, h3, h4⟩ => ⟨tag, aS, aT, e, h0, h1, h2, (h3.trim Zj).keep Zj.is (fun y hy => ⟨⟨hy.1.1, hy.2⟩, hy.1.2⟩) (Zg.refl _ _), (h4.trim Zj).keep Zj.is (fun y hy => ⟨⟨hy.1.1, hy.2⟩, hy.1.2⟩) (Zg.refl _ _)⟩
structure Zc0 where
 routine : Int
 frame : Int
def Zch : Zcg Zc0 := fun _ _ r cs => cs = [.int .i64 r.routine, .int .i64 r.frame] ∧ Zs r.routine ∧ Zs r.frame
theorem Zb5 : Zdj Zch 2 where
 len := fun ⟨e, _⟩ => by rw [e]; rfl
 keep := fun ⟨e, h0, h1⟩ _ _ => ⟨e, h0, h1⟩
theorem Zav : Zff Zch Zch 2 := Zh6 Zb5 fun h => h
structure Zf where
 names : List ByteArray
 aB : List Zb3
 aA : List Z8
 globals : List Ze
 aC : ByteArray
 aD : Int
 output : List ByteArray
 trace : List ByteArray
 aE : List Zc0
 aF : Bool
 ticks : Int
 aG : Int
 made : Int
def Zb1 : Zcg Zf := fun F w r cs => ∃ aL aM aN aO aP aQ aR, cs = [aL, aM, aN, aO, .string r.aC, .int .i64 r.aD, aP, aQ, aR, .bool r.aF, .int .i64 r.ticks, .int .i64 r.aG, .int .i64 r.made] ∧ Zp Zb0 1 F w r.names aL ∧ Zp Zb7 3 F w r.aB aM ∧ Zp Zcp 5 F w r.aA aN ∧ Zp Zd 6 F w r.globals aO ∧ r.aC.size ≤ maxLen ∧ Zs r.aD ∧ Zp Zb0 1 F w r.output aP ∧ Zp Zb0 1 F w r.trace aQ ∧ Zp Zch 2 F w r.aE aR ∧ Zs r.ticks ∧ Zs r.aG ∧ Zs r.made
theorem Zy : Zdj Zb1 13 where
 len := fun ⟨_, _, _, _, _, _, _, e, _⟩ => by rw [e]; rfl
 keep := fun ⟨aL, aM, aN, aO, aP, aQ, aR, e, h0, h1, h2, h3, h4, h5, h6, h7, h8, h9, h10, h11⟩ hFG hk => ⟨aL, aM, aN, aO, aP, aQ, aR, e, h0.keep Zad hFG hk, h1.keep Zbh hFG hk, h2.keep Zb4 hFG hk, h3.keep Zc hFG hk, h4, h5, h6.keep Zad hFG hk, h7.keep Zad hFG hk, h8.keep Zb5 hFG hk, h9, h10, h11⟩
def Zai (r : Zf) : Nat := Zo ByteArray.size r.names + (Zo Z5 r.aB + (Zo Z3 r.aA + (Zo Zah r.globals + (r.aC.size + (Zo ByteArray.size r.output + (Zo ByteArray.size r.trace + (Zo (fun _ => 0) r.aE)))))))
def Zed : Zcg Zf := fun F w r cs => ∃ (tag : Nat → Nat) (aL : Value) (aM : Value) (aN : Value) (aO : Value) (aP : Value) (aQ : Value) (aR : Value), cs = [aL, aM, aN, aO, .string r.aC, .int .i64 r.aD, aP, aQ, aR, .bool r.aF, .int .i64 r.ticks, .int .i64 r.aG, .int .i64 r.made] ∧ Zae Zb0 1 9 (fun y => F y ∧ tag y = 0) w r.names aL ∧ Zae Zb8 3 136 (fun y => F y ∧ tag y = 1) w r.aB aM ∧ Zae Za2 5 94 (fun y => F y ∧ tag y = 2) w r.aA aN ∧ Zae Zd 6 34 (fun y => F y ∧ tag y = 3) w r.globals aO ∧ r.aC.size ≤ maxLen ∧ Zs r.aD ∧ Zae Zb0 1 9 (fun y => F y ∧ tag y = 4) w r.output aP ∧ Zae Zb0 1 9 (fun y => F y ∧ tag y = 5) w r.trace aQ ∧ Zae Zch 2 89 (fun y => F y ∧ tag y = 6) w r.aE aR ∧ Zs r.ticks ∧ Zs r.aG ∧ Zs r.made
theorem Zba : Zff Zed Zb1 13 where
 is := {
  len := fun ⟨_, _, _, _, _, _, _, _, e, _⟩ => by rw [e]; rfl
  keep := fun ⟨tag, aL, aM, aN, aO, aP, aQ, aR, e, h0, h1, h2, h3, h4, h5, h6, h7, h8, h9, h10, h11⟩ hFG hk => ⟨tag, aL, aM, aN, aO, aP, aQ, aR, e, h0.keep Zt.is (fun y hy => ⟨hFG y hy.1, hy.2⟩) (hk.mono fun y hy => hy.1), h1.keep Zv.is (fun y hy => ⟨hFG y hy.1, hy.2⟩) (hk.mono fun y hy => hy.1), h2.keep Zr.is (fun y hy => ⟨hFG y hy.1, hy.2⟩) (hk.mono fun y hy => hy.1), h3.keep Zj.is (fun y hy => ⟨hFG y hy.1, hy.2⟩) (hk.mono fun y hy => hy.1), h4, h5, h6.keep Zt.is (fun y hy => ⟨hFG y hy.1, hy.2⟩) (hk.mono fun y hy => hy.1), h7.keep Zt.is (fun y hy => ⟨hFG y hy.1, hy.2⟩) (hk.mono fun y hy => hy.1), h8.keep Zav.is (fun y hy => ⟨hFG y hy.1, hy.2⟩) (hk.mono fun y hy => hy.1), h9, h10, h11⟩ }
 el := fun ⟨tag, aL, aM, aN, aO, aP, aQ, aR, e, h0, h1, h2, h3, h4, h5, h6, h7, h8, h9, h10, h11⟩ => ⟨aL, aM, aN, aO, aP, aQ, aR, e, (h0.el Zt).keep Zad (fun y hy => hy.1) (Zg.refl _ _), (h1.el Zv).keep Zbh (fun y hy => hy.1) (Zg.refl _ _), (h2.el Zr).keep Zb4 (fun y hy => hy.1) (Zg.refl _ _), (h3.el Zj).keep Zc (fun y hy => hy.1) (Zg.refl _ _), h4, h5, (h6.el Zt).keep Zad (fun y hy => hy.1) (Zg.refl _ _), (h7.el Zt).keep Zad (fun y hy => hy.1) (Zg.refl _ _), (h8.el Zav).keep Zb5 (fun y hy => hy.1) (Zg.refl _ _), h9, h10, h11⟩
 trim := fun ⟨tag, aL, aM, aN, aO, aP, aQ, aR, e, h0, h1, h2, h3, h4, h5, h6, h7, h8, h9, h10, h11⟩ => ⟨tag, aL, aM, aN, aO, aP, aQ, aR, e, (h0.trim Zt).keep Zt.is (fun y hy => ⟨⟨hy.1.1, hy.2⟩, hy.1.2⟩) (Zg.refl _ _), (h1.trim Zv).keep Zv.is (fun y hy => ⟨⟨hy.1.1, hy.2⟩, hy.1.2⟩) (Zg.refl _ _), (h2.trim Zr).keep Zr.is (fun y hy => ⟨⟨hy.1.1, hy.2⟩, hy.1.2⟩) (Zg.refl _ _), (h3.trim Zj).keep Zj.is (fun y hy => ⟨⟨hy.1.1, hy.2⟩, hy.1.2⟩) (Zg.refl _ _), h4, h5, (h6.trim Zt).keep Zt.is (fun y hy => ⟨⟨hy.1.1, hy.2⟩, hy.1.2⟩) (Zg.refl _ _), (h7.trim Zt).keep Zt.is (fun y hy => ⟨⟨hy.1.1, hy.2⟩, hy.1.2⟩) (Zg.refl _ _), (h8.trim Zav).keep Zav.is (fun y hy => ⟨⟨hy.1.1, hy.2⟩, hy.1.2⟩) (Zg.refl _ _), h9, h10, h11⟩
theorem Zl8 {α : Type} : ∀ l : List α, Za0 (fun _ => 0) l = 0
 | [] => rfl
 | _ :: l => by simp [Za0, Zl8 l]
theorem Zhw (w : World) (o : Obj) : (w.alloc o).heap.size = w.heap.size + 1 := by simp
theorem Zg8 : (Tryz.prog.info? 9).map (fun i => (i.zero, i.size, i.bytes)) = some (some (.string ⟨#[]⟩), 1, 16) := by kernel_rfl
theorem Zhx : (Tryz.prog.info? 136).map (fun i => (i.zero, i.size, i.bytes)) = some (some (.agg #[.string ⟨#[]⟩, .slice none 0 0, .int .i64 0]), 3, 48) := by kernel_rfl
theorem Zb9 : (Tryz.prog.info? 34).map (fun i => (i.zero, i.size, i.bytes)) = some (some (.agg #[.int .i64 0, .int .i64 0, .int .i64 0, .string ⟨#[]⟩, .int .i64 0, .int .i64 0]), 6, 56) := by kernel_rfl
theorem Zcs : (Tryz.prog.info? 94).map (fun i => (i.zero, i.size, i.bytes)) = some (some (.agg #[.int .i64 0, .int .i64 0, .int .i64 0, .slice none 0 0, .slice none 0 0]), 5, 72) := by kernel_rfl
theorem Zkl : (Tryz.prog.info? 89).map (fun i => (i.zero, i.size, i.bytes)) = some (some (.agg #[.int .i64 0, .int .i64 0]), 2, 16) := by kernel_rfl
end Go.Proofs.YtpmhelkiicigfaaGreatDoor
namespace Go.Proofs.YtpmhelkiicigfaaGreatDoor
open Go.RowKit
section
variable {P : Program} {ops : Array Oper} {Q : Exit → Act → World → Prop} {md : Region.Mode} {tl pu : Nat → Bool} {S S' : World → Prop}
/-- Whatever order is picked from here on; behind every operation that is not among the last ones S holds; a pure one leaves the world. -/
def Zco (P : Program) (md : Region.Mode) (ops : Array Oper) (Q : Exit → Act → World → Prop) (tl pu : Nat → Bool) (S : World → Prop) : Nat → Array Bool → Act → World → Prop
 | 0, listed, a, w => Region.ready md ops listed = [] ∧ Q .normal a w
 | fuel + 1, listed, a, w =>
  (Region.ready md ops listed = [] → Q .normal a w) ∧
  ∀ i ∈ Region.ready md ops listed, wpOp P ops Q i (fun a' w' => ((tl i = false → S w') ∧ (pu i = true → w' = w)) ∧ Zco P md ops Q tl pu S fuel (listed.setIfInBounds i true) a' w') a w
theorem Zfq : ∀ (fuel : Nat) (listed : Array Bool) (a : Act) (w : World), Zco P md ops Q tl pu S fuel listed a w → wpAny P md ops Q fuel listed a w
 | 0, _, _, _, h => h
 | fuel + 1, _, _, _, h => ⟨h.1, fun i hi => wpOp_mono (fun a' w' h' => Zfq fuel _ a' w' h'.2) (h.2 i hi)⟩
theorem Zg9 (hs : ∀ w, S' w → S w) : ∀ (fuel : Nat) (listed : Array Bool) (a : Act) (w : World), Zco P md ops Q tl pu S' fuel listed a w → Zco P md ops Q tl pu S fuel listed a w
 | 0, _, _, _, h => h
 | fuel + 1, _, _, _, h => ⟨h.1, fun i hi => wpOp_mono (fun a' w' h' => ⟨⟨fun ht => hs _ (h'.1.1 ht), h'.1.2⟩, Zg9 hs fuel _ a' w' h'.2⟩) (h.2 i hi)⟩
theorem Zf1 {i : Nat} {oi : Oper} {v : Value} (hi : ops[i]? = some oi) (hsel : ∀ (j : Nat) (o : Oper) cs b, ops[j]? = some o → o.op ≠ .select cs b)
  (hQ : ∀ c a w, Q (.panic c) (a.put oi.dst v) w → Q (.panic c) a w) (htl : ∀ j, j < ops.size → tl j = true → pu j = true ∨ Zg7 md ops ops.size j i = true) :
  ∀ (fuel : Nat) (listed : Array Bool) (a : Act) (w : World),
   (∀ j oj, ops[j]? = some oj → j ≠ i → listed.getD j true = false → (∀ e ∈ oj.after, Region.binds md e = true → e.on ≠ i) → oi.apart ops oj = true) → Zh8 md ops listed →
   i ∈ Region.ready md ops listed → YieldsIf P ops S oi v a → S w →
   Zco P md ops Q tl pu S fuel (listed.setIfInBounds i true) (a.put oi.dst v) w → Zco P md ops Q tl pu S (fuel + 1) listed a w := by
 intro fuel
 induction fuel with
 | zero =>
  intro listed a w _ _ hr hy hS H;refine ⟨fun h => (by rw [h] at hr; cases hr), fun j hj => ?_⟩
  by_cases hji : j = i
  ·subst hji; exact hy.wpOp hi hS ⟨⟨fun _ => hS, fun _ => rfl⟩, H⟩
  ·have := ready_mono hj hji;rw [H.1] at this
   cases this
 | succ fuel ih =>
  intro listed a w hfree hcl hr hy hS H;refine ⟨fun h => (by rw [h] at hr; cases hr), fun j hj => ?_⟩
  by_cases hji : j = i
  ·subst hji; exact hy.wpOp hi hS ⟨⟨fun _ => hS, fun _ => rfl⟩, H⟩
  ·have h1 := H.2 j (ready_mono hj hji);obtain ⟨hjun, oj, hoj, hall⟩ := mem_ready.1 hj;have hiun : listed.getD i false = true → False := fun h1 => by
    have h0 := (mem_ready.1 hr).1
    rcases Nat.lt_or_ge i listed.size with h' | h'
    ·simp [h'] at h0 h1; rw [h0] at h1; cases h1
    ·simp [Array.getElem?_eq_none h'] at h1
   have hnot : ∀ e ∈ oj.after, Region.binds md e = true → e.on ≠ i := fun e he hb heq => hiun (by rw [← heq]; exact hall e he hb);have hSj : ∀ w', ((tl j = false → S w') ∧ (pu j = true → w' = w)) → S w' := fun w' hw' => by
    cases ht : tl j with
    | false => exact hw'.1 ht
    | true =>
     rcases htl j (Array.getElem?_eq_some_iff.1 hoj).1 ht with h | h
     ·rw [hw'.2 h]; exact hS
     ·exact (hiun (Zem hcl _ j i oj hoj hall h)).elim
   have h2 := wpOp_putIf hoj (hfree j oj hoj hji hjun hnot) (fun cs b => hsel i oi cs b hi) (fun cs b => hsel j oj cs b hoj) hQ hy h1;have hfree' : ∀ k ok, ops[k]? = some ok → k ≠ i → (listed.setIfInBounds j true).getD k true = false →
     (∀ e ∈ ok.after, Region.binds md e = true → e.on ≠ i) → oi.apart ops ok = true := fun k ok hk hki hun hno => by
    refine hfree k ok hk hki ?_ hno
    by_cases hjk : j = k
    ·subst hjk; exact hjun
    ·rw [getD_set_ne true hjk] at hun; exact hun
   refine wpOp_mono (fun a' w' h3 => ⟨h3.2.1, ih (listed.setIfInBounds j true) a' w' hfree' (Zl6 hcl hj) (ready_mono hr (Ne.symm hji)) h3.1 (hSj w' h3.2.1) ?_⟩) h2;rw [Array.setIfInBounds_comm _ _ hji];exact h3.2.2
theorem Zha {i : Nat} {oi : Oper} {v : Value} (hi : ops[i]? = some oi) (hsel : ∀ (j : Nat) (o : Oper) cs b, ops[j]? = some o → o.op ≠ .select cs b)
  (hQ : ∀ c a w, Q (.panic c) (a.put oi.dst v) w → Q (.panic c) a w) (hti : tl i = true) :
  ∀ (fuel : Nat) (listed : Array Bool) (a : Act) (w : World),
   (∀ j oj, ops[j]? = some oj → j ≠ i → listed.getD j true = false → (∀ e ∈ oj.after, Region.binds md e = true → e.on ≠ i) → oi.apart ops oj = true) →
   i ∈ Region.ready md ops listed → YieldsIf P ops (fun _ => True) oi v a →
   Zco P md ops Q tl pu S fuel (listed.setIfInBounds i true) (a.put oi.dst v) w → Zco P md ops Q tl pu S (fuel + 1) listed a w := by
 intro fuel
 induction fuel with
 | zero =>
  intro listed a w _ hr hy H;refine ⟨fun h => (by rw [h] at hr; cases hr), fun j hj => ?_⟩
  by_cases hji : j = i
  ·subst hji; exact hy.wpOp hi trivial ⟨⟨fun h => (by rw [hti] at h; cases h), fun _ => rfl⟩, H⟩
  ·have := ready_mono hj hji;rw [H.1] at this
   cases this
 | succ fuel ih =>
  intro listed a w hfree hr hy H;refine ⟨fun h => (by rw [h] at hr; cases hr), fun j hj => ?_⟩
  by_cases hji : j = i
  ·subst hji; exact hy.wpOp hi trivial ⟨⟨fun h => (by rw [hti] at h; cases h), fun _ => rfl⟩, H⟩
  ·have h1 := H.2 j (ready_mono hj hji);obtain ⟨hjun, oj, hoj, hall⟩ := mem_ready.1 hj;have hiun : listed.getD i false = true → False := fun h1 => by
    have h0 := (mem_ready.1 hr).1
    rcases Nat.lt_or_ge i listed.size with h' | h'
    ·simp [h'] at h0 h1; rw [h0] at h1; cases h1
    ·simp [Array.getElem?_eq_none h'] at h1
   have hnot : ∀ e ∈ oj.after, Region.binds md e = true → e.on ≠ i := fun e he hb heq => hiun (by rw [← heq]; exact hall e he hb);have h2 := wpOp_putIf hoj (hfree j oj hoj hji hjun hnot) (fun cs b => hsel i oi cs b hi) (fun cs b => hsel j oj cs b hoj) hQ hy h1;have hfree' : ∀ k ok, ops[k]? = some ok → k ≠ i → (listed.setIfInBounds j true).getD k true = false →
     (∀ e ∈ ok.after, Region.binds md e = true → e.on ≠ i) → oi.apart ops ok = true := fun k ok hk hki hun hno => by
    refine hfree k ok hk hki ?_ hno
    by_cases hjk : j = k
    ·subst hjk; exact hjun
    ·rw [getD_set_ne true hjk] at hun; exact hun
   refine wpOp_mono (fun a' w' h3 => ⟨h3.2.1, ih (listed.setIfInBounds j true) a' w' hfree' (ready_mono hr (Ne.symm hji)) h3.1 ?_⟩) h2;rw [Array.setIfInBounds_comm _ _ hji];exact h3.2.2
/-- Which operations are among the last ones (or pure), and which are pure. -/
def Zeq (L U : List Nat) (j : Nat) : Bool := L.contains j || U.contains j
def Zeu (U : List Nat) (j : Nat) : Bool := U.contains j
def Ztc (md : Region.Mode) (ops : Array Oper) (L : List Nat) (i : Nat) : Bool := L.all fun j => Zg7 md ops ops.size j i
def Zjh (ops : Array Oper) (L : List Nat) (listed : Array Bool) (i : Nat) : Bool :=
 Region.noSelect ops && Region.free .any ops listed i && (Region.ready .any ops listed).contains i && Znf .any ops listed && Ztc .any ops L i
def Zni (ops : Array Oper) (U : List Nat) (listed : Array Bool) (i : Nat) : Bool :=
 Region.noSelect ops && Region.free .any ops listed i && (Region.ready .any ops listed).contains i && U.contains i
/-- The state of the walk: from world w on; L: the last operations; U: the pure ones. -/
def wpU (P : Program) (ops : Array Oper) (Q : Exit → Act → World → Prop) (L U : List Nat) (fuel : Nat) (listed : Array Bool) (a : Act) (w : World) : Prop :=
 Zco P .any ops Q (Zeq L U) (Zeu U) (Za w) fuel listed a w
theorem Zbb (L U : List Nat) {id : Nat} {a : Act} {w : World} (hm : P.follows .mixedOrders = true)
  (h : ∀ w1, w1 = w.drew → wpU P ops Q L U ops.size (Array.replicate ops.size false) a w1) : (Code.region id ops true).wp P Q a w :=
 wp_region_any hm (Zfq _ _ _ _ (h w.drew rfl))
/-- Operation i is taken first: it reads only what lies in w already. -/
theorem Zc1 (i : Nat) (d : Option Tmp) {L U : List Nat} {oi : Oper} {v : Value} {fuel : Nat} {listed : Array Bool} {a : Act} {w : World} (hi : ops[i]? = some oi) (hd : oi.dst = d)
  (hB : Zjh ops L listed i = true)
  (hQ : ∀ c a w, Q (.panic c) (a.put d v) w → Q (.panic c) a w)
  (hw : Region.wanted oi (yielded ops a.tmps) = true) (hy : ∀ x, Za w x → (execOp a.eval oi).run P x = .ok (.value v) x)
  (h : wpU P ops Q L U fuel (listed.setIfInBounds i true) (a.put d v) w) : wpU P ops Q L U (fuel + 1) listed a w := by
 subst hd;simp only [Zjh, Bool.and_eq_true] at hB;obtain ⟨⟨⟨⟨hs, hf⟩, hr⟩, hc⟩, ht⟩ := hB;refine Zf1 hi (Region.noSelect_spec hs) hQ (fun j _ htj => ?_) fuel listed a w (Region.free_spec hi hf) (Zjg hc) (by simpa using hr) (.inl ⟨hw, hy⟩) (Za.refl w) h;simp only [Zeq, Bool.or_eq_true] at htj
 rcases htj with h1 | h1
 ·exact .inr (List.all_eq_true.1 ht j (by simpa using h1))
 ·exact .inl h1
/-- Operation i is taken first: it reads no memory. -/
theorem Zev (i : Nat) (d : Option Tmp) {L U : List Nat} {oi : Oper} {v : Value} {fuel : Nat} {listed : Array Bool} {a : Act} {w : World} (hi : ops[i]? = some oi) (hd : oi.dst = d)
  (hB : Zni ops U listed i = true)
  (hQ : ∀ c a w, Q (.panic c) (a.put d v) w → Q (.panic c) a w)
  (hw : Region.wanted oi (yielded ops a.tmps) = true) (hy : ∀ x, (execOp a.eval oi).run P x = .ok (.value v) x)
  (h : wpU P ops Q L U fuel (listed.setIfInBounds i true) (a.put d v) w) : wpU P ops Q L U (fuel + 1) listed a w := by
 subst hd;simp only [Zni, Bool.and_eq_true] at hB;obtain ⟨⟨⟨hs, hf⟩, hr⟩, hu⟩ := hB;exact Zha hi (Region.noSelect_spec hs) hQ (by simp only [Zeq, Bool.or_eq_true]; exact .inr hu) fuel listed a w (Region.free_spec hi hf) (by simpa using hr) (.inl ⟨hw, fun x _ => hy x⟩) h
/-- Operation i comes up alone: it makes memory, and leaves what lies in w as it is. -/
theorem Zdf (i : Nat) {L U : List Nat} {o : Oper} {fuel : Nat} {listed : Array Bool} {a : Act} {w : World} (hr : Region.ready .any ops listed = [i]) (hu : U.contains i = false) (ho : ops[i]? = some o)
  (h : wpList P ops (Zkj Q w (fun a' w' => wpU P ops Q L U fuel (listed.setIfInBounds i true) a' w')) [o] a w) : wpU P ops Q L U (fuel + 1) listed a w := by
 refine ⟨fun h0 => (by rw [hr] at h0; cases h0), fun j hj => ?_⟩;rw [hr] at hj;obtain rfl : j = i := by simpa using hj
 unfold wpList at h;unfold wpOp;rw [ho];have hK : ∀ a' w', wpList P ops (Zkj Q w (fun a' w' => wpU P ops Q L U fuel (listed.setIfInBounds j true) a' w')) [] a' w' →
   (((Zeq L U j = false → Za w w') ∧ (Zeu U j = true → w' = w)) ∧ Zco P .any ops Q (Zeq L U) (Zeu U) (Za w) fuel (listed.setIfInBounds j true) a' w') := fun a' w' h' =>
  ⟨⟨fun _ => h'.1, fun h0 => (by unfold Zeu at h0; rw [hu] at h0; cases h0)⟩, Zg9 (fun x hx => h'.1.trans hx) _ _ _ _ h'.2⟩
 have hup : o.wp P a w (wpList P ops (Zkj Q w (fun a' w' => wpU P ops Q L U fuel (listed.setIfInBounds j true) a' w')) []) (Zkj Q w (fun a' w' => wpU P ops Q L U fuel (listed.setIfInBounds j true) a' w')) →
   o.wp P a w (wpList P ops (Zkj Q w (fun a' w' => wpU P ops Q L U fuel (listed.setIfInBounds j true) a' w')) []) Q := fun h' => by
  unfold Oper.wp at *
  generalize (execOp a.eval o).run P w = r at *
  cases r with
  | ok n w' => cases n <;> exact h'
  | halt x w' => cases x <;> exact h'
 show if Region.wanted o (yielded ops a.tmps) = true then _ else _
 split
 ·rename_i hw;rw [if_pos hw] at h
  rcases h with h | ⟨h1, h2⟩
  ·exact .inl (Oper.wp_mono hK (hup h))
  ·exact .inr ⟨h1, h2⟩
 ·rename_i hw;rw [if_neg hw] at h;exact hK _ _ h
theorem Zgu {U : List Nat} {S : World → Prop} (L0 : List Nat) : ∀ (L : List Nat) (os : List Oper) (listed : Array Bool) (a : Act) (w : World), Zes ops L listed = true → (∀ i ∈ L, L0.contains i = true ∧ U.contains i = false) → L.map (ops[·]?) = os.map some →
  wpList P ops Q os a w → Zco P .any ops Q (Zeq L0 U) (Zeu U) S L.length listed a w
 | [], os, listed, a, w, hch, _, hos, h => by
  have : os = [] := by cases os with
   | nil => rfl
   | cons => simp at hos
  subst this;exact ⟨by simpa [Zes] using hch, h⟩
 | i :: L, os, listed, a, w, hch, htl, hos, h => by
  obtain ⟨o, os', rfl⟩ : ∃ o os', os = o :: os' := by cases os with
   | nil => simp at hos
   | cons o os' => exact ⟨o, os', rfl⟩
  simp only [List.map_cons, List.cons.injEq] at hos;simp only [Zes, Bool.and_eq_true, beq_iff_eq] at hch;obtain ⟨hr, hch'⟩ := hch;refine ⟨fun h0 => (by rw [hr] at h0; cases h0), fun j hj => ?_⟩;rw [hr] at hj;obtain rfl : j = i := by simpa using hj
  have hj2 := htl j (by simp);have hK : ∀ a' w', wpList P ops Q os' a' w' → (((Zeq L0 U j = false → S w') ∧ (Zeu U j = true → w' = w)) ∧ Zco P .any ops Q (Zeq L0 U) (Zeu U) S L.length (listed.setIfInBounds j true) a' w') := fun a' w' h' =>
   ⟨⟨fun ht => (by unfold Zeq at ht; rw [hj2.1] at ht; cases ht), fun ht => (by unfold Zeu at ht; rw [hj2.2] at ht; cases ht)⟩, Zgu L0 L os' _ a' w' hch' (fun k hk => htl k (by simp [hk])) hos.2 h'⟩
  unfold wpList at h;unfold wpOp;rw [hos.1];show if Region.wanted o (yielded ops a.tmps) = true then _ else _
  split
  ·rename_i hw;rw [if_pos hw] at h;exact h.imp (Oper.wp_mono hK) id
  ·rename_i hw;rw [if_neg hw] at h;exact hK _ _ h
/-- All that is asked where only the last operations L are left. -/
def Znk (ops : Array Oper) (L U : List Nat) (listed : Array Bool) : Bool := Zes ops L listed && L.all fun i => !U.contains i
theorem Zbl {L U : List Nat} (os : List Oper) {n : Nat} {listed : Array Bool} {a : Act} {w : World} (hB : Znk ops L U listed = true) (hn : L.length = n) (hos : L.map (ops[·]?) = os.map some)
  (h : wpList P ops Q os a w) : wpU P ops Q L U n listed a w := by
 subst hn;simp only [Znk, Bool.and_eq_true] at hB;exact Zgu L L os listed a w hB.1 (fun i hi => ⟨by simpa using hi, by simpa using List.all_eq_true.1 hB.2 i hi⟩) hos h
end
/-- Zc1, what is always told alike left to Lean. -/
theorem tU {P : Program} {ops : Array Oper} {Q : Exit → Act → World → Prop} (i d : Nat) {L U : List Nat} {oi : Oper} {v : Value} {fuel : Nat} {listed : Array Bool} {a : Act} {w : World} (hi : ops[i]? = some oi) (hd : oi.dst = some d) (hy : ∀ x, Za w x → (execOp a.eval oi).run P x = .ok (.value v) x)
  (h : wpU P ops Q L U fuel (listed.setIfInBounds i true) (a.put (some d) v) w) (hB : Zjh ops L listed i = true := by kernel_rfl) (hQ : ∀ c a w, Q (.panic c) (a.put (some d) v) w → Q (.panic c) a w := by exact fun _ _ _ h => h) (hw : Region.wanted oi (yielded ops a.tmps) = true := by rfl) : wpU P ops Q L U (fuel + 1) listed a w := Zc1 i (some d) hi hd hB hQ hw hy h
/-- A drawn region that only reads, walked once in the order of the text, in the one world behind the draw (the kit's wp_region_quiet at the class of that world alone). -/
theorem Zu {P : Program} {id : Nat} {Q : Exit → Act → World → Prop} {a : Act} {w : World} {l : List Oper} 
  (h : ∀ W, W = w.drew → wpQuiet P l.toArray (fun x => x = W) (fun a' => Q .normal a' W) l a) (hm : P.follows .mixedOrders = true := by kernel_rfl) (hB : Region.lexB .any l.toArray = true := by kernel_rfl) : (Code.region id l.toArray true).wp P Q a w :=
 wp_region_quiet (C := fun x => x = w.drew) hm hB rfl (by simpa using h w.drew rfl)
end Go.Proofs.YtpmhelkiicigfaaGreatDoor
namespace Go.Proofs.YtpmhelkiicigfaaGreatDoor
open Go.RowKit
/-- The call's own row, perhaps cut: its block may be greater than its capacity says. -/
def Zbr (w : World) (base : Nat) (e : TypeId) (size : Nat) (v : Value) (n : Nat) (xs : List Value) : Prop :=
 xs.length = n * size ∧
 ((v = .slice none 0 0 ∧ n = 0) ∨
  ∃ g cap cur, v = .slice (some ⟨g, 0, none⟩) n cap ∧ base ≤ g ∧ w.heap[g]? = some (.cells cur e (0, 0)) ∧ n ≤ cap ∧ cap ≤ maxLen ∧ cap * size ≤ cur.size ∧ cur.toList.take (n * size) = xs)
section
variable {w : World} {base : Nat} {e : TypeId} {size : Nat} {v : Value} {n : Nat} {xs : List Value}
theorem Zbr.nil (w : World) (base : Nat) (e : TypeId) (size : Nat) : Zbr w base e size (.slice none 0 0) 0 [] := ⟨by simp, .inl ⟨rfl, rfl⟩⟩
theorem Zbr.lt (h : Zbr w base e size v n xs) : ∀ k, v.ownBlock = some k → base ≤ k ∧ k < w.heap.size ∧ ∃ cur, w.heap[k]? = some (.cells cur e (0, 0)) := by
 intro k hk
 rcases h.2 with ⟨rfl, _⟩ | ⟨g, cap, cur, rfl, hb, hg, _⟩
 ·simp [Value.ownBlock] at hk
 ·simp [Value.ownBlock] at hk;subst hk;exact ⟨hb, (Array.getElem?_eq_some_iff.1 hg).1, cur, hg⟩
/-- The row's own block is as it was. -/
theorem Zbr.same {w' : World} (h : Zbr w base e size v n xs) (hs : ∀ k, v.ownBlock = some k → w'.heap[k]? = w.heap[k]?) : Zbr w' base e size v n xs := by
 refine ⟨h.1, ?_⟩
 rcases h.2 with hn | ⟨g, cap, cur, rfl, hb, hgg, rest⟩
 ·exact .inl hn
 ·refine .inr ⟨g, cap, cur, rfl, hb, ?_, rest⟩;rw [hs g rfl];exact hgg
theorem Zbr.cells (h : Zbr w base e size v n xs) {g : Nat} (hg : v.ownBlock = some g) : ∀ j u, xs[j]? = some u → w.cell? ⟨g, j, none⟩ = some u := by
 intro j u hu
 rcases h.2 with ⟨rfl, _⟩ | ⟨g', cap, cur, rfl, _, hgg, _, _, _, htake⟩
 ·simp [Value.ownBlock] at hg
 ·simp [Value.ownBlock] at hg;subst hg;rw [cell_of_row w g' j cur e (0, 0) hgg];rw [← htake, List.getElem?_take] at hu
  split at hu
  ·simpa using hu
  ·cases hu
theorem Zbr.form (h : Zbr w base e size v n xs) : ∃ A cap, v = .slice A n cap ∧ n ≤ cap ∧ cap ≤ maxLen := by
 rcases h.2 with ⟨rfl, rfl⟩ | ⟨g, cap, cur, rfl, hb, _, h1, h2, _⟩
 ·exact ⟨none, 0, rfl, Nat.le_refl _, Nat.zero_le _⟩
 ·exact ⟨_, cap, rfl, h1, h2⟩
/-- Cut to its first k Zix, with whatever capacity up to its own. -/
theorem Zbr.cut {g cap k c : Nat} (h : Zbr w base e size (.slice (some ⟨g, 0, none⟩) n cap) n xs) (hk : k ≤ n) (hc : k ≤ c) (hcc : c ≤ cap) : Zbr w base e size (.slice (some ⟨g, 0, none⟩) k c) k (xs.take (k * size)) := by
 rcases h.2 with ⟨h0, _⟩ | ⟨g', cap', cur, hv, hb, hg, h1, h2, h3, h4⟩
 ·cases h0
 ·cases hv
  have hks : k * size ≤ n * size := Nat.mul_le_mul_right _ hk;refine ⟨by rw [List.length_take, h.1]; omega, .inr ⟨g, c, cur, rfl, hb, hg, hc, by omega, Nat.le_trans (Nat.mul_le_mul_right _ hcc) h3, ?_⟩⟩;rw [← h4, List.take_take, Nat.min_eq_left hks]
end
section
variable {P : Program} (w : World)
theorem Zh9 (base : Nat) (t ty e : TypeId) (i : TypeInfo) (z : Value) (size bytes : Nat) (ht : P.underlying t = some (.slice e)) (hi : P.info? e = some i) (hz : i.zero = some z)
  (hsize : i.size = size) (hby : i.bytes = bytes) (hzs : z.cells.size = size)
  (v : Value) (n : Nat) (xs : List Value) (hown : Zbr w base e size v n xs)
  (a : Addr) (m c : Nat) (news : List Value) (hl : news.length = m * size) (hnews : ∀ j u, news[j]? = some u → w.cell? (a.add j) = some u) (h1 : ∀ u ∈ news, u.oneCell' = true) (hm : 0 < m)
  (h63 : n + m ≤ maxLen) (hbytes : (n + m) * bytes ≤ 140737488355328) (hbase : base ≤ w.heap.size) :
  ∃ v' w', (Builtin.append_ #[t, t] ty #[v, .slice (some a) m c]).run P w = .ok v' w' ∧ Zbr w' base e size v' (n + m) (xs ++ news) ∧ w.grownBy w' v.ownBlock ∧
   (v'.ownBlock = v.ownBlock ∨ v'.ownBlock = some w.heap.size) := by
 subst hsize;subst hby;have hsmall : n + m ≤ 9223372036854775807 := by simp only [maxLen] at h63; omega
 have hlen : (xs ++ news).length = (n + m) * i.size := by rw [List.length_append, hown.1, hl, Nat.add_mul]
 have grown : ∀ (old : Nat), old < n + m → ∀ (row : Option Nat),
   Zbr (w.drew.alloc (.cells (xs.toArray ++ news.toArray ++ Builtin.zeroCells z.cells (grownCap w (n + m) old e - (n + m))) e)) base e i.size
    (.slice (some ⟨w.heap.size, 0, none⟩) (n + m) (grownCap w (n + m) old e)) (n + m) (xs ++ news) ∧
   w.grownBy (w.drew.alloc (.cells (xs.toArray ++ news.toArray ++ Builtin.zeroCells z.cells (grownCap w (n + m) old e - (n + m))) e)) row := by
  intro old ho row;have hge := grownCap_ge w (n + m) old e;have hcm : grownCap w (n + m) old e ≤ maxLen := grownCap_le_maxLen w (n + m) old e h63;refine ⟨⟨hlen, .inr ⟨w.heap.size, _, _, rfl, hbase, heap_alloc_new w.drew _, hge, hcm, ?_, ?_⟩⟩, ⟨rfl, rfl, rfl, by simp, fun k hk _ => Below.heap_alloc w.drew _ k hk⟩⟩
  ·simp only [Array.size_append, List.size_toArray, size_zeroCells, hzs, hown.1, hl, ← Nat.add_mul];refine Nat.mul_le_mul_right _ ?_
   omega
  ·simp only [Array.toList_append, List.append_assoc];rw [← List.append_assoc, ← hlen];exact List.take_left
 rcases hown.2 with ⟨rfl, rfl⟩ | ⟨g, cap, cur, rfl, hbg, hg, hnc, hcm, hcs, htake⟩
 ·have hx : xs = [] := List.eq_nil_of_length_eq_zero (by simpa using hown.1);subst hx;have hr := run_append_nil (P := P) w t ty e i z ht hi hz a m c news hl hnews (by omega) (by omega) (by have hb := hbytes; simp only [Nat.zero_add] at hb; omega);have hgr := grown 0 (by omega) (Value.ownBlock (.slice none 0 0));simp only [Nat.zero_add, List.nil_append, Array.empty_append] at hgr ⊢;exact ⟨_, _, hr, hgr.1, hgr.2, .inr rfl⟩
 ·by_cases hroom : n + m ≤ cap
  ·have hfit : n * i.size + news.length ≤ cur.size := by rw [hl, ← Nat.add_mul]; exact Nat.le_trans (Nat.mul_le_mul_right _ hroom) hcs
   have hr := run_append_room (P := P) w t ty e i ht hi g n cap cur hg a m c news hl hnews h1 hroom hfit;refine ⟨_, _, hr, ⟨hlen, .inr ⟨g, cap, _, rfl, hbg, setRow_heap w g cur _ e _ hg, hroom, hcm, ?_, ?_⟩⟩, ⟨rfl, rfl, rfl, by simp, fun k _ hk => setRow_other w g k _ (fun e => hk (by simp [Value.ownBlock, e]))⟩, .inl rfl⟩
   ·simp only [List.size_toArray, List.length_append, List.length_take, List.length_drop, Array.length_toList]
    omega
   ·rw [htake, ← hlen];exact List.take_left
  ·have holds : ∀ j u, xs[j]? = some u → w.cell? ((⟨g, 0, none⟩ : Addr).add j) = some u := fun j u hu => by
    have hadd : (⟨g, 0, none⟩ : Addr).add j = ⟨g, j, none⟩ := by unfold Addr.add; split <;> simp_all
    rw [hadd];exact hown.cells (g := g) rfl j u hu
   have hr := run_append_grow (P := P) w t ty e i z ht hi hz ⟨g, 0, none⟩ n cap xs hown.1 holds a m c news hl hnews (by omega) (by omega) (growslice_fits (by omega) hbytes);have hgr := grown cap (by omega) (Value.ownBlock (.slice (some ⟨g, 0, none⟩) n cap));exact ⟨_, _, hr, hgr.1, hgr.2, .inr rfl⟩
theorem Zds {ops : Array Oper} {rest : List Oper} {o : Oper} {a : Act} {Q : Exit → Act → World → Prop} (hgd : o.guard = none) (s x : Operand) (t : TypeId)
  (ho : o.op = .call { callee := .builtin .append, args := #[s, x], argTypes := #[t, t] })
  (base : Nat) (e : TypeId) (i : TypeInfo) (z : Value) (size bytes : Nat) (ht : P.underlying t = some (.slice e)) (hi : P.info? e = some i) (hz : i.zero = some z)
  (hsize : i.size = size) (hby : i.bytes = bytes) (hzs : z.cells.size = size)
  (v : Value) (n : Nat) (xs : List Value) (hs : a.eval s = v) (hown : Zbr w base e size v n xs)
  (ad : Addr) (m c : Nat) (news : List Value) (hx : a.eval x = .slice (some ad) m c) (hl : news.length = m * size) (hnews : ∀ j u, news[j]? = some u → w.cell? (ad.add j) = some u) (h1 : ∀ u ∈ news, u.oneCell' = true) (hm : 0 < m)
  (h63 : n + m ≤ maxLen) (hbytes : (n + m) * bytes ≤ 140737488355328) (hbase : base ≤ w.heap.size)
  (h : ∀ v' w', Zbr w' base e size v' (n + m) (xs ++ news) → w.grownBy w' v.ownBlock → (v'.ownBlock = v.ownBlock ∨ v'.ownBlock = some w.heap.size) → wpList P ops Q rest (a.put o.dst v') w') : wpList P ops Q (o :: rest) a w := by
 refine wpList_plain hgd fun _ hK => ?_;obtain ⟨v', w', hr, h2, h3, h4⟩ := Zh9 (P := P) w base t o.type e i z size bytes ht hi hz hsize hby hzs v n xs hown ad m c news hl hnews h1 hm h63 hbytes hbase;unfold Oper.wp execOp;simp only [ho, resolve, invoke, builtin, Sem.run_bind, Sem.run_pure, Result.andThen_ok, List.map_toArray, List.map_cons, List.map_nil, hs, hx, hr];exact hK _ _ (h v' w' h2 h3 h4)
end
end Go.Proofs.YtpmhelkiicigfaaGreatDoor
namespace Go.Proofs.YtpmhelkiicigfaaGreatDoor
open Go.RowKit
/-- Things without rows in them, each cell of one value. -/
structure Zl9 {α : Type} (El : Zcg α) (size : Nat) : Prop where
 is : Zdj El size
 any : ∀ {F G : Nat → Prop} {w x a cs}, El F w a cs → El G x a cs
 one : ∀ {F w a cs}, El F w a cs → ∀ u ∈ cs, u.oneCell' = true
theorem Zl9.sp {α : Type} {El : Zcg α} {size : Nat} (h : Zl9 El size) : Zff El El size := Zh6 h.is fun h' => h.any h'
theorem Zph (b o i : Nat) : (⟨b, o, none⟩ : Addr).add i = ⟨b, o + i, none⟩ := by unfold Addr.add; split <;> simp_all
section
variable {P : Program} {α : Type} {El : Zcg α} {size : Nat} {F : Nat → Prop} {l : List α} {v : Value}
/-- The cells of a row, one after the other. -/
theorem Zp.flat {w : World} (hE : Zdj El size) (hone : ∀ {F w a cs}, El F w a cs → ∀ u ∈ cs, u.oneCell' = true) (h : Zp El size F w l v) (hp : 0 < l.length) (hs : 0 < size) :
  ∃ (b o c : Nat) (ys : List Value), v = .slice (some ⟨b, o, none⟩) l.length c ∧ ys.length = l.length * size ∧ (∀ j u, ys[j]? = some u → w.cell? ((⟨b, o, none⟩ : Addr).add j) = some u) ∧ (∀ u ∈ ys, u.oneCell' = true) ∧
   ∀ i (hi : i < l.length), ∃ cs, El F w l[i] cs ∧ ∀ q x, cs[q]? = some x → ys[i * size + q]? = some x := by
 obtain ⟨A, c, rfl, h1, h2, h3⟩ := h;obtain ⟨b, o, cs0, rfl, _⟩ := h3 0 hp;have hat : ∀ i (hi : i < l.length), ∃ cs, El F w l[i] cs ∧ ∀ q x, cs[q]? = some x → w.cell? ⟨b, o + i * size + q, none⟩ = some x := fun i hi => by
  obtain ⟨b', o', cs, e, _, _, hel, hc⟩ := h3 i hi;cases e;exact ⟨cs, hel, hc⟩
 have hcell : ∀ j, j < l.length * size → ∃ i, ∃ hi : i < l.length, ∃ cs q x, El F w l[i] cs ∧ j = i * size + q ∧ cs[q]? = some x ∧ w.cell? ⟨b, o + j, none⟩ = some x := fun j hj => by
  have hi : j / size < l.length := (Nat.div_lt_iff_lt_mul hs).2 hj;obtain ⟨cs, hel, hc⟩ := hat (j / size) hi;have hq : j % size < cs.length := by rw [hE.len hel]; exact Nat.mod_lt _ hs
  have hjj : j = j / size * size + j % size := by rw [Nat.mul_comm]; exact (Nat.div_add_mod j size).symm
  refine ⟨j / size, hi, cs, j % size, cs[j % size], hel, hjj, List.getElem?_eq_getElem hq, ?_⟩;have := hc _ _ (List.getElem?_eq_getElem hq)
  rwa [Nat.add_assoc, ← hjj] at this
 refine ⟨b, o, c, List.ofFn (n := l.length * size) fun j => (w.cell? ⟨b, o + j.1, none⟩).getD (.bool false), rfl, by simp, fun j u hu => ?_, fun u hu => ?_, fun i hi => ?_⟩
 ·have hj : j < l.length * size := by have := (List.getElem?_eq_some_iff.1 hu).1; simpa using this
  obtain ⟨_, _, _, _, x, _, _, _, hx⟩ := hcell j hj;rw [List.getElem?_ofFn] at hu;simp only [hj, dite_true, Option.some.injEq] at hu;rw [Zph, hx, ← hu, hx]
  rfl
 ·obtain ⟨j, rfl⟩ := (List.mem_ofFn ..).1 hu;obtain ⟨i, hi, cs, q, x, hel, _, hq, hx⟩ := hcell j.1 j.2;rw [hx];exact hone hel x (List.mem_of_getElem? hq)
 ·obtain ⟨cs, hel, hc⟩ := hat i hi;refine ⟨cs, hel, fun q x hq => ?_⟩;have hql : q < size := by have := (List.getElem?_eq_some_iff.1 hq).1; rw [hE.len hel] at this; exact this
  have hj : i * size + q < l.length * size := by
   have : (i + 1) * size ≤ l.length * size := Nat.mul_le_mul_right _ hi;rw [Nat.add_mul, Nat.one_mul] at this
   omega
  rw [List.getElem?_ofFn];simp only [hj, dite_true];rw [← Nat.add_assoc, hc q x hq]
  rfl
/-- append([]T{}, row...): a copy. -/
theorem Zhy (w : World) (hE : Zl9 El size) (hs0 : 0 < size) (t ty e : TypeId) (i : TypeInfo) (z : Value) (bytes : Nat) (ht : P.underlying t = some (.slice e)) (hi : P.info? e = some i) (hz : i.zero = some z)
  (hsize : i.size = size) (hby : i.bytes = bytes) (hzs : z.cells.size = size) {B : Nat} (hB : w.heap[B]? = some (.cells #[] e (0, 0)))
  (hsrc : Zp El size F w l v) (hm : l.length ≤ 2097152) (hbytes : bytes ≤ 1000) :
  ∃ v' w', (Builtin.append_ #[t, t] ty #[.slice (some ⟨B, 0, none⟩) 0 0, v]).run P w = .ok v' w' ∧ Zae El size e (fun b => B ≤ b) w' l v' ∧ Za w w' := by
 subst hsize;subst hby;have hBlt := Zb hB
 by_cases h0 : l.length = 0
 ·obtain rfl : l = [] := List.eq_nil_of_length_eq_zero h0;refine ⟨.slice (some ⟨B, 0, none⟩) 0 0, w, ?_, ⟨_, 0, rfl, Nat.le_refl _, Nat.zero_le _, fun h => by simp at h⟩, Za.refl w⟩;obtain ⟨A, c, rfl, _, _⟩ := hsrc
  cases A <;> simp [Builtin.append_, run_underlying ht, sizeOf, typeInfo, hi, Builtin.lenOf, Builtin.firstCells, loadCells, loadCellsFrom, storeCells]
 ·obtain ⟨b, o, c, ys, rfl, hys, hnews, hone, hat⟩ := hsrc.flat hE.is hE.one (by omega) hs0;have hr := run_append_grow (P := P) w t ty e i z ht hi hz ⟨B, 0, none⟩ 0 0 [] (by simp) (fun j u hu => by simp at hu) ⟨b, o, none⟩ l.length c ys hys hnews (by omega) (by omega)
   (growslice_fits (by omega) (by have := Nat.mul_le_mul (show 0 + l.length ≤ 2097152 by omega) hbytes; omega))
  have hge := grownCap_ge w (0 + l.length) 0 e;have hcm : grownCap w (0 + l.length) 0 e ≤ maxLen := grownCap_le_maxLen w (0 + l.length) 0 e (by simp only [maxLen]; omega);refine ⟨_, _, hr, ⟨_, _, by rw [Nat.zero_add], by omega, hcm, fun _ => ⟨w.heap.size, 0, _, fun y => if h : y < 0 then 0 else 0, rfl, by omega, heap_alloc_new w.drew _, ⟨rfl, ?_⟩, fun k hk => ?_⟩⟩, (Za.refl w).drew.alloc _⟩
  ·simp only [Array.size_append, List.size_toArray, List.length_nil, size_zeroCells, hzs, hys];simp only [Nat.zero_add];rw [← Nat.add_mul];exact Nat.mul_le_mul_right _ (by simp only [Nat.zero_add] at hge; omega)
  obtain ⟨cs, hel, hc⟩ := hat k hk;refine ⟨cs, hE.any hel, fun q x hq => ?_⟩;have hyq := hc q x hq;have hlt := (List.getElem?_eq_some_iff.1 hyq).1;rw [Nat.zero_add]
  try simp only [List.nil_append]
  rw [Array.getElem?_append_left (by simpa using hlt)]
  simpa using hyq
theorem Zat {w : World} (hE : Zl9 El size) (hs0 : 0 < size) {ops : Array Oper} {rest : List Oper} {o : Oper} {a : Act} {Q : Exit → Act → World → Prop} (hgd : o.guard = none) (s x : Operand) (t : TypeId)
  (ho : o.op = .call { callee := .builtin .append, args := #[s, x], argTypes := #[t, t] })
  (e : TypeId) (i : TypeInfo) (z : Value) (bytes : Nat) (ht : P.underlying t = some (.slice e)) (hi : P.info? e = some i) (hz : i.zero = some z)
  (hsize : i.size = size) (hby : i.bytes = bytes) (hzs : z.cells.size = size) {B : Nat} (hs : a.eval s = .slice (some ⟨B, 0, none⟩) 0 0) (hB : w.heap[B]? = some (.cells #[] e (0, 0)))
  (hx : a.eval x = v) (hsrc : Zp El size F w l v) (hm : l.length ≤ 2097152) (hbytes : bytes ≤ 1000)
  (h : ∀ v' w', Zae El size e (fun b => B ≤ b) w' l v' → Za w w' → wpList P ops Q rest (a.put o.dst v') w') : wpList P ops Q (o :: rest) a w := by
 refine wpList_plain hgd fun _ hK => ?_;obtain ⟨v', w', hr, h2, h3⟩ := Zhy (P := P) w hE hs0 t o.type e i z bytes ht hi hz hsize hby hzs hB hsrc hm hbytes;unfold Oper.wp execOp;simp only [ho, resolve, invoke, builtin, Sem.run_bind, Sem.run_pure, Result.andThen_ok, List.map_toArray, List.map_cons, List.map_nil, hs, hx, hr];exact hK _ _ (h v' w' h2 h3)
end
/-! ### A row that grows thing by thing -/
structure Zew {α : Type} (S : Zcg α) (size : Nat) (T : TypeId) (base : Nat) (l : List α) (v : Value) (w : World) (xs : List Value) (tag : Nat → Nat) : Prop where
 row : Zbr w base T size v l.length xs
 el : ∀ i (h : i < l.length), ∃ cs, S (fun y => (base ≤ y ∧ y < w.heap.size ∧ v.ownBlock ≠ some y) ∧ tag y = i) w l[i] cs ∧ ∀ q x, cs[q]? = some x → xs[i * size + q]? = some x
def Zee {α : Type} (S : Zcg α) (size : Nat) (T : TypeId) (base : Nat) (l : List α) (v : Value) (w : World) : Prop := ∃ xs tag, Zew S size T base l v w xs tag
section
variable {α : Type} {S El : Zcg α} {size : Nat} {T : TypeId} {base : Nat} {l : List α} {v : Value} {w x : World} {xs : List Value} {tag : Nat → Nat}
theorem Zee.nil (w : World) : Zee S size T base ([] : List α) (.slice none 0 0) w := ⟨[], fun _ => 0, ⟨Zbr.nil _ _ _ _, fun i h => by simp at h⟩⟩
theorem Zee.fresh {B : Nat} (hB : w.heap[B]? = some (.cells #[] T (0, 0))) (hb : base ≤ B) : Zee S size T base ([] : List α) (.slice (some ⟨B, 0, none⟩) 0 0) w :=
 ⟨[], fun _ => 0, ⟨⟨by simp, .inr ⟨B, 0, #[], rfl, hb, hB, Nat.le_refl _, Nat.zero_le _, by simp, by simp⟩⟩, fun i h => by simp at h⟩⟩
theorem Zew.keep (hE : Zdj S size) (h : Zew S size T base l v w xs tag) (hk : Zg (fun y => base ≤ y ∧ y < w.heap.size) w x) : Zew S size T base l v x xs tag := by
 refine ⟨h.row.same fun k hk' => hk.same k ⟨(h.row.lt k hk').1, (h.row.lt k hk').2.1⟩ (h.row.lt k hk').2.1, fun i hi => ?_⟩;obtain ⟨cs, hs, hc⟩ := h.el i hi;exact ⟨cs, hE.keep hs (fun y hy => ⟨⟨hy.1.1, Nat.lt_of_lt_of_le hy.1.2.1 hk.size, hy.1.2.2⟩, hy.2⟩) (hk.mono fun y hy => ⟨hy.1.1, hy.1.2.1⟩), hc⟩
theorem Zee.keep (hE : Zdj S size) (h : Zee S size T base l v w) (hk : Zg (fun y => base ≤ y ∧ y < w.heap.size) w x) : Zee S size T base l v x := by
 obtain ⟨xs, tag, h⟩ := h;exact ⟨xs, tag, h.keep hE hk⟩
theorem Zee.later (hE : Zdj S size) (h : Zee S size T base l v w) (hl : Za w x) : Zee S size T base l v x := h.keep hE (Zg.later hl)
/-- One more: wr the world when the thing was begun, w the world ahead of append, x behind it. -/
theorem Zew.push {wr : World} (hE : Zff S El size) (h : Zew S size T base l v wr xs tag) (hk : Zg (fun y => base ≤ y ∧ y < wr.heap.size) wr w) (hb : base ≤ wr.heap.size) {a : α} {cs : List Value}
  (he : S (fun y => wr.heap.size ≤ y) w a cs) {v' : Value} (hown : Zbr x base T size v' (l.length + 1) (xs ++ cs)) (hg : w.grownBy x v.ownBlock) (hn : v'.ownBlock = v.ownBlock ∨ v'.ownBlock = some w.heap.size) :
  Zee S size T base (l ++ [a]) v' x := by
 have hsz := hk.size;have hvb : ∀ k, v.ownBlock = some k → base ≤ k ∧ k < wr.heap.size := fun k e => ⟨(h.row.lt k e).1, (h.row.lt k e).2.1⟩;have hkeep : ∀ {F : Nat → Prop}, (∀ y, F y → v.ownBlock ≠ some y) → Zg F w x := fun hF => ⟨hg.size, fun b hf hl => hg.block b hl (fun e => hF b hf e.symm)⟩;refine ⟨xs ++ cs, fun y => if wr.heap.size ≤ y then l.length else tag y, by simpa using hown, fun i hi => ?_⟩
 by_cases e : i < l.length
 ·obtain ⟨cs0, hs, hc⟩ := h.el i e;rw [List.getElem_append_left e];refine ⟨cs0, hE.is.keep hs (fun y hy => ⟨⟨hy.1.1, by have := hg.size; omega, ?_⟩, ?_⟩) ((hk.mono fun y hy => ⟨hy.1.1, hy.1.2.1⟩).trans (hkeep fun y hy => hy.1.2.2)), fun q z hq => ?_⟩
  ·intro h2
   rcases hn with h3 | h3
   ·exact hy.1.2.2 (h3.symm.trans h2)
   ·rw [h3] at h2; cases h2; have := hy.1.2.1; omega
  ·show (if wr.heap.size ≤ y then l.length else tag y) = i;rw [if_neg (by omega)]; exact hy.2
  ·have := hc q z hq;rw [List.getElem?_append_left (List.getElem?_eq_some_iff.1 this).1];exact this
 ·have hil : i = l.length := by simp at hi; omega
  subst hil;rw [List.getElem_append_right (Nat.le_refl _)];simp only [Nat.sub_self, List.getElem_cons_zero];refine ⟨cs, hE.is.keep (hE.trim he) (fun y hy => ⟨⟨by omega, by have := hg.size; omega, ?_⟩, ?_⟩) (hkeep fun y hy h2 => by have := (hvb y h2).2; omega), fun q z hq => ?_⟩
  ·intro h2
   rcases hn with h3 | h3
   ·have := (hvb y (h3.symm.trans h2)).2; omega
   ·rw [h3] at h2; cases h2; omega
  ·show (if wr.heap.size ≤ y then l.length else tag y) = l.length;rw [if_pos hy.1]
  ·rw [← h.row.1, List.getElem?_append_right (by omega)]
   simpa using hq
theorem Zee.row (hE : Zff S El size) (h : Zee S size T base l v w) : Zae S size T (fun b => base ≤ b) w l v := by
 obtain ⟨xs, tag, h⟩ := h
 rcases h.row.2 with ⟨rfl, h0⟩ | ⟨g, cap, cur, rfl, hb, hg, h1, h2, h3, h4⟩
 ·exact ⟨none, 0, by rw [h0], by omega, Nat.zero_le _, fun hp => by omega⟩
 ·refine ⟨_, cap, rfl, h1, h2, fun _ => ⟨g, 0, cur, tag, rfl, hb, hg, ⟨rfl, by omega⟩, fun i hi => ?_⟩⟩;obtain ⟨cs, hs, hc⟩ := h.el i hi;refine ⟨cs, hE.is.keep hs (fun y hy => ⟨⟨hy.1.1, fun e => hy.1.2.2 (by rw [e]; rfl)⟩, hy.2⟩) (Zg.refl _ _), fun q x hq => ?_⟩;have := hc q x hq;rw [← h4, List.getElem?_take] at this
  split at this
  ·rw [Nat.zero_add]; simpa using this
  ·cases this
end
end Go.Proofs.YtpmhelkiicigfaaGreatDoor
namespace Go.Proofs.YtpmhelkiicigfaaGreatDoor
open Go.RowKit
theorem Zef : Zl9 Zb0 1 where
 is := Zad
 any := fun h => h
 one := fun h u hu => by
  obtain ⟨e, _⟩ := h;subst e;simp at hu
  rcases hu with rfl <;> rfl
theorem Zeg : Zl9 Zd 6 where
 is := Zc
 any := fun h => h
 one := fun h u hu => by
  obtain ⟨e, _⟩ := h;subst e;simp at hu
  rcases hu with rfl | rfl | rfl | rfl | rfl | rfl <;> rfl
theorem Zi1 : Zl9 Zch 2 where
 is := Zb5
 any := fun h => h
 one := fun h u hu => by
  obtain ⟨e, _⟩ := h;subst e;simp at hu
  rcases hu with rfl | rfl <;> rfl
theorem Zz {w : World} {o : Array Value} {T : TypeId} {k : Nat} (h : k = w.heap.size) : (w.alloc (.cells o T)).heap[k]? = some (.cells o T (0, 0)) := by subst h; exact heap_alloc_new w _
theorem Zcl (w : World) (l : List Value) (T : TypeId) : ∀ j u, l[j]? = some u → (w.alloc (.cells l.toArray T)).cell? ((⟨w.heap.size, 0, none⟩ : Addr).add j) = some u := fun j u h => by
 rw [Zph, Nat.zero_add, cell_of_row _ _ _ _ _ _ (heap_alloc_new w _)]
 simpa using h
theorem Zew.form {α : Type} {S : Zcg α} {size : Nat} {T : TypeId} {base : Nat} {l : List α} {v : Value} {w : World} {xs : List Value} {tag : Nat → Nat} (h : Zew S size T base l v w xs tag) : ∃ A c, v = .slice A l.length c := by
 obtain ⟨A, c, e, _⟩ := h.row.form;exact ⟨A, c, e⟩
theorem Zhz (l : List Zb3) (v : Value) (F : Nat → Prop) (w : World) (hsz : Zo Z5 l ≤ 2097152) (hr : Zp Zb7 3 F w l v) :
  Calls Tryz.prog 93 #[v] w fun e w' => ∃ v', e = .returned v' ∧ Zae Zb8 3 136 (fun b => w.heap.size ≤ b) w' l v' ∧ Below w.heap.size w w' := by
 obtain ⟨iStringS, hiStringS, hzStringS0, hzStringS1, hzStringS2⟩ := info_parts Zg8;obtain ⟨iRecordTypeS, hiRecordTypeS, hzRecordTypeS0, hzRecordTypeS1, hzRecordTypeS2⟩ := info_parts Zhx;obtain ⟨A, c, rfl, hc, hcm, hel⟩ := hr;unfold maxLen at hcm;have HEL := zh hel;have HSZ := zh (show l.length + Za0 Z5 l ≤ 2097152 from hsz);have hlen : l.length ≤ 2097152 := by have := HSZ.o; omega
 clear hel hsz;go_enter Tryz.func93, Tryz.ntmps93;go_wp2_with fail;have HS0 : Hd (Zee Zb8 3 136 w.heap.size [] (.slice (some ⟨w.heap.size, 0, none⟩) 0 0) (w.alloc (.cells #[] 136))) := zh (Zee.fresh (Zz rfl) (Nat.le_refl _))
 go_loopw [3, 9] (fun ov iv wr => ∃ (j : Nat) (vo : Value) (dl : List Zb3), vo = ov ∧ iv = .int .i64 j ∧ j ≤ l.length ∧ Hd (dl = l.take j) ∧ Zee Zb8 3 136 w.heap.size dl vo wr ∧ Below w.heap.size w wr) (fun _ iv _ => l.length - (intOf iv).toNat)
 case atStart => exact ⟨0, _, [], rfl, rfl, Nat.zero_le _, zh (by simp), HS0.o, (Below.refl _ _).alloc (Nat.le_refl _) _⟩
 case round =>
  obtain ⟨j, vo, dl, rfl, rfl, hj, HDL, hso, hbel⟩ := hrel;have HB := zh hbel
  by_cases hlt : j < l.length
  ·have hlt' : (j : Int) < l.length := by omega
   obtain ⟨xs, tg, hat⟩ := hso;have HAT := zh hat;obtain ⟨Ao, co, hvo⟩ := hat.form;subst hvo;have hdl : dl.length ≤ 2097152 := by rw [HDL.o, List.length_take]; omega
   have hwb : w.heap.size ≤ wr.heap.size := hbel.size;clear hat hbel;obtain ⟨b, o, cs, rfl, hF, hbl, hE, hcell⟩ := HEL.o j hlt;obtain ⟨vf, rfl, hnm, hfl0, hln⟩ := hE;have HN := zh hnm;have HLN := zh hln;have HF0 := zh (hfl0.keep Zad (G := F) (fun _ h => h) (Zg.later HB.o));have hfl : l[j].fields.length ≤ 2097152 := by
    have h1 := Zdl Z5 l l[j] (List.getElem_mem hlt);have h2 : Z5 l[j] = l[j].name.size + (l[j].fields.length + Za0 ByteArray.size l[j].fields) := rfl;have := HSZ.o
    omega
   obtain ⟨Af, cf, hvf, _⟩ := id hfl0;have e0 := (HB.o.cell (p := ⟨b, o + j * 3 + 0, none⟩) hbl).trans (hcell 0 _ rfl);have e1 := (HB.o.cell (p := ⟨b, o + j * 3 + 1, none⟩) hbl).trans (hcell 1 _ rfl);have e2 := (HB.o.cell (p := ⟨b, o + j * 3 + 2, none⟩) hbl).trans (hcell 2 _ rfl);simp only [Nat.add_zero] at e0;subst hvf;clear hnm hln hfl0 hcell;go_upto_region 5 with (fail);clear e0 e1 e2;have HXB := zh (heap_alloc_new wr (.cells #[.string l[j].name, .slice Af l[j].fields.length cf, .int .i64 l[j].line] 136));have hbx : wr.heap.size < (wr.alloc (.cells #[.string l[j].name, .slice Af l[j].fields.length cf, .int .i64 l[j].line] 136)).heap.size := Zb HXB.o;have e0 := cell_of_row (wr.alloc (.cells #[.string l[j].name, .slice Af l[j].fields.length cf, .int .i64 l[j].line] 136)) wr.heap.size 0 _ _ _ HXB.o;have e1 := cell_of_row (wr.alloc (.cells #[.string l[j].name, .slice Af l[j].fields.length cf, .int .i64 l[j].line] 136)) wr.heap.size 1 _ _ _ HXB.o;have e2 := cell_of_row (wr.alloc (.cells #[.string l[j].name, .slice Af l[j].fields.length cf, .int .i64 l[j].line] 136)) wr.heap.size 2 _ _ _ HXB.o;simp only [nD, nE, nF] at e0 e1 e2;refine Zbb [11, 12] [] (by kernel_rfl) (fun W hW => ?_);have hWL : Za (wr.alloc (.cells #[.string l[j].name, .slice Af l[j].fields.length cf, .int .i64 l[j].line] 136)) W := by rw [hW]; exact (Za.refl _).drew
   have eW0 := (hWL.cell ⟨wr.heap.size, 0, none⟩ hbx).trans e0;have eW1 := (hWL.cell ⟨wr.heap.size, 1, none⟩ hbx).trans e1;have eW2 := (hWL.cell ⟨wr.heap.size, 2, none⟩ hbx).trans e2;have hbW : wr.heap.size < W.heap.size := Nat.lt_of_lt_of_le hbx hWL.size;have HLW := zh (((Za.refl wr).alloc _).trans hWL);have HF := zh (HF0.o.later Zad HLW.o);clear hW hWL e0 e1 e2;refine tU 0 13 (v := ?_) rfl rfl (fun x hx => ?_) ?_;rotate_left
   ·go_simp;first|done|with_reducible rfl
   simp only [Act.put, nA, nB, nC];refine tU 1 14 (v := ?_) rfl rfl (fun x hx => ?_) ?_;rotate_left
   ·go_simp;first|done|with_reducible rfl
   simp only [Act.put, nA, nB, nC];refine tU 2 15 (v := ?_) rfl rfl (fun x hx => ?_) ?_;rotate_left
   ·have x0 := (hx.cell ⟨wr.heap.size, 0, none⟩ hbW).trans eW0; have x1 := (hx.cell ⟨wr.heap.size, 1, none⟩ hbW).trans eW1; have x2 := (hx.cell ⟨wr.heap.size, 2, none⟩ hbW).trans eW2; go_simp;first|done|with_reducible rfl
   simp only [Act.put, nA, nB, nC];refine tU 4 17 (v := ?_) rfl rfl (fun x hx => ?_) ?_;rotate_left
   ·go_simp;first|done|with_reducible rfl
   simp only [Act.put, nA, nB, nC];refine tU 5 18 (v := ?_) rfl rfl (fun x hx => ?_) ?_;rotate_left
   ·have x0 := (hx.cell ⟨wr.heap.size, 0, none⟩ hbW).trans eW0; have x1 := (hx.cell ⟨wr.heap.size, 1, none⟩ hbW).trans eW1; have x2 := (hx.cell ⟨wr.heap.size, 2, none⟩ hbW).trans eW2; go_simp;first|done|with_reducible rfl
   simp only [Act.put, nA, nB, nC];refine tU 7 20 (v := ?_) rfl rfl (fun x hx => ?_) ?_;rotate_left
   ·go_simp;first|done|with_reducible rfl
   simp only [Act.put, nA, nB, nC];refine tU 8 21 (v := ?_) rfl rfl (fun x hx => ?_) ?_;rotate_left
   ·have x0 := (hx.cell ⟨wr.heap.size, 0, none⟩ hbW).trans eW0; have x1 := (hx.cell ⟨wr.heap.size, 1, none⟩ hbW).trans eW1; have x2 := (hx.cell ⟨wr.heap.size, 2, none⟩ hbW).trans eW2; go_simp;first|done|with_reducible rfl
   simp only [Act.put, nA, nB, nC];refine Zdf 3 (by kernel_rfl) rfl rfl ?_;go_wp2_with fail;refine ⟨(Za.refl _).alloc _, ?_⟩;have HLX := zh ((Za.refl W).alloc (.cells #[] 9));refine Zdf 6 (by kernel_rfl) rfl rfl ?_;refine Zat Zef (by decide) rfl _ _ 24 rfl 9 iStringS (.string ⟨#[]⟩) 16 Tryz.underlying24 hiStringS hzStringS0 hzStringS1 hzStringS2 rfl rfl (Zz rfl) rfl (HF.o.later Zad HLX.o) hfl (by decide) ?_;intro v4 w4 hr4 hl4;have HR4 := zh hr4;have HL4 := zh (HLX.o.trans hl4);obtain ⟨A4, c4, rfl, _⟩ := hr4;go_wp2_with fail;refine ⟨hl4, ?_⟩;clear hl4;refine tU 9 22 (v := ?_) rfl rfl (fun x hx => ?_) ?_;rotate_left
   ·go_simp;first|done|with_reducible rfl|rw[if_neg (by omega)]|rw[if_pos (by omega)]
   simp only [Act.put, nA, nB, nC];refine Zdf 10 (by kernel_rfl) rfl rfl ?_;go_wp2_with fail;refine ⟨(Za.refl _).alloc _, ?_⟩;refine Zbl [_, _] (by kernel_rfl) rfl rfl ?_;simp only [List.getElem_toArray, List.getElem_cons_succ, List.getElem_cons_zero];have HL5 := zh ((HLW.o.trans HL4.o).alloc (.cells #[.string l[j].name, .slice A4 l[j].fields.length c4, .int .i64 l[j].line] 136));refine Zds _ rfl _ _ 25 rfl w.heap.size 136 iRecordTypeS (.agg #[.string ⟨#[]⟩, .slice none 0 0, .int .i64 0]) 3 48 Tryz.underlying25 hiRecordTypeS hzRecordTypeS0 hzRecordTypeS1 hzRecordTypeS2 rfl _ dl.length xs rfl (HAT.o.keep Zv.is (Zg.later HL5.o)).row ⟨w4.heap.size, 0, none⟩ 1 1 [.string l[j].name, .slice A4 l[j].fields.length c4, .int .i64 l[j].line] rfl rfl (Zcl _ _ _) (by simp [Value.oneCell']) (by decide) (by unfold maxLen; omega) (by omega) (by have := HL5.o.size; omega) ?_;intro v6 w6 hown6 hg6 hn6;have HE := zh (show Zb8 (fun y => wr.heap.size ≤ y) _ l[j] [.string l[j].name, .slice A4 l[j].fields.length c4, .int .i64 l[j].line] from ⟨fun _ => 0, _, rfl, HN.o, (HR4.o.later Zad ((Za.refl w4).alloc (.cells #[.string l[j].name, .slice A4 l[j].fields.length c4, .int .i64 l[j].line] 136))).keep Zad (fun y hy => ⟨Nat.le_trans HLW.o.size hy, rfl⟩) (Zg.refl _ _), HLN.o⟩);have HSO := zh (HAT.o.push Zv (Zg.later HL5.o) hwb HE.o hown6 hg6 hn6);have HB6 := zh ((HB.o.trans (Below.mono HL5.o HB.o.size)).grown hg6 (by have := HL5.o.size; omega) (fun g hg' => (HAT.o.row.lt g hg').1))
   have HDL6 := zh (show dl ++ [l[j]] = l.take (j + 1) by rw [HDL.o, List.take_succ_eq_append_getElem hlt]);clear hown6 hg6 hn6;go_wp2_with fail
   go_roundw
   case rel => exact ⟨j + 1, _, _, rfl, by go_num, by omega, HDL6, HSO.o, HB6.o⟩
   case measure => simp [intOf]; omega
  ·have hjl : j = l.length := by omega
   have HD := zh (hso.row Zv);have hdl : dl = l := by rw [HDL.o, hjl, List.take_length]
   rw [hdl] at HD;clear hso hbel;go_wp2_with fail;go_ret;exact ⟨_, rfl, HD.o, HB.o⟩
end Go.Proofs.YtpmhelkiicigfaaGreatDoor
namespace Go.Proofs.YtpmhelkiicigfaaGreatDoor
open Go
/-- The decimal digits of u, none for 0. -/
def dg (u : Nat) : List UInt8 := if u = 0 then [] else Lib.decDigits u
theorem Znl (u : Nat) (h : u ≠ 0) : dg u = dg (u / 10) ++ [UInt8.ofNat (48 + u % 10)] := by
 unfold dg;rw [if_neg h, Lib.decDigits]
 by_cases h10 : u < 10
 ·rw [dif_pos h10, if_pos (by omega)];simp [Nat.mod_eq_of_lt h10]
 ·rw [dif_neg h10, if_neg (by omega)]
/-- The digit's byte as spec's FormatInt makes it. -/
theorem Zia (n : Int) (h : n ≠ 0) : Lib.itoa n = if n < 0 then 45 :: dg n.natAbs else dg n.natAbs := by
 unfold Lib.itoa dg;have h0 : n.natAbs ≠ 0 := by omega
 rw [if_neg h0]
 by_cases hn : n < 0
 ·rw [if_pos hn, if_pos hn]
 ·rw [if_neg hn, if_neg hn];have : n.toNat = n.natAbs := by omega
  rw [this]
theorem Zji : Lib.itoa 0 = [48] := by
 unfold Lib.itoa;rw [if_neg (by omega), Lib.decDigits, dif_pos (by decide)]
 rfl
theorem Zjv (k : Nat) : ∀ u, u < 10 ^ k → (dg u).length ≤ k := by
 induction k with
 | zero => intro u hu; have : u = 0 := by omega
           subst this; simp [dg]
 | succ k ih =>
  intro u hu
  by_cases h0 : u = 0
  ·subst h0; simp [dg]
  ·rw [Znl u h0];have : u / 10 < 10 ^ k := by rw [Nat.pow_succ] at hu; omega
   have := ih _ this;simp; omega
theorem Zpi (n : Int) (h0 : -9223372036854775808 ≤ n) (h1 : n ≤ 9223372036854775807) : (dg n.natAbs).length ≤ 20 :=
 Zjv 20 _ (by omega)
theorem Zpj (n : Int) (h0 : -9223372036854775808 ≤ n) (h1 : n ≤ 9223372036854775807) : (Lib.itoa n).length ≤ 21 := by
 by_cases h : n = 0
 ·subst h; rw [Zji]; decide
 ·rw [Zia n h];have := Zpi n h0 h1
  split <;> simp <;> omega
/-- One round of the loop that reckons a numeral. -/
theorem Zpk (N : Nat) (m : Int) (s : List UInt8) (hm : m ≠ 0) (h : dg N = dg m.natAbs ++ s) :
  dg N = dg (m.tdiv 10).natAbs ++ (UInt8.ofNat (48 + m.natAbs % 10) :: s) := by
 rw [h, Znl m.natAbs (by omega)];have : (m.tdiv 10).natAbs = m.natAbs / 10 := by rw [Int.natAbs_tdiv]; rfl
 rw [this];simp
/-- A hexadecimal digit's byte. -/
def Ztd (x : Int) : Int := if x < 10 then 48 + x else 87 + x
/-- What one byte c becomes inside quotes q. -/
def qb (q c : Int) : List Int :=
 if c = q ∨ c = 92 then [92, c]
 else if c = 10 then [92, 110]
 else if c = 9 then [92, 116]
 else if c < 32 ∨ 126 < c then [92, 120, Ztd (c / 16), Ztd (c % 16)]
 else [c]
/-- The bytes of a text as integers. -/
def Zi2 (l : List UInt8) : List Int := l.map fun b => (b.toNat : Int)
theorem Zkm (a b : List UInt8) : Zi2 (a ++ b) = Zi2 a ++ Zi2 b := by simp [Zi2]
/-- The opening quote and the first bytes Zma. -/
def Ztu (q : Int) (l : List Int) : List Int := q :: l.flatMap (qb q)
/-- The text in quotes. -/
def Zma (q : Int) (l : List Int) : List Int := Ztu q l ++ [q]
/-- The string that a list of byte values makes. -/
def Zfk (ns : List Int) : ByteArray := ⟨(ns.map fun n => UInt8.ofNat n.toNat).toArray⟩
theorem Zmb (ns : List Int) (r : ByteArray) : ns.foldl (fun r n => r.push (UInt8.ofNat n.toNat)) r = ⟨r.data ++ (ns.map fun n => UInt8.ofNat n.toNat).toArray⟩ := by
 induction ns generalizing r with
 | nil => simp
 | cons a l ih =>
  simp only [List.foldl_cons, ih]
  congr 1
  simp [ByteArray.push]
theorem Zkn (ns : List Int) : ns.foldl (fun r n => r.push (UInt8.ofNat n.toNat)) ByteArray.empty = Zfk ns := by
 rw [Zmb];show (⟨#[] ++ _⟩ : ByteArray) = _;unfold Zfk; congr 1; simp
end Go.Proofs.YtpmhelkiicigfaaGreatDoor
namespace Go.Proofs.YtpmhelkiicigfaaGreatDoor
open Go
end Go.Proofs.YtpmhelkiicigfaaGreatDoor
namespace Go.Proofs.YtpmhelkiicigfaaGreatDoor
open Go
/-- A hexadecimal digit's value, or -1. -/
def Zko (c : UInt8) : Int := if 48 ≤ c.toNat ∧ c.toNat ≤ 57 then (c.toNat : Int) - 48 else if 97 ≤ c.toNat ∧ c.toNat ≤ 102 then (c.toNat : Int) - 97 + 10 else -1
def Ztv (a b : UInt8) : UInt8 := UInt8.ofNat ((Zko a).toNat * 16 + (Zko b).toNat)
/-- The text between the quotes, read. strict: bytes that do not print are refused. -/
def unq (strict : Bool) (q : UInt8) : Nat → List UInt8 → Option (List UInt8)
 | 0, _ => none
 | _ + 1, [] => some []
 | n + 1, b :: r =>
  if b ≠ 92 then (if strict && (decide (b.toNat < 32) || decide (126 < b.toNat) || b == q) then none else (unq strict q n r).map (b :: ·))
  else match r with
   | [] => none
   | e :: r' =>
    if e = 110 then (unq strict q n r').map (10 :: ·)
    else if e = 116 then (unq strict q n r').map (9 :: ·)
    else if e = 92 ∨ e = 34 ∨ e = 39 then (unq strict q n r').map (e :: ·)
    else if e = 120 then match r' with
     | h1 :: h2 :: r'' => if 0 ≤ Zko h1 ∧ 0 ≤ Zko h2 then (unq strict q n r'').map (Ztv h1 h2 :: ·) else none
     | _ => none
    else none
/-- spec's l4End: the first quote that is not escaped is the last byte. -/
def Zgv (q : UInt8) : Nat → List UInt8 → Bool
 | 0, _ => false
 | _ + 1, [] => false
 | n + 1, b :: r => if b = q then r.isEmpty else if b.toNat < 32 ∨ 126 < b.toNat then false else if b = 92 then Zgv q n (r.drop 1) else Zgv q n r
theorem Zfa {q : UInt8} {n : Nat} {b : UInt8} {r : List UInt8} : Zgv q (n + 1) (b :: r) = if b = q then r.isEmpty else if b.toNat < 32 ∨ 126 < b.toNat then false else if b = 92 then Zgv q n (r.drop 1) else Zgv q n r := rfl
theorem Zib {c : UInt8} (h : 0 ≤ Zko c) : c ≠ 34 ∧ c ≠ 39 ∧ c ≠ 92 ∧ ¬ (c.toNat < 32 ∨ 126 < c.toNat) := by
 have hb : (48 ≤ c.toNat ∧ c.toNat ≤ 57) ∨ (97 ≤ c.toNat ∧ c.toNat ≤ 102) := by
  unfold Zko at h
  split at h
  ·exact .inl ‹_›
  ·split at h
   ·exact .inr ‹_›
   ·omega
 refine ⟨?_, ?_, ?_, by omega⟩ <;> (rintro rfl; simp at hb)
/-- Both ways of reading agree. -/
theorem Zic (q : UInt8) (hq : q = 34 ∨ q = 39) (z : UInt8) : ∀ (k : Nat) (m : List UInt8) (n n' : Nat), m.length < k → m.length < n → m.length + 1 < n' → (Zgv q n' (m ++ [z]) = true → z = q ∧ unq false q n m = unq true q n m) ∧ (Zgv q n' (m ++ [z]) = false → z = q → unq true q n m = none)
 | 0, m, _, _, h, _, _ => by omega
 | k + 1, m, 0, _, _, h, _ => by omega
 | k + 1, m, n + 1, 0, _, _, h => by omega
 | k + 1, [], n + 1, n' + 1, _, _, _ => by
  have hq92 : q ≠ 92 := by rcases hq with rfl | rfl <;> decide
  simp only [List.nil_append, Zfa, List.isEmpty_nil]
  by_cases hz : z = q
  ·simp [hz, unq]
  ·simp only [hz, if_false]
   constructor
   ·intro h
    exfalso
    split at h
    ·cases h
    ·split at h <;> cases n' <;> simp [Zgv] at h
   ·intro _ h; exact absurd h (by simp)
 | k + 1, b :: m, n + 1, n' + 1, hk, hm, hn' => by
  have hk' : m.length < k := by simpa using hk
  have hm' : m.length < n := by simpa using hm
  have hn2 : m.length + 1 < n' := by simpa using hn'
  have hq92 : q ≠ 92 := by rcases hq with rfl | rfl <;> decide
  rw [List.cons_append, Zfa]
  by_cases hbq : b = q
  ·subst hbq;rw [if_pos rfl];have hb92 : b ≠ 92 := hq92;simp [unq, hb92]
  rw [if_neg hbq]
  by_cases hctl : b.toNat < 32 ∨ 126 < b.toNat
  ·rw [if_pos hctl];have hb92 : b ≠ 92 := by rintro rfl; simp at hctl
   refine ⟨fun h => (by cases h), fun _ _ => ?_⟩;simp only [unq, if_pos hb92];rw [if_pos (by simp; omega)]
  rw [if_neg hctl]
  by_cases hb : b = 92
  ·subst hb;rw [if_pos rfl]
   cases m with
   | nil =>
    refine ⟨fun h => ?_, fun _ _ => by simp [unq]⟩
    exfalso
    cases n' <;> simp [Zgv] at h
   | cons e m =>
    rw [List.cons_append, List.drop_succ_cons, List.drop_zero];have ih := Zic q hq z k m n n' (by simp at hk'; omega) (by simp at hm'; omega) (by simp at hn2; omega);have cell : ∀ (x : UInt8), (Zgv q n' (m ++ [z]) = true → z = q ∧ (unq false q n m).map (x :: ·) = (unq true q n m).map (x :: ·)) ∧ (Zgv q n' (m ++ [z]) = false → z = q → (unq true q n m).map (x :: ·) = none) := fun x =>
     ⟨fun h => ⟨(ih.1 h).1, by rw [(ih.1 h).2]⟩, fun h hz => by rw [ih.2 h hz]; rfl⟩
    simp only [unq, show ¬ ((92 : UInt8) ≠ 92) from fun h => h rfl, if_false]
    by_cases h1 : e = 110
    ·simp only [h1, if_true]; exact cell 10
    simp only [h1, if_false]
    by_cases h2 : e = 116
    ·simp only [h2, if_true]; exact cell 9
    simp only [h2, if_false]
    by_cases h3 : e = 92 ∨ e = 34 ∨ e = 39
    ·simp only [h3, if_true]; exact cell e
    simp only [h3, if_false]
    by_cases h4 : e = 120
    ·simp only [h4, if_true]
     match m, hm', hn2, hk', ih with
     | [], _, _, _, ih =>
      refine ⟨fun h => ⟨(ih.1 h).1, rfl⟩, fun _ _ => rfl⟩
     | [x], _, _, _, ih => exact ⟨fun h => ⟨(ih.1 h).1, rfl⟩, fun _ _ => rfl⟩
     | x :: y :: r, hm', hn2, hk', ih =>
      simp only
      by_cases hx : 0 ≤ Zko x ∧ 0 ≤ Zko y
      ·simp only [if_pos hx];obtain ⟨n2, rfl⟩ : ∃ n2, n' = n2 + 2 := ⟨n' - 2, by simp at hn2; omega⟩;have px := Zib hx.1;have py := Zib hx.2;have qx : x ≠ q := by rcases hq with rfl | rfl; exact px.1; exact px.2.1
       have qy : y ≠ q := by rcases hq with rfl | rfl; exact py.1; exact py.2.1
       have e1 : Zgv q (n2 + 2) (x :: y :: r ++ [z]) = Zgv q n2 (r ++ [z]) := by
        rw [List.cons_append, Zfa, if_neg qx, if_neg px.2.2.2, if_neg px.2.2.1, List.cons_append, Zfa, if_neg qy, if_neg py.2.2.2, if_neg py.2.2.1]
       rw [e1];have ih2 := Zic q hq z k r n n2 (by simp at hk'; omega) (by simp at hm'; omega) (by simp at hn2; omega);exact ⟨fun h => ⟨(ih2.1 h).1, by rw [(ih2.1 h).2]⟩, fun h hz => by rw [ih2.2 h hz]; rfl⟩
      ·simp only [if_neg hx];exact ⟨fun h => ⟨(ih.1 h).1, trivial⟩, fun _ _ => trivial⟩
    ·simp only [h4, if_false];exact ⟨fun h => ⟨(ih.1 h).1, trivial⟩, fun _ _ => trivial⟩
  ·rw [if_neg hb];have ih := Zic q hq z k m n n' hk' hm' hn2;simp only [unq, if_pos (show b ≠ 92 from hb)];have hc : (true && (decide (b.toNat < 32) || decide (126 < b.toNat) || b == q)) = false := by simp [hbq]; omega
   rw [hc];simp only [Bool.false_and, Bool.false_eq_true, if_false];exact ⟨fun h => ⟨(ih.1 h).1, by rw [(ih.1 h).2]⟩, fun h hz => by rw [ih.2 h hz]; rfl⟩
/-- The fuel does not matter. -/
theorem Zpl (st : Bool) (q : UInt8) : ∀ (k : Nat) (m : List UInt8) (n n' : Nat), m.length < k → m.length < n → m.length < n' → unq st q n m = unq st q n' m
 | 0, m, _, _, h, _, _ => by omega
 | k + 1, m, 0, _, _, h, _ => by omega
 | k + 1, m, n + 1, 0, _, _, h => by omega
 | k + 1, [], n + 1, n' + 1, _, _, _ => rfl
 | k + 1, b :: m, n + 1, n' + 1, hk, hm, hn => by
  have hk' : m.length < k := by simpa using hk
  have hm' : m.length < n := by simpa using hm
  have hn' : m.length < n' := by simpa using hn
  have ih := fun m h1 h2 h3 => Zpl st q k m n n' h1 h2 h3;simp only [unq]
  split
  ·rw [ih m hk' hm' hn']
  ·match m, hk', hm', hn' with
   | [], _, _, _ => rfl
   | e :: m, hk', hm', hn' =>
    have e1 := ih m (by simp at hk'; omega) (by simp at hm'; omega) (by simp at hn'; omega);simp only [e1]
    match m, hk', hm', hn' with
    | [], _, _, _ => rfl
    | [x], _, _, _ => rfl
    | x :: y :: r, hk', hm', hn' =>
     have e2 := ih r (by simp at hk'; omega) (by simp at hm'; omega) (by simp at hn'; omega);simp only [e2]
end Go.Proofs.YtpmhelkiicigfaaGreatDoor
namespace Go.Proofs.YtpmhelkiicigfaaGreatDoor
open Go
/-- The pieces between the spaces. -/
def spl : List UInt8 → List (List UInt8)
 | [] => [[]]
 | c :: r => if c = 32 then [] :: spl r else match spl r with
  | [] => [[c]]
  | p :: ps => (c :: p) :: ps
/-- The pieces with spaces between them. -/
def jn : List (List UInt8) → List UInt8
 | [] => []
 | [p] => p
 | p :: q :: ps => p ++ 32 :: jn (q :: ps)
theorem Zmc (l : List UInt8) : spl l ≠ [] := by
 cases l with
 | nil => simp [spl]
 | cons c r =>
  simp only [spl]
  split
  ·simp
  ·split <;> simp
theorem Zgw (r : List UInt8) : spl (32 :: r) = [] :: spl r := by simp [spl]
theorem Zfb (c : UInt8) (r : List UInt8) (h : c ≠ 32) : ∃ p ps, spl r = p :: ps ∧ spl (c :: r) = (c :: p) :: ps := by
 cases hr : spl r with
 | nil => exact absurd hr (Zmc r)
 | cons p ps => exact ⟨p, ps, rfl, by simp [spl, h, hr]⟩
theorem Zrm (p : List UInt8) (ps : List (List UInt8)) (h : ps ≠ []) : jn (p :: ps) = p ++ 32 :: jn ps := by
 cases ps with
 | nil => exact absurd rfl h
 | cons q ps => rfl
theorem Zjw : ∀ (l : List UInt8), jn (spl l) = l
 | [] => rfl
 | c :: r => by
  by_cases h : c = 32
  ·subst h;rw [Zgw, Zrm _ _ (Zmc r), Zjw r]; rfl
  ·obtain ⟨p, ps, h1, h2⟩ := Zfb c r h;have ih := Zjw r;rw [h1] at ih;rw [h2]
   cases ps with
   | nil => simp only [jn] at ih ⊢; rw [ih]
   | cons q ps => simp only [jn] at ih ⊢; rw [List.cons_append, ih]
/-- A piece without a space, at the text's head. -/
theorem Zpm : ∀ (w r : List UInt8), (∀ c ∈ w, c ≠ 32) → spl (w ++ 32 :: r) = w :: spl r
 | [], r, _ => Zgw r
 | c :: w, r, h => by
  have ih := Zpm w r (fun d hd => h d (List.mem_cons_of_mem _ hd));obtain ⟨p, ps, h1, h2⟩ := Zfb c (w ++ 32 :: r) (h c List.mem_cons_self);rw [ih] at h1
  cases h1
  rw [List.cons_append, h2]
theorem Zpn : ∀ (w : List UInt8), (∀ c ∈ w, c ≠ 32) → spl w = [w]
 | [], _ => rfl
 | c :: w, h => by
  have ih := Zpn w (fun d hd => h d (List.mem_cons_of_mem _ hd));obtain ⟨p, ps, h1, h2⟩ := Zfb c w (h c List.mem_cons_self);rw [ih] at h1
  cases h1
  rw [h2]
theorem Zex : ∀ (l : List UInt8), (Lib.index l [32] = -1 → spl l = [l]) ∧ (∀ i : Nat, Lib.index l [32] = i → i < l.length ∧ spl l = l.take i :: spl (l.drop (i + 1)))
 | [] => by
  refine ⟨fun _ => rfl, fun i h => ?_⟩;simp [Lib.index] at h
 | c :: r => by
  have ih := Zex r
  by_cases h : c = 32
  ·subst h;have h0 : Lib.index (32 :: r) [32] = 0 := by simp [Lib.index, List.isPrefixOf]
   rw [h0];refine ⟨fun e => by omega, fun i e => ?_⟩;obtain rfl : i = 0 := by omega
   exact ⟨by simp, by simp [Zgw]⟩
  ·have hp : List.isPrefixOf [32] (c :: r) = false := by simp [List.isPrefixOf, Ne.symm h]
   obtain ⟨p, ps, h1, h2⟩ := Zfb c r h;simp only [Lib.index, hp, Bool.false_eq_true, if_false]
   by_cases hm : Lib.index r [32] = -1
   ·rw [if_pos (by simp [hm])];refine ⟨fun _ => ?_, fun i e => by omega⟩;have := ih.1 hm;rw [this] at h1
    cases h1
    exact h2
   ·rw [if_neg (by simpa using hm)];have hge := Lib.index_ge r [32];refine ⟨fun e => by omega, fun i e => ?_⟩;obtain ⟨j, rfl⟩ : ∃ j, i = j + 1 := ⟨i - 1, by omega⟩;obtain ⟨h3, h4⟩ := ih.2 j (by omega);rw [h4] at h1
    cases h1
    exact ⟨by simpa using h3, by rw [h2]; simp⟩
/-- strings.SplitN's pieces. -/
theorem Zmd : ∀ (k : Nat) (l : List UInt8), Lib.splitK [32] 0 k l = if (spl l).length ≤ k + 1 then spl l else (spl l).take k ++ [jn ((spl l).drop k)]
 | 0, l => by
  simp only [Lib.splitK]
  split
  ·rename_i h;have hj := Zjw l
   cases hs : spl l with
   | nil => exact absurd hs (Zmc l)
   | cons p ps =>
    rw [hs] at h hj
    cases ps with
    | nil => simp only [jn] at hj; rw [hj]
    | cons => simp at h
  ·simp [Zjw]
 | k + 1, l => by
  simp only [Lib.splitK]
  by_cases hm : Lib.index l [32] = -1
  ·rw [if_pos (by simp [hm]), (Zex l).1 hm, if_pos (by simp)]
  ·rw [if_neg (by simpa using hm)];have hge := Lib.index_ge l [32];obtain ⟨i, hi⟩ : ∃ i : Nat, Lib.index l [32] = i := ⟨(Lib.index l [32]).toNat, by omega⟩;obtain ⟨h1, h2⟩ := (Zex l).2 i hi;rw [hi, Int.toNat_natCast, h2];have ih := Zmd k (l.drop (i + 1));simp only [List.length_singleton, Nat.add_zero];rw [ih]
   by_cases hl : (spl (l.drop (i + 1))).length ≤ k + 1
   ·rw [if_pos hl, if_pos (by simpa using hl)]
   ·rw [if_neg hl, if_neg (by simpa using hl)];simp
end Go.Proofs.YtpmhelkiicigfaaGreatDoor
namespace Go.Proofs.YtpmhelkiicigfaaGreatDoor
open Go
/-! ### Numbers -/
/-! ### Quoted texts -/
theorem Zrn (st : Bool) (q : UInt8) : ∀ (n : Nat) (m l : List UInt8), unq st q n m = some l → l.length ≤ m.length
 | 0, m, l, h => by simp [unq] at h
 | n + 1, [], l, h => by simp [unq] at h; subst h; simp
 | n + 1, b :: r, l, h => by
  have ih := fun m l => Zrn st q n m l;have one : ∀ (x : UInt8) (m : List UInt8), (unq st q n m).map (x :: ·) = some l → l.length ≤ m.length + 1 := fun x m h => by
   cases hm : unq st q n m with
   | none => rw [hm] at h; cases h
   | some l' => rw [hm] at h; cases h; have := ih m l' hm; simp; omega
  simp only [unq] at h
  split at h
  ·split at h
   ·cases h
   ·have := one _ _ h; simpa using this
  ·match r, h with
   | [], h => cases h
   | e :: r', h =>
    simp only at h
    split at h
    ·have := one _ _ h; simp; omega
    split at h
    ·have := one _ _ h; simp; omega
    split at h
    ·have := one _ _ h; simp; omega
    split at h
    ·match r', h with
     | [], h => cases h
     | [x], h => cases h
     | x :: y :: r'', h =>
      simp only at h
      split at h
      ·have := one _ _ h; simp; omega
      ·cases h
    ·cases h
/-! ### Names -/
/-! ### Cutting -/
end Go.Proofs.YtpmhelkiicigfaaGreatDoor
namespace Go.Proofs.YtpmhelkiicigfaaGreatDoor
open Go.RowKit
/-- The texts' bytes. -/
def bl (s : ByteArray) : List UInt8 := s.data.toList
theorem Zme {a b : ByteArray} (h : bl a = bl b) : a = b := by
 cases a; cases b
 simp only [bl, ByteArray.mk.injEq] at h ⊢;exact Array.ext' h
theorem Zf2 {a b : ByteArray} (h : a.toList = b.toList) : a = b := by
 have e : ∀ x : ByteArray, x.toList = x.data.toList := fun x => ByteArray.toList_eq x;rw [e, e] at h;exact Zme h
theorem Zid : ∀ (L : List (List UInt8)) (x : List UInt8) (j : Nat) (h : j < L.length), L[j] = x → L.idxOf x ≤ j
 | a :: L, x, j, h, e => by
  rw [List.idxOf_cons]
  cases hx : a == x with
  | true => simp
  | false =>
   cases j with
   | zero => simp at e; simp [e] at hx
   | succ j =>
    have := Zid L x j (by simpa using h) (by simpa using e);simp; omega
def Zc8 (l : List ByteArray) (s : ByteArray) : Bool := decide (bl s ∈ l.map bl)
def Zd1 (l : List ByteArray) (s : ByteArray) : Int := if bl s ∈ l.map bl then ((l.map bl).idxOf (bl s) : Int) else -1
theorem Zf3 {l : List ByteArray} {s : ByteArray} : Zc8 l s = true ↔ s ∈ l := by
 unfold Zc8;rw [nJ, List.mem_map];exact ⟨fun ⟨a, h1, h2⟩ => Zme h2 ▸ h1, fun h => ⟨s, h, rfl⟩⟩
theorem Zro {l : List ByteArray} {s : ByteArray} {j : Nat} (h : j < l.length) (he : l[j] = s) : Zc8 l s = true := Zf3.2 (he ▸ List.getElem_mem h)
theorem Znm {l : List ByteArray} {s : ByteArray} (h : ∀ k (hk : k < l.length), l[k] ≠ s) : Zc8 l s = false := by
 rw [← Bool.not_eq_true, Zf3];intro hm;obtain ⟨k, hk, e⟩ := List.getElem_of_mem hm;exact h k hk e
theorem Zie {l : List ByteArray} {s : ByteArray} {j : Nat} (h : j < l.length) (he : l[j] = s) (hn : ∀ k (hk : k < l.length), k < j → l[k] ≠ s) : Zd1 l s = j := by
 have hm : bl s ∈ l.map bl := List.mem_map.2 ⟨s, he ▸ List.getElem_mem h, rfl⟩;rw [Zd1, if_pos hm]
 congr 1
 have hi := List.idxOf_lt_length_iff.2 hm;have hg := List.getElem_idxOf hi;rw [List.getElem_map] at hg;have e2 := Zme hg;rw [List.length_map] at hi
 rcases Nat.lt_trichotomy ((l.map bl).idxOf (bl s)) j with h1 | h1 | h1
 ·exact absurd e2 (hn _ hi h1)
 ·exact h1
 ·have := Zid (l.map bl) (bl s) j (by simpa using h) (by simp [he])
  omega
theorem Zkp {l : List ByteArray} {s : ByteArray} (h : ∀ k (hk : k < l.length), l[k] ≠ s) : Zd1 l s = -1 := by
 have := Znm h;rw [Zd1, if_neg]
 simpa [Zc8] using this
theorem Zpo (l : List ByteArray) (s : ByteArray) : decide (0 ≤ Zd1 l s) = Zc8 l s := by
 unfold Zd1 Zc8
 split
 ·rename_i h; simp [h]
 ·rename_i h; simp [h]
theorem Zpp {l : List ByteArray} {j : Nat} (h : j < l.length) : decide (Zd1 l l[j] < j) = Zc8 (l.take j) l[j] := by
 by_cases hm : l[j] ∈ l.take j
 ·rw [Zf3.2 hm];have h1 : bl l[j] ∈ l.map bl := List.mem_map.2 ⟨_, List.getElem_mem h, rfl⟩;rw [Zd1, if_pos h1, nJ];obtain ⟨k, hk, e⟩ := List.getElem_of_mem hm;rw [List.length_take] at hk;rw [List.getElem_take] at e
  rcases Nat.lt_or_ge ((l.map bl).idxOf (bl l[j])) j with h2 | h2
  ·omega
  ·have := Zid (l.map bl) (bl l[j]) k (by simp; omega) (by simp [e])
   omega
 ·have h0 : Zc8 (l.take j) l[j] = false := by rw [← Bool.not_eq_true, Zf3]; exact hm
  rw [h0, Zie h rfl (fun k hk h1 e => hm (by rw [← e, List.mem_take_iff_getElem]; exact ⟨k, by omega, rfl⟩))];simp
theorem Zmf (l : List ByteArray) (v : Value) (s : ByteArray) (F : Nat → Prop) (w : World) (hr : Zp Zb0 1 F w l v) :
  Calls Tryz.prog 148 #[v, .string s] w fun e w' => e = .returned (.int .i64 (Zd1 l s)) ∧ w' = w := by
 obtain ⟨A, c, rfl, hc, hcm, hel⟩ := hr;unfold maxLen at hcm;have HEL := zh hel;clear hel;obtain ⟨R, hR⟩ : ∃ R, Zd1 l s = R := ⟨_, rfl⟩;rw [hR];have HR := zh hR;clear hR;go_enter Tryz.func148, Tryz.ntmps148;go_wp2_with fail
 go_loopw [5] (fun i wr => ∃ j : Nat, i = .int .i64 j ∧ j ≤ l.length ∧ Hd (∀ k (h : k < l.length), k < j → l[k] ≠ s) ∧ wr = w) (fun i _ => l.length - (intOf i).toNat)
 case atStart => exact ⟨0, rfl, Nat.zero_le _, zh (fun k _ h => by omega), rfl⟩
 case round =>
  obtain ⟨j, rfl, hj, HD, hw⟩ := hrel;obtain rfl : w = wr := hw.symm
  by_cases hlt : j < l.length
  ·obtain ⟨b, o, cs, rfl, hF, hbl, hE, hcell⟩ := HEL.o j hlt;obtain ⟨rfl, hsm⟩ := hE;have t1 : decide ((j : Int) < l.length) = true := decide_eq_true (by omega);have e0 := hcell 0 _ rfl;simp only [Nat.mul_one, Nat.add_zero] at e0
   by_cases he : l[j] = s
   ·have hR0 : R = (j : Int) := by rw [← HR.o, Zie hlt he HD.o]
    rw [he] at e0;subst hR0;have v2 : (s.toList == s.toList) = true := by simp
    clear hcell hsm he;go_wp2_with fail;go_ret;exact ⟨rfl, rfl⟩
   ·obtain ⟨y, hy⟩ : ∃ y, l[j] = y := ⟨_, rfl⟩;rw [hy] at e0;have v1 : (y.toList == s.toList) = false := by rw [nH]; exact fun h => he (hy.trans (Zf2 h))
    have HD2 : Hd (∀ k (h : k < l.length), k < j + 1 → l[k] ≠ s) := zh (fun k hk h => by
     rcases Nat.lt_or_ge k j with h1 | h1
     ·exact HD.o k hk h1
     ·obtain rfl : k = j := by omega
      exact he)
    clear hcell hsm he hy;go_wp2_with fail
    go_roundw
    case rel => exact ⟨j + 1, by go_num, by omega, HD2, trivial⟩
    case measure => simp [intOf]; omega
  ·have t1 : decide ((j : Int) < l.length) = false := decide_eq_false (by omega);have hR0 : R = -1 := by rw [← HR.o, Zkp (fun k hk => HD.o k hk (by omega))]
   subst hR0;go_wp2_with fail;go_ret;exact ⟨rfl, rfl⟩
theorem Zn6 (l : List ByteArray) (v : Value) (s : ByteArray) (F : Nat → Prop) (w : World) (hr : Zp Zb0 1 F w l v) :
  Calls Tryz.prog 172 #[v, .string s] w fun e w' => e = .returned (.int .i64 (Zd1 l s)) ∧ w' = w := by
 obtain ⟨A, c, rfl, hc, hcm, hel⟩ := hr;unfold maxLen at hcm;have HEL := zh hel;clear hel;obtain ⟨R, hR⟩ : ∃ R, Zd1 l s = R := ⟨_, rfl⟩;rw [hR];have HR := zh hR;clear hR;go_enter Tryz.func172, Tryz.ntmps172;go_wp2_with fail
 go_loopw [8] (fun i wr => ∃ j : Nat, i = .int .i64 j ∧ j ≤ l.length ∧ Hd (∀ k (h : k < l.length), k < j → l[k] ≠ s) ∧ wr = w) (fun i _ => l.length - (intOf i).toNat)
 case atStart => exact ⟨0, rfl, Nat.zero_le _, zh (fun k _ h => by omega), rfl⟩
 case round =>
  obtain ⟨j, rfl, hj, HD, hw⟩ := hrel;obtain rfl : w = wr := hw.symm
  by_cases hlt : j < l.length
  ·obtain ⟨b, o, cs, rfl, hF, hbl, hE, hcell⟩ := HEL.o j hlt;obtain ⟨rfl, hsm⟩ := hE;have t1 : decide ((j : Int) < l.length) = true := decide_eq_true (by omega);have e0 := hcell 0 _ rfl;simp only [Nat.mul_one, Nat.add_zero] at e0
   by_cases he : l[j] = s
   ·have hR0 : R = (j : Int) := by rw [← HR.o, Zie hlt he HD.o]
    rw [he] at e0;subst hR0;have v2 : (s.toList == s.toList) = true := by simp
    clear hcell hsm he;go_wp2_with fail;go_ret;exact ⟨rfl, rfl⟩
   ·obtain ⟨y, hy⟩ : ∃ y, l[j] = y := ⟨_, rfl⟩;rw [hy] at e0;have v1 : (s.toList == y.toList) = false := by rw [nH]; exact fun h => he (hy.trans (Zf2 h.symm))
    have HD2 : Hd (∀ k (h : k < l.length), k < j + 1 → l[k] ≠ s) := zh (fun k hk h => by
     rcases Nat.lt_or_ge k j with h1 | h1
     ·exact HD.o k hk h1
     ·obtain rfl : k = j := by omega
      exact he)
    clear hcell hsm he hy;go_wp2_with fail
    go_roundw
    case rel => exact ⟨j + 1, by go_num, by omega, HD2, trivial⟩
    case measure => simp [intOf]; omega
  ·have t1 : decide ((j : Int) < l.length) = false := decide_eq_false (by omega);have hR0 : R = -1 := by rw [← HR.o, Zkp (fun k hk => HD.o k hk (by omega))]
   subst hR0;go_wp2_with fail;go_ret;exact ⟨rfl, rfl⟩
theorem Zn7 (l : List ByteArray) (v : Value) (s : ByteArray) (F : Nat → Prop) (w : World) (hr : Zp Zb0 1 F w l v) :
  Calls Tryz.prog 170 #[v, .string s] w fun e w' => e = .returned (.bool (Zc8 l s)) ∧ w' = w := by
 obtain ⟨A, c, rfl, hc, hcm, hel⟩ := hr;unfold maxLen at hcm;have HEL := zh hel;clear hel;obtain ⟨R, hR⟩ : ∃ R, Zc8 l s = R := ⟨_, rfl⟩;rw [hR];have HR := zh hR;clear hR;go_enter Tryz.func170, Tryz.ntmps170;go_wp2_with fail
 go_loopw [5] (fun i wr => ∃ j : Nat, i = .int .i64 j ∧ j ≤ l.length ∧ Hd (∀ k (h : k < l.length), k < j → l[k] ≠ s) ∧ wr = w) (fun i _ => l.length - (intOf i).toNat)
 case atStart => exact ⟨0, rfl, Nat.zero_le _, zh (fun k _ h => by omega), rfl⟩
 case round =>
  obtain ⟨j, rfl, hj, HD, hw⟩ := hrel;obtain rfl : w = wr := hw.symm
  by_cases hlt : j < l.length
  ·obtain ⟨b, o, cs, rfl, hF, hbl, hE, hcell⟩ := HEL.o j hlt;obtain ⟨rfl, hsm⟩ := hE;have t1 : decide ((j : Int) < l.length) = true := decide_eq_true (by omega);have e0 := hcell 0 _ rfl;simp only [Nat.mul_one, Nat.add_zero] at e0
   by_cases he : l[j] = s
   ·have hR0 : R = true := by rw [← HR.o, Zro hlt he]
    rw [he] at e0;subst hR0;have v2 : (s.toList == s.toList) = true := by simp
    clear hcell hsm he;go_wp2_with fail;go_ret;exact ⟨rfl, rfl⟩
   ·obtain ⟨y, hy⟩ : ∃ y, l[j] = y := ⟨_, rfl⟩;rw [hy] at e0;have v1 : (y.toList == s.toList) = false := by rw [nH]; exact fun h => he (hy.trans (Zf2 h))
    have HD2 : Hd (∀ k (h : k < l.length), k < j + 1 → l[k] ≠ s) := zh (fun k hk h => by
     rcases Nat.lt_or_ge k j with h1 | h1
     ·exact HD.o k hk h1
     ·obtain rfl : k = j := by omega
      exact he)
    clear hcell hsm he hy;go_wp2_with fail
    go_roundw
    case rel => exact ⟨j + 1, by go_num, by omega, HD2, trivial⟩
    case measure => simp [intOf]; omega
  ·have t1 : decide ((j : Int) < l.length) = false := decide_eq_false (by omega);have hR0 : R = false := by rw [← HR.o, Znm (fun k hk => HD.o k hk (by omega))]
   subst hR0;go_wp2_with fail;go_ret;exact ⟨rfl, rfl⟩
theorem Zf4 (l : List ByteArray) (v : Value) (s : ByteArray) (F : Nat → Prop) (w : World) (hr : Zp Zb0 1 F w l v) :
  Calls Tryz.prog 154 #[v, .string s] w fun e w' => e = .returned (.bool (Zc8 l s)) ∧ w' = w := by
 have HI := zh (Zn6 l v s F w hr);have HG := zh (Zpo l s);clear hr;go_enter Tryz.func154, Tryz.ntmps154;go_wp2_with fail;refine HI.o.mono ?_;rintro e w' ⟨rfl, hw⟩;obtain rfl := hw.symm;go_wp2_with fail;go_ret;exact ⟨by rw [← HG.o]; rfl, rfl⟩
/-- Bit k of a 64-bit word. -/
def bit (x : Int) (k : Nat) : Bool := bits .and .u64 (IntKind.u64.wrap x / 2 ^ k) 1 == 1
theorem Zif (x : Int) : IntKind.u64.wrap x = ((BitVec.ofInt 64 x).toNat : Int) := by
 rw [BitVec.toNat_ofInt];have : IntKind.u64.wrap x = x % 18446744073709551616 := by rw [IntKind.wrap_u64]
 rw [this]; omega
theorem Zso (x : Int) (k : Nat) : bit x k = (BitVec.ofInt 64 x).getLsbD k := by
 unfold bit;rw [Zif]
 generalize BitVec.ofInt 64 x = X
 have hX := X.isLt;have e : ((X.toNat : Int) / 2 ^ k) = ((X.toNat / 2 ^ k : Nat) : Int) := by simp
 have hle : X.toNat / 2 ^ k ≤ X.toNat := Nat.div_le_self _ _;rw [e, show (1 : Int) = ((1 : Nat) : Int) from rfl, u64_and_nat _ _ (by omega) (by omega)];rw [BitVec.getLsbD, Nat.testBit, Nat.shiftRight_eq_div_pow, Nat.and_comm]
 rcases Nat.mod_two_eq_zero_or_one (X.toNat / 2 ^ k) with h | h <;> simp [h]
theorem Zkq (x y : Int) : bits .and .i64 x y = IntKind.i64.wrap ((BitVec.ofInt 64 x &&& BitVec.ofInt 64 y).toNat : Int) := rfl
theorem Zkr (x : Int) (k : Nat) (hk : k < 64) : (bits .and .i64 x (wrap64 (2 ^ k)) != 0) = bit x k := by
 rw [Zso, Zkq];have e : BitVec.ofInt 64 (wrap64 (2 ^ k)) = BitVec.twoPow 64 k := by
  apply BitVec.eq_of_toNat_eq
  rw [BitVec.toNat_ofInt, BitVec.toNat_twoPow];have hp : (2 : Nat) ^ k < 2 ^ 64 := Nat.pow_lt_pow_right (by decide) hk;have hc : ((2 : Int) ^ k) = ((2 ^ k : Nat) : Int) := by simp
  rw [hc];unfold wrap64;rw [Nat.mod_eq_of_lt hp]
  generalize 2 ^ k = n at *
  omega
 rw [e, BitVec.and_twoPow]
 cases h : (BitVec.ofInt 64 x).getLsbD k
 ·simp
  rfl
 ·simp only [if_true];have hp : (2 : Nat) ^ k < 2 ^ 64 := Nat.pow_lt_pow_right (by decide) hk;have hpos : 0 < (2 : Nat) ^ k := Nat.pow_pos (by decide);rw [BitVec.toNat_twoPow, Nat.mod_eq_of_lt hp, IntKind.wrap_i64]
  generalize 2 ^ k = n at *
  simp
  omega
/-- Whether the byte b is of the set. -/
def hb (lo hi b : Int) : Bool := if 127 < b then false else if b < 64 then bit lo b.toNat else bit hi (b - 64).toNat
theorem Zpq (lo hi b : Int) (h : 127 < b) : hb lo hi b = false := by unfold hb; rw [if_pos h]
theorem Zsj (lo hi b : Int) (_h0 : 0 ≤ b) (h : b < 64) : hb lo hi b = bit lo b.toNat := by unfold hb; rw [if_neg (by omega), if_pos h]
theorem Zsk (lo hi b : Int) (h0 : 64 ≤ b) (h : b ≤ 127) : hb lo hi b = bit hi (b - 64).toNat := by unfold hb; rw [if_neg (by omega), if_neg (by omega)]
/-! ### The text of a set -/
/-- The bytes below n of the set. -/
def Zbf (lo hi : Int) (n : Nat) : List UInt8 := ((List.range n).filter fun b : Nat => hb lo hi (b : Int)).map UInt8.ofNat
theorem Zf5 (lo hi : Int) (n : Nat) : Zbf lo hi (n + 1) = Zbf lo hi n ++ if hb lo hi (n : Int) then [UInt8.ofNat n] else [] := by
 unfold Zbf;rw [List.range_succ, List.filter_append, List.map_append]
 congr 1
 cases h : hb lo hi (n : Int) <;> simp [h]
theorem Zey (lo hi : Int) (n : Nat) : (Zbf lo hi n).length ≤ n := by
 unfold Zbf;rw [List.length_map];exact Nat.le_trans (List.length_filter_le _ _) (by simp)
theorem Zmg : ∀ (a b : List UInt8), a.Pairwise (fun x y => x.toNat < y.toNat) → b.Pairwise (fun x y => x.toNat < y.toNat) → (∀ x, x ∈ a ↔ x ∈ b) → a = b
 | [], [], _, _, _ => rfl
 | [], y :: b, _, _, h => by have := (h y).2 (by simp); simp at this
 | x :: a, [], _, _, h => by have := (h x).1 (by simp); simp at this
 | x :: a, y :: b, ha, hb, h => by
  rw [List.pairwise_cons] at ha hb;have hxy : x = y := by
   have h1 := (h x).1 (by simp);have h2 := (h y).2 (by simp);rw [List.mem_cons] at h1 h2
   rcases h1 with h1 | h1
   ·exact h1
   ·rcases h2 with h2 | h2
    ·exact h2.symm
    ·have := ha.1 y h2; have := hb.1 x h1; omega
  subst hxy;rw [Zmg a b ha.2 hb.2 (fun z => by
   have hz := h z;rw [List.mem_cons, List.mem_cons] at hz
   constructor
   ·intro hm
    rcases hz.1 (.inr hm) with e | e
    ·subst e; have := ha.1 z hm; omega
    ·exact e
   ·intro hm
    rcases hz.2 (.inr hm) with e | e
    ·subst e; have := hb.1 z hm; omega
    ·exact e)]
theorem Zh1 (lo hi b : Int) (w : World) (h0 : 0 ≤ b) (h1 : b < 256) :
  Calls Tryz.prog 169 #[.agg #[.int .i64 lo, .int .i64 hi], .int .u8 b] w fun e w' => e = .returned (.bool (hb lo hi b)) ∧ Below w.heap.size w w' := by
 by_cases h2 : 127 < b
 ·rw [Zpq lo hi b h2];go_enter Tryz.func169, Tryz.ntmps169
  go_wp2
  go_ret;exact ⟨rfl, (Below.refl _ _).alloc (Nat.le_refl _) _⟩
 ·by_cases h3 : b < 64
  ·have hv := zh (Zsj lo hi b h0 h3);go_enter Tryz.func169, Tryz.ntmps169
   go_wp2
   go_ret;exact ⟨by rw [hv.o]; rw [← Zkr lo b.toNat (by omega)]; rfl, (Below.refl _ _).alloc (Nat.le_refl _) _⟩
  ·have hv := zh (Zsk lo hi b (by omega) (by omega));go_enter Tryz.func169, Tryz.ntmps169
   go_wp2
   go_ret;exact ⟨by rw [hv.o]; rw [← Zkr hi (b - 64).toNat (by omega)]; rfl, (Below.refl _ _).alloc (Nat.le_refl _) _⟩
theorem Zks {B : Nat} {a w : World} (h : Below B a w) (n : Nat) : Below B a (w.drewN n) := ⟨h.os, h.tape, h.output, h.size, h.block⟩
theorem Znn (x : Int) : 0 ≤ bits .and .i64 x 255 ∧ bits .and .i64 x 255 ≤ 255 := by
 rw [Zkq];have h : (BitVec.ofInt 64 x &&& BitVec.ofInt 64 255).toNat ≤ 255 := by
  rw [BitVec.toNat_and];exact Nat.and_le_right
 rw [IntKind.wrap_i64]
 generalize (BitVec.ofInt 64 x &&& BitVec.ofInt 64 255).toNat = n at *
 omega
/-- The blocks of P alone have turned. -/
structure Tch (P : Nat → Prop) (w x : World) : Prop where
 keep : Zg (fun b => ¬ P b) w x
 below : Below 0 w x
theorem Tch.refl (P : Nat → Prop) (w : World) : Tch P w w := ⟨Zg.refl _ _, Below.refl _ _⟩
theorem Tch.later {P : Nat → Prop} {w x : World} (hl : Za w x) : Tch P w x := ⟨Zg.later hl, Below.mono hl (Nat.zero_le _)⟩
theorem Tch.trans {P Q R : Nat → Prop} {w x y : World} (h : Tch P w x) (k : Tch Q x y) (hP : ∀ b, P b → R b) (hQ : ∀ b, b < w.heap.size → Q b → R b) : Tch R w y :=
 ⟨⟨Nat.le_trans h.keep.size k.keep.size, fun b hb hl => (k.keep.same b (fun hq => hb (hQ b hl hq)) (Nat.lt_of_lt_of_le hl h.keep.size)).trans (h.keep.same b (fun hp => hb (hP b hp)) hl)⟩, h.below.trans k.below⟩
theorem Tch.mono {P R : Nat → Prop} {w x : World} (h : Tch P w x) (hP : ∀ b, b < w.heap.size → P b → R b) : Tch R w x :=
 ⟨⟨h.keep.size, fun b hb hl => h.keep.same b (fun hp => hb (hP b hl hp)) hl⟩, h.below⟩
theorem Tch.tr {P : Nat → Prop} {w x y : World} (h : Tch P w x) (k : Tch P x y) : Tch P w y := h.trans k (fun _ h => h) (fun _ _ h => h)
theorem Tch.la {P : Nat → Prop} {w x y : World} (h : Tch P w x) (k : Za x y) : Tch P w y := h.tr (Tch.later k)
theorem Tch.fl {P : Nat → Prop} {w x y : World} (h : Za w x) (k : Tch P x y) : Tch P w y := (Tch.later h).tr k
theorem Tch.size {P : Nat → Prop} {w x : World} (h : Tch P w x) : w.heap.size ≤ x.heap.size := h.keep.size
theorem Tch.has {P : Nat → Prop} {w x : World} (h : Tch P w x) {b : Nat} {o : Obj} (hb : w.heap[b]? = some o) (hc : ¬ P b) : x.heap[b]? = some o := (h.keep.same b hc (Zb hb)).trans hb
theorem Tch.set {P : Nat → Prop} {w x : World} (h : Tch P w x) {c : Nat} (hc : P c) (o : Nat) (v : Value) : Tch P w (x.setCell ⟨c, o, none⟩ v) :=
 ⟨⟨by simpa using h.keep.size, fun b hb hl => by
  exact (Below.heap_setCell _ _ _ _ (by rintro rfl; exact hb hc)).trans (h.keep.same b hb hl)⟩, h.below.setCell (Nat.zero_le _) _⟩
theorem Tch.cell {P : Nat → Prop} {w x : World} (h : Tch P w x) {g : Nat} (o : Nat) (hg : g < w.heap.size) (hc : ¬ P g) : x.cell? ⟨g, o, none⟩ = w.cell? ⟨g, o, none⟩ := by
 unfold World.cell?;rw [h.keep.same g hc hg]
theorem Tch.keeps {P F : Nat → Prop} {w x : World} (h : Tch P w x) (hF : ∀ b, F b → ¬ P b) : Zg F w x := h.keep.mono hF
/-- The bytes of a slice can be read; they are older than C. -/
def Zjx (w : World) (C : Nat) (A : Option Addr) (n : Nat) : Prop := ∀ j, j < n → ∃ g o b, A = some ⟨g, o, none⟩ ∧ g < C ∧ 0 ≤ b ∧ b < 256 ∧ w.cell? ⟨g, o + j, none⟩ = some (.int .u8 b)
abbrev Zmh : TypeId := 127
/-- A cursor lies in block C. -/
def Cur (C : Nat) (w : World) : Prop := ∃ (A : Option Addr) (n c i : Nat) (h : Int), n ≤ 1048577 ∧ i ≤ n ∧ w.heap[C]? = some (.cells #[.slice A n c, .int .i64 i, .int .i64 h] Zmh (0, 0)) ∧ Zjx w C A n
theorem Cur.lt {C : Nat} {w : World} (h : Cur C w) : C < w.heap.size := by
 obtain ⟨_, _, _, _, _, _, _, h, _⟩ := h;exact Zb h
theorem Cur.keep {C : Nat} {w x : World} {P : Nat → Prop} (h : Cur C w) (ht : Tch P w x) (hP : ∀ b, b ≤ C → ¬ P b) : Cur C x := by
 have hlt := h.lt;obtain ⟨A, n, c, i, y, hn, hi, hb, hby⟩ := h;refine ⟨A, n, c, i, y, hn, hi, ht.has hb (hP _ (Nat.le_refl _)), fun j hj => ?_⟩;obtain ⟨g, o, b, e, h1, h2, h3, h4⟩ := hby j hj;exact ⟨g, o, b, e, h1, h2, h3, (ht.cell _ (by omega) (hP _ (by omega))).trans h4⟩
theorem Cur.later {C : Nat} {w x : World} (h : Cur C w) (hl : Za w x) : Cur C x := h.keep (Tch.later (P := fun _ => False) hl) fun _ _ h => h
/-- The cursor alone has turned. -/
abbrev Zbs (C : Nat) (w x : World) : Prop := Tch (fun b => b = C) w x
theorem Zbs.trans {C : Nat} {w x y : World} (h1 : Zbs C w x) (h2 : Zbs C x y) : Zbs C w y := Tch.trans h1 h2 (fun _ h => h) (fun _ _ h => h)
theorem Zbs.later {C : Nat} {w x y : World} (h1 : Zbs C w x) (h2 : Za x y) : Zbs C w y := Tch.trans h1 (Tch.later (P := fun _ => False) h2) (fun _ h => h) (fun _ _ h => h.elim)
theorem Cur.of {C : Nat} {w x : World} {A : Option Addr} {n c i : Nat} {h : Int} (ht : Zbs C w x) (hn : n ≤ 1048577) (hi : i ≤ n) (hb : x.heap[C]? = some (.cells #[.slice A n c, .int .i64 i, .int .i64 h] Zmh (0, 0))) (hC : C < w.heap.size) (hby : Zjx w C A n) : Cur C x := ⟨A, n, c, i, h, hn, hi, hb, fun j hj => by
 obtain ⟨g, o, b, e, h1, h2, h3, h4⟩ := hby j hj;exact ⟨g, o, b, e, h1, h2, h3, (ht.cell _ (by omega) (by omega)).trans h4⟩⟩
theorem Zkt {w : World} {C : Nat} {v0 v1 v2 : Value} (h : w.heap[C]? = some (.cells #[v0, v1, v2] Zmh (0, 0))) (v : Value) : (w.setCell ⟨C, 2, none⟩ v).heap[C]? = some (.cells #[v0, v1, v] Zmh (0, 0)) := by
 have h7 := Zaj (o := 2) h v
 simpa only [List.setIfInBounds_toArray, List.set_cons_zero, List.set_cons_succ] using h7
theorem Zpr {w : World} {C : Nat} {v0 v1 v2 : Value} (h : w.heap[C]? = some (.cells #[v0, v1, v2] Zmh (0, 0))) (v : Value) : (w.setCell ⟨C, 1, none⟩ v).heap[C]? = some (.cells #[v0, v, v2] Zmh (0, 0)) := by
 have h7 := Zaj (o := 1) h v
 simpa only [List.setIfInBounds_toArray, List.set_cons_zero, List.set_cons_succ] using h7
theorem Zbs.drewN {C : Nat} {w x : World} (h : Zbs C w x) (k : Nat) : Zbs C w (x.drewN k) := h.later (Zks (Below.refl _ _) k)
/-- A draw of a value of P. -/
def Zi3 (C : Nat) (P : Value → Prop) (w : World) (e : Ending) (w' : World) : Prop := ∃ v, P v ∧ e = .returned v ∧ Cur C w' ∧ Zbs C w w'
def Zsl (lo hi : Int) (v : Value) : Prop := ∃ x : Int, lo ≤ x ∧ x ≤ hi ∧ v = .int .i64 x
set_option maxRecDepth 100000
set_option maxHeartbeats 4000000
theorem Zdn (C : Nat) (w : World) (hcur : Cur C w) :
  Calls Tryz.prog 90 #[.pointer (some ⟨C, 0, none⟩)] w (Zi3 C (Zsl 0 255) w) := by
 obtain ⟨A, n, c, i, h, hn, hi, hblk, hby⟩ := hcur;have c0 := cz3 hblk;have f0 := fz hblk;have HBY := zh hby;have HBLK := zh hblk;have hC := Zb hblk;clear hby hblk
 by_cases hlt : i < n
 ·obtain ⟨g, o, b, hA, hgC, hb0, hb1, hcell⟩ := HBY.o i hlt;subst hA;have t1 : decide ((i : Int) < n) = true := by simp; omega
  have t2 : decide (i < n) = true := by simp; omega
  have t3 : wrap64 ((i : Int) + 1) = ((i + 1 : Nat) : Int) := by simp [wrap64]; omega
  have t4 : (g == C) = false := by simp; omega
  have t5 : (C == g) = false := by simp; omega
  have t6 : (n : Int) > i := by omega
  go_enter Tryz.func90, Tryz.ntmps90;go_wp2_with fail
  go_quiet (fail)
  go_wp2_with fail
  go_quiet (fail)
  go_wp2_with fail
  go_quiet (fail)
  go_wp2_with fail;go_ret
  generalize hz : wrap64 (bits BinOp.and IntKind.i64 (bits BinOp.xor IntKind.i64 (wrap64 (wrap64 (h * 6364136223846793005) + 1442695040888963407) / 8589934592) (wrap64 (wrap64 (h * 6364136223846793005) + 1442695040888963407) / 35184372088832)) 255 + b) = z
  have hx := Znn z;refine ⟨_, ⟨_, hx.1, hx.2, rfl⟩, rfl, Cur.of (c := c) (h := wrap64 (wrap64 (h * 6364136223846793005) + 1442695040888963407)) ?_ hn hlt ?_ hC HBY.o, ?_⟩;rotate_left
  ·have hb := Zkt HBLK.o (.int .i64 (wrap64 (wrap64 (h * 6364136223846793005) + 1442695040888963407)));exact Zpr hb _
  all_goals exact (Zbs.drewN ((Tch.refl (fun b => b = C) w).set rfl 2 _) _).set rfl 1 _
 ·have t1 : decide ((i : Int) < n) = false := by simp; omega
  have t2 : decide (i < n) = false := by simp; omega
  go_enter Tryz.func90, Tryz.ntmps90;go_wp2_with fail
  go_quiet (fail)
  go_wp2_with fail
  go_quiet (fail)
  go_wp2_with fail;go_ret;have hx := Znn (bits BinOp.xor IntKind.i64 (wrap64 (wrap64 (h * 6364136223846793005) + 1442695040888963407) / 8589934592) (wrap64 (wrap64 (h * 6364136223846793005) + 1442695040888963407) / 35184372088832));refine ⟨_, ⟨_, hx.1, hx.2, rfl⟩, rfl, Cur.of (c := c) (h := wrap64 (wrap64 (h * 6364136223846793005) + 1442695040888963407)) ?_ hn hi ?_ hC HBY.o, ?_⟩;rotate_left
  ·exact Zkt HBLK.o _
  all_goals exact Zbs.drewN (Zbs.drewN ((Tch.refl (fun b => b = C) w).set rfl 2 _) _) _
theorem Z0 (C : Nat) (w : World) (hcur : Cur C w) (m : Nat) (hm : m ≤ 1000000) : Calls Tryz.prog 39 #[.pointer (some ⟨C, 0, none⟩), .int .i64 m] w (Zi3 C (Zsl 0 ((m - 1 : Nat) : Int)) w) := by
 have HCUR := zh hcur;clear hcur
 by_cases h0 : m = 0
 ·subst h0;go_enter Tryz.func39, Tryz.ntmps39;go_wp2_with fail;go_ret;exact ⟨_, ⟨0, by simp, by simp, rfl⟩, rfl, HCUR.o, Tch.refl _ _⟩
 ·by_cases h1 : m ≤ 256
  ·have t1 : decide ((m : Int) ≤ 0) = false := by simp; omega
   have t2 : decide ((m : Int) ≤ 256) = true := by simp; omega
   have t3 : ((m : Int) == 0) = false := by simp; omega
   have t4 : (m : Int) ≠ 0 := by omega
   go_enter Tryz.func39, Tryz.ntmps39;go_wp2_with fail;refine (Zdn C w HCUR.o).mono ?_;rintro e w2 ⟨_, ⟨x, hx0, hx1, rfl⟩, rfl, hc2, hd2⟩;have HC2 := zh hc2;have HD2 := zh hd2;clear hc2 hd2;go_wp2_with fail;go_ret;have hy0 := Int.emod_nonneg x t4;have hy1 := Int.emod_lt_of_pos x (show (0 : Int) < m by omega);exact ⟨_, ⟨x % m, hy0, by omega, rfl⟩, rfl, HC2.o, HD2.o⟩
  ·have t1 : decide ((m : Int) ≤ 0) = false := by simp; omega
   have t2 : decide ((m : Int) ≤ 256) = false := by simp; omega
   have t3 : ((m : Int) == 0) = false := by simp; omega
   have t4 : (m : Int) ≠ 0 := by omega
   go_enter Tryz.func39, Tryz.ntmps39;go_wp2_with fail;refine (Zdn C w HCUR.o).mono ?_;rintro e w2 ⟨_, ⟨x, hx0, hx1, rfl⟩, rfl, hc2, hd2⟩;go_wp2_with fail;refine (Zdn C w2 hc2).mono ?_;rintro e w3 ⟨_, ⟨y, hy0, hy1, rfl⟩, rfl, hc3, hd3⟩;go_wp2_with fail;refine (Zdn C w3 hc3).mono ?_;rintro e w4 ⟨_, ⟨z, hz0, hz1, rfl⟩, rfl, hc4, hd4⟩;go_wp2_with fail;refine (Zdn C w4 hc4).mono ?_;rintro e w5 ⟨_, ⟨u, hu0, hu1, rfl⟩, rfl, hc5, hd5⟩;have HC2 := zh hc5;have HD2 := zh (((hd2.tr hd3).tr hd4).tr hd5);clear hc5 hd5 hc4 hd4 hc3 hd3 hc2 hd2;have t5 : wrap64 (wrap64 (wrap64 (wrap64 (x * 16777216) + wrap64 (y * 65536)) + wrap64 (z * 256)) + u) = x * 16777216 + y * 65536 + z * 256 + u := by simp only [wrap64]; omega
   go_wp2_with fail;go_ret
   generalize x * 16777216 + y * 65536 + z * 256 + u = x at *
   have hy0 := Int.emod_nonneg x t4;have hy1 := Int.emod_lt_of_pos x (show (0 : Int) < m by omega);exact ⟨_, ⟨x % m, hy0, by omega, rfl⟩, rfl, HC2.o, HD2.o⟩
theorem Zci (C : Nat) (w : World) (hcur : Cur C w) (m : Nat) (hm : m ≤ 1000000) : Calls Tryz.prog 87 #[.pointer (some ⟨C, 0, none⟩), .int .i64 m] w (Zi3 C (fun v => ∃ b, v = .bool b) w) := by
 have HCUR := zh hcur;clear hcur;go_enter Tryz.func87, Tryz.ntmps87;go_wp2_with fail;refine (Z0 C w HCUR.o m hm).mono ?_;rintro e w2 ⟨_, ⟨x, hx0, hx1, rfl⟩, rfl, hc2, hd2⟩;have HC2 := zh hc2;have HD2 := zh hd2;clear hc2 hd2;go_wp2_with fail
 all_goals (go_ret; exact ⟨_, ⟨_, rfl⟩, rfl, HC2.o, HD2.o⟩)
/-- A member of a row of numbers. -/
theorem Zdc (C : Nat) (w : World) (hcur : Cur C w) (P : Int → Prop) (l : List Int) (hk0 : 0 < l.length) (hk : l.length ≤ 256) (g : Nat) (hrow : w.heap[g]? = some (.cells (l.map (Value.int .i64)).toArray 3 (0, 0))) (hgC : g ≠ C) (hP : ∀ x ∈ l, P x) :
  Calls Tryz.prog 133 #[.pointer (some ⟨C, 0, none⟩), .slice (some ⟨g, 0, none⟩) l.length l.length] w (Zi3 C (fun v => ∃ x, P x ∧ v = .int .i64 x) w) := by
 have HCUR := zh hcur;have HROW := zh hrow;clear hcur hrow;go_enter Tryz.func133, Tryz.ntmps133;go_wp2_with fail;refine (Z0 C w HCUR.o _ (by omega)).mono ?_;rintro e w2 ⟨_, ⟨x, hx0, hx1, rfl⟩, rfl, hc2, hd2⟩;obtain ⟨j, rfl⟩ : ∃ j : Nat, x = j := ⟨x.toNat, by omega⟩;have hj : j < l.length := by omega
 have hcell2 : w2.cell? ⟨g, j, none⟩ = some (.int .i64 l[j]) := (cell_of_row _ g j _ _ _ (hd2.has HROW.o hgC)).trans (by simp [hj]);have hg2 : g < w2.heap.size := Nat.lt_of_lt_of_le (Zb HROW.o) hd2.size;have HC2 := zh hc2;have HD2 := zh hd2;have HV := zh (hP _ (List.getElem_mem hj));clear hc2 hd2;go_wp2_with fail;go_ret;exact ⟨_, ⟨_, HV.o, rfl⟩, rfl, HC2.o, HD2.o⟩
/-- A member of a row of texts. -/
theorem Zc9 (C : Nat) (w : World) (hcur : Cur C w) (P : ByteArray → Prop) (l : List ByteArray) (hk0 : 0 < l.length) (hk : l.length ≤ 256) (g : Nat) (hrow : w.heap[g]? = some (.cells (l.map Value.string).toArray 9 (0, 0))) (hgC : g ≠ C) (hP : ∀ x ∈ l, P x) :
  Calls Tryz.prog 131 #[.pointer (some ⟨C, 0, none⟩), .slice (some ⟨g, 0, none⟩) l.length l.length] w (Zi3 C (fun v => ∃ x, P x ∧ v = .string x) w) := by
 have HCUR := zh hcur;have HROW := zh hrow;clear hcur hrow;go_enter Tryz.func131, Tryz.ntmps131;go_wp2_with fail;refine (Z0 C w HCUR.o _ (by omega)).mono ?_;rintro e w2 ⟨_, ⟨x, hx0, hx1, rfl⟩, rfl, hc2, hd2⟩;obtain ⟨j, rfl⟩ : ∃ j : Nat, x = j := ⟨x.toNat, by omega⟩;have hj : j < l.length := by omega
 have hcell2 : w2.cell? ⟨g, j, none⟩ = some (.string l[j]) := (cell_of_row _ g j _ _ _ (hd2.has HROW.o hgC)).trans (by simp [hj]);have hg2 : g < w2.heap.size := Nat.lt_of_lt_of_le (Zb HROW.o) hd2.size;have HC2 := zh hc2;have HD2 := zh hd2;have HV := zh (hP _ (List.getElem_mem hj));clear hc2 hd2;go_wp2_with fail;go_ret;exact ⟨_, ⟨_, HV.o, rfl⟩, rfl, HC2.o, HD2.o⟩
end Go.Proofs.YtpmhelkiicigfaaGreatDoor
namespace Go.Proofs.YtpmhelkiicigfaaGreatDoor
open Go.RowKit Go.ChangeShapes Go.WideShapes Go.ChangeAt
set_option maxRecDepth 1000000
set_option maxHeartbeats 8000000
/-- The bytes of a code can be read. -/
def Zcm (w : World) (A : Option Addr) (n c : Nat) : Prop := (A = none → n = 0 ∧ c = 0) ∧ ∀ j, j < n → ∃ g o b, A = some ⟨g, o, none⟩ ∧ g < w.heap.size ∧ 0 ≤ b ∧ b < 256 ∧ w.cell? ⟨g, o + j, none⟩ = some (.int .u8 b)
theorem Zcm.later {w x : World} {A : Option Addr} {n c : Nat} (h : Zcm w A n c) (hl : Za w x) : Zcm x A n c := ⟨h.1, fun j hj => by
 obtain ⟨g, o, b, e, h2, h3, h4, h5⟩ := h.2 j hj;exact ⟨g, o, b, e, Nat.lt_of_lt_of_le h2 hl.size, h3, h4, (hl.cell _ h2).trans h5⟩⟩
theorem Zcm.in_ {w x : World} {C : Nat} {A : Option Addr} {n c : Nat} (h : Zcm w A n c) (hC : w.heap.size ≤ C) (hl : Za w x) : Zjx x C A n := fun j hj => by
 obtain ⟨g, o, b, e, h2, h3, h4, h5⟩ := h.2 j hj;exact ⟨g, o, b, e, by omega, h3, h4, (hl.cell _ h2).trans h5⟩
def Zig (w : World) (e : Ending) (w' : World) : Prop := ∃ C, w.heap.size ≤ C ∧ e = .returned (.pointer (some ⟨C, 0, none⟩)) ∧ Cur C w' ∧ Za w w'
theorem Zig.mk' {w : World} {A : Option Addr} {n c : Nat} {x : Int} (h : Zcm w A n c) (hn : n ≤ 1048577) : Zig w (.returned (.pointer (some ⟨w.heap.size, 0, none⟩))) (w.alloc (.cells #[.slice A n c, .int .i64 0, .int .i64 x] Zmh)) :=
 ⟨_, Nat.le_refl _, rfl, ⟨A, n, c, 0, x, hn, Nat.zero_le _, heap_alloc_new _ _, h.in_ (Nat.le_refl _) ((Za.refl _).alloc _)⟩, (Za.refl _).alloc _⟩
def Zte (n : Nat) (w : World) (h i : Value) (wr : World) : Prop := ∃ (j : Nat) (x : Int), h = .int .i64 x ∧ i = .int .i64 j ∧ j ≤ n ∧ wr = w
theorem Zgx (A : Option Addr) (n c : Nat) (w : World) (hby : Zcm w A n c) (hn : n ≤ 1048577) : Calls Tryz.prog 38 #[.slice A n c] w (Zig w) := by
 have HBY := zh hby;clear hby;go_enter Tryz.func38, Tryz.ntmps38;go_wp2_with fail
 go_loopw [3, 4] (fun h i wr => Zte n w h i wr) (fun _ i _ => n - (intOf i).toNat)
 case atStart => exact ⟨0, _, rfl, rfl, by omega, rfl⟩
 case round =>
  obtain ⟨j, x, rfl, rfl, hj, hwr⟩ := hrel;obtain rfl : w = wr := hwr.symm
  by_cases hlt : j < n ∧ j < 4000
  ·obtain ⟨g, o, b, hA, hg, hb0, hb1, hcell⟩ := HBY.o.2 j hlt.1;subst hA;obtain ⟨hlt1, hlt2⟩ := hlt;have t1 : decide ((j : Int) < n) = true := by simp; omega
   have t2 : decide ((j : Int) < 4000) = true := by simp; omega
   go_wp2_with fail
   go_roundw
   case rel => exact ⟨j + 1, _, rfl, by simp, by omega, rfl⟩
   case measure => simp [intOf]; omega
  ·by_cases hl1 : j < n
   ·have t1 : decide ((j : Int) < n) = true := by simp; omega
    have t2 : decide ((j : Int) < 4000) = false := by simp; omega
    clear hlt;go_wp2_with fail;go_ret;exact Zig.mk' HBY.o hn
   ·have t1 : decide ((j : Int) < n) = false := by simp; omega
    clear hlt;go_wp2_with fail;go_ret;exact Zig.mk' HBY.o hn
theorem Ztf : Tryz.prog.cellsOf 5 = 1 := by kernel_rfl
theorem Zrp {w : World} {a : Addr} {v : Value} (h : w.cell? a = some v) : a.block < w.heap.size := by
 unfold World.cell? at h
 rcases hh : w.heap[a.block]? with _ | o
 ·rw [hh] at h; cases h
 ·exact (Array.getElem?_eq_some_iff.1 hh).1
theorem Zn8 {H : Type} {enc : TypeId × Value → H} {w : World} {spare : Nat → Bool} {held : Bool} {r : Reach} {b0 : Nat} {v : Value} {d : DataW H} {q : List MemPlace} (hv : Value.okWide Tryz.prog w r b0 22 v) (h : DataW.Trod enc Tryz.prog w 0 spare held 22 v d q) :
  ∃ (A : Option Addr) (n c : Nat), v = .slice A n c ∧ Zcm w A n c := by
 obtain ⟨a1, len, cap, rfl⟩ := okWide_slice Tryz.underlying22 hv;obtain ⟨fuel, hf⟩ := h
 rcases open_ints Tryz.underlying22 Tryz.underlying5 Ztf hf with ⟨hcs, hx⟩ | ⟨a, len', cap', zs, hcs, _, hl, hm, hz, hx, hcell, hwz⟩
 ·simp [Value.cells] at hcs;obtain ⟨rfl, rfl, rfl⟩ := hcs;exact ⟨none, 0, 0, rfl, ⟨fun _ => ⟨rfl, rfl⟩, fun j hj => absurd hj (Nat.not_lt_zero _)⟩⟩
 ·simp [Value.cells] at hcs;obtain ⟨rfl, rfl, rfl⟩ := hcs;refine ⟨_, _, _, rfl, ⟨fun h => (by cases h), fun j hj => ?_⟩⟩;have hlz : len ≤ zs.length := by rw [hz]; split <;> omega
  have hc := hcell j (by omega);obtain ⟨ab, ao, spot⟩ := a;have hspot : spot = none := by simpa [Addr.add] using World.cell?_spot (hcell 0 (by omega))
  subst hspot;rw [Addr.add_lit] at hc;have hb := range_u8 hwz j;exact ⟨ab, ao, _, rfl, Zrp hc, by simpa using hb.1, by have := hb.2; rw [List.getD_eq_getElem?_getD]; omega, hc⟩
end Go.Proofs.YtpmhelkiicigfaaGreatDoor
namespace Go.Proofs.YtpmhelkiicigfaaGreatDoor
open Go
/-- Slots that are Zb6. -/
def Has : List (Nat × Value) → Array Value → Prop
 | [], _ => True
 | (k, v) :: t, A => A[k]? = some v ∧ Has t A
structure Fr (n : Nat) (ks : List (Nat × Value)) (a : Act) : Prop where
 size : a.tmps.size = n
 defers : a.defers = []
 has : Has ks a.tmps
theorem Zps (l : List Value) : (List.range l.length).map (fun k => l.getD k undef) = l := by
 refine List.ext_getElem (by simp) fun i h1 h2 => ?_;simp at h1;simp [h1]
/-- A frame of n slots, written out. -/
theorem Fr.lit {n : Nat} {ks : List (Nat × Value)} {a : Act} (h : Fr n ks a) : ∃ f : Nat → Value, a = ⟨((List.range n).map f).toArray, []⟩ ∧ ∀ k, k < n → a.tmps[k]? = some (f k) := by
 obtain ⟨⟨l⟩, d⟩ := a;obtain ⟨h1, rfl, -⟩ := h;have h1 : l.length = n := h1;refine ⟨fun k => l.getD k undef, ?_, fun k hk => ?_⟩
 ·rw [← h1, Zps]
 ·rw [List.getElem?_toArray];show l[k]? = some (l.getD k undef);rw [List.getD_eq_getElem?_getD, List.getElem?_eq_getElem (by omega)]
  rfl
theorem Zb6 {A : Array Value} {k : Nat} {v u : Value} (h : A[k]? = some v) (h2 : A[k]? = some u) : u = v := by
 rw [h] at h2;exact (Option.some.inj h2).symm
/-- The end of a piece. -/
def Zd2 (R : Act → World → Prop) : Exit → Act → World → Prop
 | .normal, a, w => R a w
 | _, _, _ => False
variable {P : Program} {c : Code} {R K : Act → World → Prop} {Q : Exit → Act → World → Prop} {a : Act} {w : World}
theorem Zjy (h : c.wp P (Zd2 R) a w) (k : ∀ a' w', R a' w' → K a' w') : c.wp P (Exit.then K Q) a w :=
 wp_mono h fun e a' w' hr => by cases e with | normal => exact k a' w' hr | _ => exact hr.elim
theorem Zmi {n : Nat} (h : c.wp P (Zd2 R) a w) (k : ∀ a' w', R a' w' → K a' w') : c.wp P (Exit.inBlock n (Exit.then K Q)) a w :=
 wp_mono h fun e a' w' hr => by cases e with | normal => exact k a' w' hr | _ => exact hr.elim
/-- Pieces of code. -/
def cL : Code → Code | .seq a _ => a | c => c
def cR : Code → Code | .seq _ b => b | c => c
def cB : Code → Code | .block _ c => c | .loop c => c | c => c
def Zjz (f : Func) : Code := match f.body with | some c => c | none => .skip
end Go.Proofs.YtpmhelkiicigfaaGreatDoor
namespace Go.Proofs.YtpmhelkiicigfaaGreatDoor
open Go.RowKit
theorem Zgy : (Tryz.prog.info? 5).map (fun i => (i.zero, i.size, i.bytes)) = some (some (.int .u8 0), 1, 1) := by kernel_rfl
/-- 'string(out)' of a row of bytes that the call owns. -/
theorem Zez {w : World} {base g cap n : Nat} {ns : List Int} (hn : ns.length = n) (hown : w.ownsRow base 5 1 (.slice (some ⟨g, 0, none⟩) n cap) n (ns.map (Value.int .u8))) :
  (convert 22 9 (.slice (some ⟨g, 0, none⟩) n cap)).run Tryz.prog w = .ok (.string (Zfk ns)) w := by
 subst hn;rw [run_convert_bytes_string w 22 9 5 _ _ _ Tryz.underlying22 Tryz.underlying5 Tryz.underlying9];have hl := run_loadCells_list (P := Tryz.prog) w ⟨g, 0, none⟩ (ns.map (Value.int .u8)) (hown.cells (g := g) rfl);rw [List.length_map] at hl;rw [run_bytesToString w ⟨g, 0, none⟩ ns.length cap ns hl, Zkn]
theorem Zmj {w x : World} (h : x = w.drew) : Za w x := by rw [h]; exact (Za.refl _).drew
theorem Zn9 {w x : World} {base : Nat} {e : TypeId} {size : Nat} {v : Value} {n : Nat} {xs : List Value} (h : w.ownsRow base e size v n xs) (hl : Za w x) : x.ownsRow base e size v n xs := by
 refine ⟨h.1, ?_⟩
 rcases h.2 with hn | ⟨g, cap, cur, rfl, hb, hg, rest⟩
 ·exact .inl hn
 ·exact .inr ⟨g, cap, cur, rfl, hb, (Below.block hl g (Array.getElem?_eq_some_iff.1 hg).1).trans hg, rest⟩
/-- The bytes read so far, in a row that the call owns. -/
structure Zdo (w : World) (o : List UInt8) (v : Value) (wr : World) : Prop where
 row : wr.ownsRow w.heap.size 5 1 v o.length ((Zi2 o).map (Value.int .u8))
 bel : Below w.heap.size w wr
 nn : v ≠ .slice none 0 0
theorem Zdo.later {w wr x : World} {o : List UInt8} {v : Value} (h : Zdo w o v wr) (hl : Za wr x) : Zdo w o v x :=
 ⟨Zn9 h.row hl, Below.trans h.bel (Below.mono hl h.bel.size), h.nn⟩
theorem Zdo.alloc {w wr : World} {o : List UInt8} {v : Value} (h : Zdo w o v wr) (ob : Obj) : Zdo w o v (wr.alloc ob) := h.later ((Za.refl _).alloc ob)
theorem Zdo.form {w wr : World} {o : List UInt8} {v : Value} (h : Zdo w o v wr) : ∃ g cap, v = .slice (some ⟨g, 0, none⟩) o.length cap := by
 rcases h.row.2 with ⟨hv, _⟩ | ⟨g, cap, cur, hv, _⟩
 ·exact absurd hv h.nn
 ·exact ⟨g, cap, hv⟩
theorem Zdo.push {w wr w1 : World} {o : List UInt8} {v v' : Value} (h : Zdo w o v wr) (x : UInt8) (c : Int) (hc : (x.toNat : Int) = c) {ob : Obj} (hown' : w1.ownsRow w.heap.size 5 1 v' (o.length + 1) ((Zi2 o).map (Value.int .u8) ++ [Value.int .u8 c])) (hg : (wr.alloc ob).grownBy w1 v.ownBlock) (hn : v' = .slice none 0 0 ↔ v = .slice none 0 0 ∧ 1 = 0) : Zdo w (o ++ [x]) v' w1 := by
 subst hc;have hsz := h.bel.size;refine ⟨?_, (h.bel.alloc hsz ob).grown hg (by simp; omega) (fun g hg' => (h.row.lt g hg').1), fun e => by have := (hn.1 e).2; omega⟩;rw [List.length_append, List.length_singleton, Zkm, List.map_append];exact hown'
theorem Zdo.start (w : World) : Zdo w [] (.slice (some ⟨w.heap.size, 0, none⟩) 0 0) (w.alloc (.cells #[] 5)) :=
 ⟨⟨rfl, .inr ⟨w.heap.size, 0, #[], rfl, Nat.le_refl _, heap_alloc_new w _, Nat.le_refl _, Nat.zero_le _, rfl, rfl⟩⟩, (Below.refl _ _).alloc (Nat.le_refl _) _, fun e => by cases e⟩
theorem Zmk (o : List UInt8) : Zfk (Zi2 o) = ⟨o.toArray⟩ := by
 unfold Zfk Zi2;rw [List.map_map]
 congr 1
 congr 1
 conv => rhs; rw [← List.map_id o]
 apply List.map_congr_left
 intro b _;simp
/-- 'string(out)'. -/
theorem Zdo.text {w wr : World} {o : List UInt8} {g cap : Nat} (h : Zdo w o (.slice (some ⟨g, 0, none⟩) o.length cap) wr) : (convert 22 9 (.slice (some ⟨g, 0, none⟩) o.length cap)).run Tryz.prog wr = .ok (.string ⟨o.toArray⟩) wr := by
 have := Zez (ns := Zi2 o) (n := o.length) (by simp [Zi2]) h.row;rw [Zmk] at this;exact this
theorem Zku {x : World} {b : Nat} {v0 v1 : Value} {t : TypeId} (h : x.heap[b]? = some (.cells #[v0, v1] t (0, 0))) : x.cell? ⟨b, 0, none⟩ = some v0 ∧ x.cell? ⟨b, 1, none⟩ = some v1 :=
 ⟨cell_of_row x b 0 _ _ _ h, cell_of_row x b 1 _ _ _ h⟩
theorem Zd3 (lo hi : Int) (w : World) :
  Calls Tryz.prog 143 #[.agg #[.int .i64 lo, .int .i64 hi]] w fun e w' => e = .returned (.string ⟨(Zbf lo hi 128).toArray⟩) ∧ Below w.heap.size w w' := by
 obtain ⟨i0, hi0, hz0, hz1, hz2⟩ := info_parts Zgy;have HCL := zh (Zey lo hi);have HSU := zh (Zf5 lo hi);obtain ⟨w1, hw1⟩ : ∃ w1, w1 = w.alloc (.cells #[.int .i64 lo, .int .i64 hi] 32) := ⟨_, rfl⟩;have HP := zh (show w1.heap[w.heap.size]? = some (.cells #[.int .i64 lo, .int .i64 hi] 32 (0, 0)) by rw [hw1]; exact heap_alloc_new w _);have hb1 : Below w.heap.size w w1 := by rw [hw1]; exact (Below.refl _ _).alloc (Nat.le_refl _) _
 have hlt1 : w.heap.size < w1.heap.size := by rw [hw1]; simp
 have hst0 := Zdo.start w1;rw [show w1.heap.size = w.heap.size + 1 by rw [hw1]; simp] at hst0;have HST0 := zh (show Zdo w1 [] (.slice (some ⟨w.heap.size + 1, 0, none⟩) 0 0) ((w.alloc (.cells #[.int .i64 lo, .int .i64 hi] 32)).alloc (.cells #[] 5)) by rw [← hw1]; exact hst0);clear hst0 hw1;go_enter Tryz.func143, Tryz.ntmps143;go_wp2_with fail
 go_loopw [3, 4] (fun v i wr => ∃ (j : Nat) (o : List UInt8) (v' : Value), i = .int .i64 j ∧ v' = v ∧ j ≤ 128 ∧ Hd (o = Zbf lo hi j) ∧ Zdo w1 o v' wr) (fun _ i _ => 128 - (intOf i).toNat)
 case atStart => exact ⟨0, [], _, rfl, rfl, by omega, zh rfl, HST0.o⟩
 case round =>
  obtain ⟨j, o, v, rfl, rfl, hj, HO, hst⟩ := hrel;have hsz := hst.bel.size;have HST := zh hst;clear hst
  by_cases hlt : j < 128
  ·have t1 : decide ((j : Int) < 128) = true := decide_eq_true (by omega);have hwr : IntKind.u8.wrap (j : Int) = (j : Int) := by rw [IntKind.wrap_u8]; omega
   obtain ⟨c0, c1⟩ := Zku ((HST.o.bel.block _ hlt1).trans HP.o);have HHB := zh (Zh1 lo hi (j : Int) wr (by omega) (by omega));have hol : o.length ≤ 128 := by rw [HO.o]; exact Nat.le_trans (HCL.o j) hj
   go_wp2_with fail;refine HHB.o.mono ?_;rintro e w2 ⟨rfl, hb2⟩;have HST2 := zh (HST.o.later hb2);have hsz2 := HST2.o.bel.size;clear hb2 c0 c1 HHB
   by_cases hh : hb lo hi (j : Int) = true
   ·have HO2 := zh (show o ++ [UInt8.ofNat j] = Zbf lo hi (j + 1) by rw [HSU.o, if_pos hh, HO.o]);have hcj : ((UInt8.ofNat j).toNat : Int) = (j : Int) := by rw [UInt8.toNat_ofNat', Nat.mod_eq_of_lt (by omega)]
    have HCJ := zh hcj;rw [hh];clear hh hcj
    go_wp2_with (at_builtin; refine wpList_append_own _ rfl _ _ 22 rfl w1.heap.size 5 i0 (.int .u8 0) 1 1 Tryz.underlying22 hi0 hz0 hz1 hz2 rfl (by decide) _ _ _ rfl (HST2.o.row.alloc _) ⟨w2.heap.size, 0, none⟩ 1 1 [.int .u8 (j : Int)] rfl rfl (cell_one_new _ _ _) (by simp [Value.oneCell']) (by unfold maxLen; omega) (by omega) (by simp; omega) ?_; intro v' w3 hown' hgrow hnil)
    have hst3 := HST2.o.push (UInt8.ofNat j) (j : Int) HCJ.o hown' hgrow hnil
    go_roundw
    case rel => exact ⟨j + 1, _, _, by go_num, rfl, by omega, HO2, hst3⟩
    case measure => simp [intOf]; omega
   ·have hh2 : hb lo hi (j : Int) = false := by simpa using hh
    have HO2 := zh (show o = Zbf lo hi (j + 1) by rw [HSU.o, if_neg hh, List.append_nil, HO.o]);rw [hh2];clear hh hh2;go_wp2_with fail
    go_roundw
    case rel => exact ⟨j + 1, o, _, by go_num, rfl, by omega, HO2, HST2.o⟩
    case measure => simp [intOf]; omega
  ·have t1 : decide ((j : Int) < 128) = false := decide_eq_false (by omega);have hf : o = Zbf lo hi 128 := by rw [HO.o, show j = 128 by omega]
   obtain ⟨g1, cap1, hv⟩ := HST.o.form;subst hv;have e2 := HST.o.text;have HF := zh hf;clear hf;go_wp2_with fail;go_ret;refine ⟨?_, hb1.trans (Below.mono HST.o.bel hb1.size)⟩;rw [HF.o]; rfl
theorem Zh2 (lo hi b : Int) (w : World) (h0 : 0 ≤ b) (h1 : b < 256) :
  Calls Tryz.prog 167 #[.agg #[.int .i64 lo, .int .i64 hi], .int .u8 b] w fun e w' => e = .returned (.bool (hb lo hi b)) ∧ Below w.heap.size w w' := by
 by_cases h2 : 127 < b
 ·rw [Zpq lo hi b h2];go_enter Tryz.func167, Tryz.ntmps167
  go_wp2
  go_ret;exact ⟨rfl, (Below.refl _ _).alloc (Nat.le_refl _) _⟩
 ·by_cases h3 : b < 64
  ·have hv := zh (Zsj lo hi b h0 h3);go_enter Tryz.func167, Tryz.ntmps167
   go_wp2
   go_ret;exact ⟨by rw [hv.o]; rfl, (Below.refl _ _).alloc (Nat.le_refl _) _⟩
  ·have hv := zh (Zsk lo hi b (by omega) (by omega));go_enter Tryz.func167, Tryz.ntmps167
   go_wp2
   go_ret;exact ⟨by rw [hv.o]; rfl, (Below.refl _ _).alloc (Nat.le_refl _) _⟩
theorem Zd4 (lo hi : Int) (w : World) :
  Calls Tryz.prog 140 #[.agg #[.int .i64 lo, .int .i64 hi]] w fun e w' => e = .returned (.string ⟨(Zbf lo hi 128).toArray⟩) ∧ Below w.heap.size w w' := by
 obtain ⟨i0, hi0, hz0, hz1, hz2⟩ := info_parts Zgy;have HCL := zh (Zey lo hi);have HSU := zh (Zf5 lo hi);obtain ⟨w1, hw1⟩ : ∃ w1, w1 = w.alloc (.cells #[.int .i64 lo, .int .i64 hi] 32) := ⟨_, rfl⟩;have HP := zh (show w1.heap[w.heap.size]? = some (.cells #[.int .i64 lo, .int .i64 hi] 32 (0, 0)) by rw [hw1]; exact heap_alloc_new w _);have hb1 : Below w.heap.size w w1 := by rw [hw1]; exact (Below.refl _ _).alloc (Nat.le_refl _) _
 have hlt1 : w.heap.size < w1.heap.size := by rw [hw1]; simp
 have hst0 := Zdo.start w1;rw [show w1.heap.size = w.heap.size + 1 by rw [hw1]; simp] at hst0;have HST0 := zh (show Zdo w1 [] (.slice (some ⟨w.heap.size + 1, 0, none⟩) 0 0) ((w.alloc (.cells #[.int .i64 lo, .int .i64 hi] 32)).alloc (.cells #[] 5)) by rw [← hw1]; exact hst0);clear hst0 hw1;go_enter Tryz.func140, Tryz.ntmps140;go_wp2_with fail
 go_loopw [3, 4] (fun v i wr => ∃ (j : Nat) (o : List UInt8) (v' : Value), i = .int .i64 j ∧ v' = v ∧ j ≤ 128 ∧ Hd (o = Zbf lo hi j) ∧ Zdo w1 o v' wr) (fun _ i _ => 128 - (intOf i).toNat)
 case atStart => exact ⟨0, [], _, rfl, rfl, by omega, zh rfl, HST0.o⟩
 case round =>
  obtain ⟨j, o, v, rfl, rfl, hj, HO, hst⟩ := hrel;have hsz := hst.bel.size;have HST := zh hst;clear hst
  by_cases hlt : j < 128
  ·have t1 : decide ((j : Int) < 128) = true := decide_eq_true (by omega);have hwr : IntKind.u8.wrap (j : Int) = (j : Int) := by rw [IntKind.wrap_u8]; omega
   obtain ⟨c0, c1⟩ := Zku ((HST.o.bel.block _ hlt1).trans HP.o);have HHB := zh (Zh2 lo hi (j : Int) wr (by omega) (by omega));have hol : o.length ≤ 128 := by rw [HO.o]; exact Nat.le_trans (HCL.o j) hj
   go_wp2_with fail;refine HHB.o.mono ?_;rintro e w2 ⟨rfl, hb2⟩;have HST2 := zh (HST.o.later hb2);have hsz2 := HST2.o.bel.size;clear hb2 c0 c1 HHB
   by_cases hh : hb lo hi (j : Int) = true
   ·have HO2 := zh (show o ++ [UInt8.ofNat j] = Zbf lo hi (j + 1) by rw [HSU.o, if_pos hh, HO.o]);have hcj : ((UInt8.ofNat j).toNat : Int) = (j : Int) := by rw [UInt8.toNat_ofNat', Nat.mod_eq_of_lt (by omega)]
    have HCJ := zh hcj;rw [hh];clear hh hcj
    go_wp2_with (at_builtin; refine wpList_append_own _ rfl _ _ 22 rfl w1.heap.size 5 i0 (.int .u8 0) 1 1 Tryz.underlying22 hi0 hz0 hz1 hz2 rfl (by decide) _ _ _ rfl (HST2.o.row.alloc _) ⟨w2.heap.size, 0, none⟩ 1 1 [.int .u8 (j : Int)] rfl rfl (cell_one_new _ _ _) (by simp [Value.oneCell']) (by unfold maxLen; omega) (by omega) (by simp; omega) ?_; intro v' w3 hown' hgrow hnil)
    have hst3 := HST2.o.push (UInt8.ofNat j) (j : Int) HCJ.o hown' hgrow hnil
    go_roundw
    case rel => exact ⟨j + 1, _, _, by go_num, rfl, by omega, HO2, hst3⟩
    case measure => simp [intOf]; omega
   ·have hh2 : hb lo hi (j : Int) = false := by simpa using hh
    have HO2 := zh (show o = Zbf lo hi (j + 1) by rw [HSU.o, if_neg hh, List.append_nil, HO.o]);rw [hh2];clear hh hh2;go_wp2_with fail
    go_roundw
    case rel => exact ⟨j + 1, o, _, by go_num, rfl, by omega, HO2, HST2.o⟩
    case measure => simp [intOf]; omega
  ·have t1 : decide ((j : Int) < 128) = false := decide_eq_false (by omega);have hf : o = Zbf lo hi 128 := by rw [HO.o, show j = 128 by omega]
   obtain ⟨g1, cap1, hv⟩ := HST.o.form;subst hv;have e2 := HST.o.text;have HF := zh hf;clear hf;go_wp2_with fail;go_ret;refine ⟨?_, hb1.trans (Below.mono HST.o.bel hb1.size)⟩;rw [HF.o]; rfl
end Go.Proofs.YtpmhelkiicigfaaGreatDoor
namespace Go.Proofs.YtpmhelkiicigfaaGreatDoor
open Go.RowKit
section
variable {P : Program} {α : Type} {S El : Zcg α} {size : Nat} {F G : Nat → Prop} {l : List α} {v : Value}
theorem Zi4 (w : World) (hE : Zff S El size) (t ty e : TypeId) (i : TypeInfo) (z : Value) (bytes : Nat) (ht : P.underlying t = some (.slice e)) (hi : P.info? e = some i) (hz : i.zero = some z)
  (hsize : i.size = size) (hby : i.bytes = bytes) (hzs : z.cells.size = size) (hrow : Zae S size e F w l v)
  (ad : Addr) (c : Nat) (a : α) (cs : List Value) (hnews : ∀ j u, cs[j]? = some u → w.cell? (ad.add j) = some u) (hone : ∀ u ∈ cs, u.oneCell' = true) (hel : S G w a cs) (hFG : ∀ y, G y → ¬ F y)
  (hm : l.length ≤ 2097152) (hbytes : bytes ≤ 1000) :
  ∃ v' w', (Builtin.append_ #[t, t] ty #[v, .slice (some ad) 1 c]).run P w = .ok v' w' ∧ Zae S size e (fun y => F y ∨ G y ∨ y = w.heap.size) w' (l ++ [a]) v' ∧ Zg (fun y => ¬ F y) w w' ∧ Below 0 w w' := by
 subst hsize;subst hby;have hcl : cs.length = 1 * i.size := by rw [hE.is.len hel, Nat.one_mul]
 have hby2 : (l.length + 1) * i.bytes ≤ 140737488355328 := by have := Nat.mul_le_mul (show l.length + 1 ≤ 2097153 by omega) hbytes; omega
 have mk : ∀ (w' : World) (g c' : Nat) (cur : Array Value) (tag : Nat → Nat), w'.heap[g]? = some (.cells cur e (0, 0)) → (F g ∨ g = w.heap.size) → (∀ y, y < w.heap.size → y ≠ g → w'.heap[y]? = w.heap[y]?) → w.heap.size ≤ w'.heap.size →
   l.length + 1 ≤ c' → c' ≤ maxLen → c' * i.size ≤ cur.size →
   (∀ k (h : k < l.length), ∃ cs, S (fun x => ((F x ∧ x < w.heap.size) ∧ x ≠ g) ∧ tag x = k) w l[k] cs ∧ ∀ j x, cs[j]? = some x → cur[k * i.size + j]? = some x) → (∀ j x, cs[j]? = some x → cur[l.length * i.size + j]? = some x) →
   Zae S i.size e (fun y => F y ∨ G y ∨ y = w.heap.size) w' (l ++ [a]) (.slice (some ⟨g, 0, none⟩) (l.length + 1) c') := by
  intro w' g c' cur tag hg hgF hkeep hsz h1 h2 h3 hold hnew
  classical
  refine ⟨_, c', by simp, by simpa using h1, h2, fun _ => ⟨g, 0, cur, fun y => if G y then l.length else tag y, rfl, ?_, hg, ⟨rfl, by omega⟩, fun k hk => ?_⟩⟩
  ·rcases hgF with h | h
   ·exact .inl h
   ·exact .inr (.inr h)
  ·by_cases hkl : k < l.length
   ·obtain ⟨cs0, hs, hc⟩ := hold k hkl;rw [List.getElem_append_left hkl];refine ⟨cs0, hE.is.keep hs (fun y hy => ⟨⟨.inl hy.1.1.1, hy.1.2⟩, ?_⟩) ⟨hsz, fun b hb hl => hkeep b hl hb.1.2⟩, fun j x hj => by rw [Nat.zero_add]; exact hc j x hj⟩;show (if G y then l.length else tag y) = k;rw [if_neg (fun hg => hFG y hg hy.1.1.1)];exact hy.2
   ·obtain rfl : k = l.length := by simp at hk; omega
    rw [List.getElem_append_right (Nat.le_refl _)];simp only [Nat.sub_self, List.getElem_cons_zero];have hng : ∀ y, G y ∧ y < w.heap.size → y ≠ g := fun y hy e => by
     rcases hgF with h | h
     ·exact hFG y hy.1 (e ▸ h)
     ·omega
    refine ⟨cs, hE.is.keep (hE.trim hel) (fun y hy => ⟨⟨.inr (.inl hy.1), hng y hy⟩, ?_⟩) ⟨hsz, fun b hb hl => hkeep b hl (hng b hb)⟩, fun j x hj => by rw [Nat.zero_add]; exact hnew j x hj⟩;show (if G y then l.length else tag y) = l.length;rw [if_pos hy.1]
 obtain ⟨A, cp, rfl, hc, hcm, h3⟩ := hrow;have hadd : ∀ g j, ((⟨g, 0, none⟩ : Addr).add j) = ⟨g, j, none⟩ := fun g j => by unfold Addr.add; split <;> simp_all
 by_cases h0 : cp = 0
 ·obtain rfl : l = [] := List.eq_nil_of_length_eq_zero (by omega);subst h0;have grown : ∀ old : Nat, old < 1 → Zae S i.size e (fun y => F y ∨ G y ∨ y = w.heap.size) (w.drew.alloc (.cells ((#[] : Array Value) ++ cs.toArray ++ Builtin.zeroCells z.cells (grownCap w (0 + 1) old e - (0 + 1))) e)) ([] ++ [a]) (.slice (some ⟨w.heap.size, 0, none⟩) (0 + 1) (grownCap w (0 + 1) old e)) := fun old ho => by
   have hge := grownCap_ge w (0 + 1) old e;have hgm : grownCap w (0 + 1) old e ≤ maxLen := grownCap_le_maxLen w (0 + 1) old e (by simp only [maxLen]; omega);refine mk _ _ _ _ (fun _ => 0) (heap_alloc_new w.drew _) (.inr rfl) (fun y hy _ => Below.heap_alloc w.drew _ y hy) (by simp) hge hgm ?_ (fun k hk => by simp at hk) (fun j x hj => ?_)
   ·simp only [Array.size_append, List.size_toArray, size_zeroCells, hzs, hcl, Array.size_empty];simp only [List.length_nil, Nat.zero_add] at hge ⊢;rw [← Nat.add_mul];exact Nat.mul_le_mul_right _ (by omega)
   ·have hlt := (List.getElem?_eq_some_iff.1 hj).1;rw [Array.getElem?_append_left (by simp; omega)]
    simpa using hj
  have keeps : ∀ o : Obj, Zg (fun y => ¬ F y) w (w.drew.alloc o) := fun o => ⟨by simp, fun b _ hb => Below.heap_alloc w.drew _ b hb⟩
  cases A with
  | none =>
   have hr := run_append_nil (P := P) w t ty e i z ht hi hz ad 1 c cs hcl hnews (by omega) (by omega) (by omega);have hgr := grown 0 (by omega);simp only [Nat.zero_add, List.nil_append, Array.empty_append, List.length_nil] at hgr hr ⊢;exact ⟨_, _, hr, hgr, keeps _, (Below.refl 0 w).drew.alloc (Nat.zero_le _) _⟩
  | some a0 =>
   have hr := run_append_grow (P := P) w t ty e i z ht hi hz a0 0 0 [] (by simp) (fun j u hu => by simp at hu) ad 1 c cs hcl hnews (by omega) (by omega) (growslice_fits (by omega) (by simpa using hby2));have hgr := grown 0 (by omega);exact ⟨_, _, hr, hgr, keeps _, (Below.refl 0 w).drew.alloc (Nat.zero_le _) _⟩
 ·obtain ⟨b, o, cur, tag, rfl, hF, hb, ⟨rfl, hcap⟩, hall⟩ := h3 (by omega);have hbw := Zb hb;have hcurl : cur.toList.length = cur.size := Array.length_toList;rw [Nat.zero_add] at hcap;have hold : ∀ g, (g = b ∨ g = w.heap.size) → ∀ k (h : k < l.length), ∃ cs, S (fun x => ((F x ∧ x < w.heap.size) ∧ x ≠ g) ∧ tag x = k) w l[k] cs ∧ ∀ j x, cs[j]? = some x → cur[k * i.size + j]? = some x := fun g hg k hk => by
   obtain ⟨cs0, hs, hc0⟩ := hall k hk;refine ⟨cs0, hE.is.keep (hE.trim hs) (fun y hy => ⟨⟨⟨hy.1.1.1, hy.2⟩, ?_⟩, hy.1.2⟩) (Zg.refl _ _), fun j x hj => by have := hc0 j x hj; rwa [Nat.zero_add] at this⟩
   rcases hg with rfl | rfl
   ·exact hy.1.1.2
   ·have := hy.2; omega
  have hlc : l.length * i.size ≤ cur.size := Nat.le_trans (Nat.mul_le_mul_right _ hc) hcap
  by_cases hroom : l.length + 1 ≤ cp
  ·have hfit : l.length * i.size + cs.length ≤ cur.size := by rw [hcl, ← Nat.add_mul]; exact Nat.le_trans (Nat.mul_le_mul_right _ hroom) hcap
   have hr := run_append_room (P := P) w t ty e i ht hi b l.length cp cur hb ad 1 c cs hcl hnews hone hroom hfit;refine ⟨_, _, hr, mk _ b cp _ tag (setRow_heap w b cur _ e _ hb) (.inl hF) (fun y hy hyb => setRow_other w b y _ hyb) (by simp) hroom hcm ?_ (fun k hk => ?_) (fun j x hj => ?_), ⟨by simp, fun y hy hl => setRow_other w b y _ (fun e => hy (e ▸ hF))⟩, ⟨rfl, rfl, rfl, by simp, fun k h => absurd h (Nat.not_lt_zero _)⟩⟩
   ·simp only [List.size_toArray, List.length_append, List.length_take, List.length_drop, Array.length_toList]
    omega
   ·obtain ⟨cs0, hs, hc0⟩ := hold b (.inl rfl) k hk;refine ⟨cs0, hs, fun j x hj => ?_⟩;have hx := hc0 j x hj;have hjs : j < i.size := by have := hE.is.len hs; have := (List.getElem?_eq_some_iff.1 hj).1; omega
    have hlt : k * i.size + j < l.length * i.size := by
     have : (k + 1) * i.size ≤ l.length * i.size := Nat.mul_le_mul_right _ hk;rw [Nat.add_mul, Nat.one_mul] at this
     omega
    rw [List.getElem?_toArray, List.append_assoc, List.getElem?_append_left (by rw [List.length_take, hcurl]; omega), List.getElem?_take, if_pos hlt]
    simpa using hx
   ·have hlt := (List.getElem?_eq_some_iff.1 hj).1;rw [List.getElem?_toArray, List.append_assoc, List.getElem?_append_right (by rw [List.length_take, hcurl]; omega), List.length_take, hcurl, Nat.min_eq_left hlc, Nat.add_sub_cancel_left, List.getElem?_append_left hlt];exact hj
  ·have hxs : (cur.toList.take (l.length * i.size)).length = l.length * i.size := by rw [List.length_take, hcurl]; omega
   have holds : ∀ j u, (cur.toList.take (l.length * i.size))[j]? = some u → w.cell? ((⟨b, 0, none⟩ : Addr).add j) = some u := fun j u hu => by
    rw [hadd, cell_of_row w b j cur e (0, 0) hb];rw [List.getElem?_take] at hu
    split at hu
    ·simpa using hu
    ·cases hu
   have hr := run_append_grow (P := P) w t ty e i z ht hi hz ⟨b, 0, none⟩ l.length cp (cur.toList.take (l.length * i.size)) hxs holds ad 1 c cs hcl hnews (by omega) (by omega) (growslice_fits (by omega) hby2);have hge := grownCap_ge w (l.length + 1) cp e;have hgm : grownCap w (l.length + 1) cp e ≤ maxLen := grownCap_le_maxLen w (l.length + 1) cp e (by simp only [maxLen]; omega);refine ⟨_, _, hr, mk _ _ _ _ tag (heap_alloc_new w.drew _) (.inr rfl) (fun y hy _ => Below.heap_alloc w.drew _ y hy) (by simp) hge hgm ?_ (fun k hk => ?_) (fun j x hj => ?_), ⟨by simp, fun b _ hb => Below.heap_alloc w.drew _ b hb⟩, (Below.refl 0 w).drew.alloc (Nat.zero_le _) _⟩
   ·simp only [Array.size_append, List.size_toArray, size_zeroCells, hzs, hxs, hcl, ← Nat.add_mul];exact Nat.mul_le_mul_right _ (by omega)
   ·obtain ⟨cs0, hs, hc0⟩ := hold w.heap.size (.inr rfl) k hk;refine ⟨cs0, hs, fun j x hj => ?_⟩;have hx := hc0 j x hj;have hjs : j < i.size := by have := hE.is.len hs; have := (List.getElem?_eq_some_iff.1 hj).1; omega
    have hlt : k * i.size + j < l.length * i.size := by
     have : (k + 1) * i.size ≤ l.length * i.size := Nat.mul_le_mul_right _ hk;rw [Nat.add_mul, Nat.one_mul] at this
     omega
    rw [Array.getElem?_append_left (by simp only [Array.size_append, List.size_toArray, hxs]; omega), Array.getElem?_append_left (by rw [List.size_toArray, hxs]; exact hlt), List.getElem?_toArray, List.getElem?_take, if_pos hlt]
    simpa using hx
   ·have hlt := (List.getElem?_eq_some_iff.1 hj).1;rw [Array.getElem?_append_left (by simp only [Array.size_append, List.size_toArray, hxs]; omega), Array.getElem?_append_right (by rw [List.size_toArray, hxs]; omega), List.size_toArray, hxs, Nat.add_sub_cancel_left, List.getElem?_toArray];exact hj
theorem Zan {w : World} (hE : Zff S El size) {ops : Array Oper} {rest : List Oper} {o : Oper} {ac : Act} {Q : Exit → Act → World → Prop} (hgd : o.guard = none) (s x : Operand) (t : TypeId)
  (ho : o.op = .call { callee := .builtin .append, args := #[s, x], argTypes := #[t, t] })
  (e : TypeId) (i : TypeInfo) (z : Value) (bytes : Nat) (ht : P.underlying t = some (.slice e)) (hi : P.info? e = some i) (hz : i.zero = some z)
  (hsize : i.size = size) (hby : i.bytes = bytes) (hzs : z.cells.size = size) (hs : ac.eval s = v) (hrow : Zae S size e F w l v)
  (ad : Addr) (c : Nat) (hx : ac.eval x = .slice (some ad) 1 c) (a : α) (cs : List Value) (hnews : ∀ j u, cs[j]? = some u → w.cell? (ad.add j) = some u) (hone : ∀ u ∈ cs, u.oneCell' = true) (hel : S G w a cs) (hFG : ∀ y, G y → ¬ F y)
  (hm : l.length ≤ 2097152) (hbytes : bytes ≤ 1000)
  (h : ∀ v' w', Zae S size e (fun y => F y ∨ G y ∨ y = w.heap.size) w' (l ++ [a]) v' → Zg (fun y => ¬ F y) w w' → Below 0 w w' → wpList P ops Q rest (ac.put o.dst v') w') : wpList P ops Q (o :: rest) ac w := by
 refine wpList_plain hgd fun _ hK => ?_;obtain ⟨v', w', hr, h2, h3, h4⟩ := Zi4 (P := P) w hE t o.type e i z bytes ht hi hz hsize hby hzs hrow ad c a cs hnews hone hel hFG hm hbytes;unfold Oper.wp execOp;simp only [ho, resolve, invoke, builtin, Sem.run_bind, Sem.run_pure, Result.andThen_ok, List.map_toArray, List.map_cons, List.map_nil, hs, hx, hr];exact hK _ _ (h v' w' h2 h3 h4)
end
end Go.Proofs.YtpmhelkiicigfaaGreatDoor
namespace Go.Proofs.YtpmhelkiicigfaaGreatDoor
/-- What a value that stands by itself is. -/
def Zl (v : Ze) : Bool :=
 if v.kind = 0 then (v.text.toList == []) && (v.set_.low == 0 && v.set_.high == 0) && (v.aH == 0) && (v.index == 0)
 else if v.kind = 1 then (v.text.toList == []) && (v.set_.low == 0 && v.set_.high == 0) && (v.index == 0) && decide (-999999999999 ≤ v.aH) && decide (v.aH ≤ 999999999999)
 else if v.kind = 2 then (v.set_.low == 0 && v.set_.high == 0) && (v.aH == 0) && (v.index == 0) && decide ((v.text.size : Int) ≤ 120)
 else if v.kind = 3 then (v.text.toList == []) && (v.aH == 0) && (v.index == 0)
 else if v.kind = 13 ∨ v.kind = 15 ∨ v.kind = 16 then (v.text.toList == []) && (v.set_.low == 0 && v.set_.high == 0) && decide (0 ≤ v.aH) && decide (0 ≤ v.index)
 else if v.kind = 14 then (v.text.toList == []) && (v.set_.low == 0 && v.set_.high == 0) && (v.aH == 0) && decide (0 ≤ v.index)
 else if v.kind = 18 then (v.text.toList == []) && (v.set_.low == 0 && v.set_.high == 0) && (v.aH == 0) && (v.index == 1 || v.index == 2)
 else if 4 ≤ v.kind ∧ v.kind ≤ 20 then (v.text.toList == []) && (v.set_.low == 0 && v.set_.high == 0) && (v.index == 0) && decide (0 ≤ v.aH)
 else false
theorem Zn {t : ByteArray} (h : t.toList = []) : t.size = 0 := by
 rw [ByteArray.toList_eq] at h;show t.data.size = 0;rw [← Array.length_toList, h]; rfl
end Go.Proofs.YtpmhelkiicigfaaGreatDoor
namespace Go.Proofs.YtpmhelkiicigfaaGreatDoor
open Go.RowKit
/-- The Store r lies in the block B. -/
structure Z1 (F : Nat → Prop) (w : World) (B : Nat) (r : Zf) (cs : List Value) : Prop where
 blk : w.heap[B]? = some (.cells cs.toArray 30 (0, 0))
 el : Zb1 F w r cs
theorem Z1.later {F : Nat → Prop} {w x : World} {B : Nat} {r : Zf} {cs : List Value} (h : Z1 F w B r cs) (hl : Za w x) : Z1 F x B r cs :=
 ⟨(hl.block B (Zb h.blk)).trans h.blk, Zy.keep h.el (fun _ h => h) (Zg.later hl)⟩
theorem Z1.lt {F : Nat → Prop} {w : World} {B : Nat} {r : Zf} {cs : List Value} (h : Z1 F w B r cs) : B < w.heap.size := Zb h.blk
theorem Z1.names {F : Nat → Prop} {w : World} {B : Nat} {r : Zf} {cs : List Value} (h : Z1 F w B r cs) : ∃ A c, w.cell? ⟨B, 0, none⟩ = some (.slice A r.names.length c) ∧ r.names.length ≤ c ∧ c ≤ maxLen ∧ Zp Zb0 1 F w r.names (.slice A r.names.length c) := by
 obtain ⟨aL, aM, aN, aO, aP, aQ, aR, rfl, aV, aW, aX, aY, aZ, bA, bB, bD, bE, bF, bG, bH⟩ := h.el;obtain ⟨A, c, rfl, h1, h2, h3⟩ := id aV;refine ⟨A, c, ?_, h1, h2, aV⟩;rw [cell_of_row _ B 0 _ _ _ h.blk]
 rfl
theorem Z1.aB {F : Nat → Prop} {w : World} {B : Nat} {r : Zf} {cs : List Value} (h : Z1 F w B r cs) : ∃ A c, w.cell? ⟨B, 1, none⟩ = some (.slice A r.aB.length c) ∧ r.aB.length ≤ c ∧ c ≤ maxLen ∧ Zp Zb7 3 F w r.aB (.slice A r.aB.length c) := by
 obtain ⟨aL, aM, aN, aO, aP, aQ, aR, rfl, aV, aW, aX, aY, aZ, bA, bB, bD, bE, bF, bG, bH⟩ := h.el;obtain ⟨A, c, rfl, h1, h2, h3⟩ := id aW;refine ⟨A, c, ?_, h1, h2, aW⟩;rw [cell_of_row _ B 1 _ _ _ h.blk]
 rfl
theorem Z1.aA {F : Nat → Prop} {w : World} {B : Nat} {r : Zf} {cs : List Value} (h : Z1 F w B r cs) : ∃ A c, w.cell? ⟨B, 2, none⟩ = some (.slice A r.aA.length c) ∧ r.aA.length ≤ c ∧ c ≤ maxLen ∧ Zp Zcp 5 F w r.aA (.slice A r.aA.length c) := by
 obtain ⟨aL, aM, aN, aO, aP, aQ, aR, rfl, aV, aW, aX, aY, aZ, bA, bB, bD, bE, bF, bG, bH⟩ := h.el;obtain ⟨A, c, rfl, h1, h2, h3⟩ := id aX;refine ⟨A, c, ?_, h1, h2, aX⟩;rw [cell_of_row _ B 2 _ _ _ h.blk]
 rfl
theorem Z1.globals {F : Nat → Prop} {w : World} {B : Nat} {r : Zf} {cs : List Value} (h : Z1 F w B r cs) : ∃ A c, w.cell? ⟨B, 3, none⟩ = some (.slice A r.globals.length c) ∧ r.globals.length ≤ c ∧ c ≤ maxLen ∧ Zp Zd 6 F w r.globals (.slice A r.globals.length c) := by
 obtain ⟨aL, aM, aN, aO, aP, aQ, aR, rfl, aV, aW, aX, aY, aZ, bA, bB, bD, bE, bF, bG, bH⟩ := h.el;obtain ⟨A, c, rfl, h1, h2, h3⟩ := id aY;refine ⟨A, c, ?_, h1, h2, aY⟩;rw [cell_of_row _ B 3 _ _ _ h.blk]
 rfl
theorem Z1.output {F : Nat → Prop} {w : World} {B : Nat} {r : Zf} {cs : List Value} (h : Z1 F w B r cs) : ∃ A c, w.cell? ⟨B, 6, none⟩ = some (.slice A r.output.length c) ∧ r.output.length ≤ c ∧ c ≤ maxLen ∧ Zp Zb0 1 F w r.output (.slice A r.output.length c) := by
 obtain ⟨aL, aM, aN, aO, aP, aQ, aR, rfl, aV, aW, aX, aY, aZ, bA, bB, bD, bE, bF, bG, bH⟩ := h.el;obtain ⟨A, c, rfl, h1, h2, h3⟩ := id bB;refine ⟨A, c, ?_, h1, h2, bB⟩;rw [cell_of_row _ B 6 _ _ _ h.blk]
 rfl
theorem Z1.trace {F : Nat → Prop} {w : World} {B : Nat} {r : Zf} {cs : List Value} (h : Z1 F w B r cs) : ∃ A c, w.cell? ⟨B, 7, none⟩ = some (.slice A r.trace.length c) ∧ r.trace.length ≤ c ∧ c ≤ maxLen ∧ Zp Zb0 1 F w r.trace (.slice A r.trace.length c) := by
 obtain ⟨aL, aM, aN, aO, aP, aQ, aR, rfl, aV, aW, aX, aY, aZ, bA, bB, bD, bE, bF, bG, bH⟩ := h.el;obtain ⟨A, c, rfl, h1, h2, h3⟩ := id bD;refine ⟨A, c, ?_, h1, h2, bD⟩;rw [cell_of_row _ B 7 _ _ _ h.blk]
 rfl
theorem Z1.aE {F : Nat → Prop} {w : World} {B : Nat} {r : Zf} {cs : List Value} (h : Z1 F w B r cs) : ∃ A c, w.cell? ⟨B, 8, none⟩ = some (.slice A r.aE.length c) ∧ r.aE.length ≤ c ∧ c ≤ maxLen ∧ Zp Zch 2 F w r.aE (.slice A r.aE.length c) := by
 obtain ⟨aL, aM, aN, aO, aP, aQ, aR, rfl, aV, aW, aX, aY, aZ, bA, bB, bD, bE, bF, bG, bH⟩ := h.el;obtain ⟨A, c, rfl, h1, h2, h3⟩ := id bE;refine ⟨A, c, ?_, h1, h2, bE⟩;rw [cell_of_row _ B 8 _ _ _ h.blk]
 rfl
theorem Z1.obj {F : Nat → Prop} {w : World} {r : Zf} {A : Option Addr} {c : Nat} (h : Zp Zcp 5 F w r.aA (.slice A r.aA.length c)) {i : Nat} (hi : i < r.aA.length) :
  ∃ b o Ai ci Ak ck, A = some ⟨b, o, none⟩ ∧ b < w.heap.size ∧ w.cell? ⟨b, o + i * 5, none⟩ = some (.int .i64 r.aA[i].kind) ∧ w.cell? ⟨b, o + i * 5 + 1, none⟩ = some (.int .i64 r.aA[i].tag) ∧ w.cell? ⟨b, o + i * 5 + 2, none⟩ = some (.int .i64 r.aA[i].aI) ∧
   w.cell? ⟨b, o + i * 5 + 3, none⟩ = some (.slice Ai r.aA[i].aJ.length ci) ∧ w.cell? ⟨b, o + i * 5 + 4, none⟩ = some (.slice Ak r.aA[i].aK.length ck) ∧
   Zp Zd 6 F w r.aA[i].aJ (.slice Ai r.aA[i].aJ.length ci) ∧ Zp Zd 6 F w r.aA[i].aK (.slice Ak r.aA[i].aK.length ck) ∧ Zs r.aA[i].kind ∧ Zs r.aA[i].tag ∧ Zs r.aA[i].aI := by
 obtain ⟨A', c', e, _, _, hel⟩ := h;cases e;obtain ⟨b, o, cs, rfl, _, hb, hE, hc⟩ := hel i hi;obtain ⟨vi, vk, rfl, h0, h1, h2, h3, h4⟩ := hE;obtain ⟨Ai, ci, rfl, _⟩ := id h3;obtain ⟨Ak, ck, rfl, _⟩ := id h4;exact ⟨b, o, Ai, ci, Ak, ck, rfl, hb, hc 0 _ rfl, hc 1 _ rfl, hc 2 _ rfl, hc 3 _ rfl, hc 4 _ rfl, h3, h4, h0, h1, h2⟩
theorem Zx {a b : Bool} (h : a = b) : Ending.returned (.bool a) = .returned (.bool b) := by rw [h]
/-! ### What it is to be in a Store -/
def Zaq (r : Zf) (n k : Int) : Bool := decide (0 ≤ n) && (match r.aA[n.toNat]? with | some o => o.kind == k | none => false)
theorem Zih {r : Zf} {n k : Int} (h : ¬ 0 ≤ n) : Zaq r n k = false := by unfold Zaq; rw [decide_eq_false h]; rfl
theorem Zda {r : Zf} {n k : Int} (h : ¬ n < r.aA.length) : Zaq r n k = false := by
 unfold Zaq
 by_cases h0 : 0 ≤ n
 ·rw [List.getElem?_eq_none (by omega)]; simp
 ·rw [decide_eq_false h0]; rfl
theorem Zd5 {r : Zf} {i : Nat} {k : Int} (h : i < r.aA.length) : Zaq r (i : Int) k = (r.aA[i].kind == k) := by
 unfold Zaq;rw [Int.toNat_natCast, List.getElem?_eq_getElem h];simp
/-- The aH of aJ of an object. -/
def Zca (r : Zf) (n : Int) : Nat := match r.aA[n.toNat]? with | some o => o.aJ.length | none => 0
theorem Zbm {r : Zf} {i : Nat} (h : i < r.aA.length) : Zca r (i : Int) = r.aA[i].aJ.length := by
 unfold Zca;rw [Int.toNat_natCast, List.getElem?_eq_getElem h]
def Zau (k : Int) : Int :=
 if k = 4 ∨ k = 15 then 2 else if k = 5 then 3 else if k = 6 then 4 else if k = 7 ∨ k = 16 then 5 else if k = 11 then 6 else if k = 12 then 7 else if k = 13 ∨ k = 19 then 1 else if k = 17 then 8 else if k = 20 then 9 else 0
def Zaz (r : Zf) (v : Ze) : Bool :=
 if Zau v.kind ≠ 0 then Zaq r v.aH (Zau v.kind) && (if v.kind = 13 ∨ v.kind = 16 then decide (v.index < (Zca r v.aH : Int)) else true)
 else if v.kind = 8 then decide (v.aH < (r.names.length : Int)) else if v.kind = 9 then decide (v.aH ≤ 54) else if v.kind = 10 then decide (v.aH < (r.aB.length : Int))
 else if v.kind = 14 then decide (v.index < (r.globals.length : Int)) else true
def Zi (r : Zf) (v : Ze) : Bool := Zl v && Zaz r v
def Zaw (r : Zf) (v : Ze) : Bool := decide (v.kind ≤ 12) && Zi r v
theorem Zgz {v : Ze} (h : Zl v = true) : 0 ≤ v.kind ∧ v.kind ≤ 20 := by
 unfold Zl at h
 (repeat' split at h) <;> first | omega | cases h
theorem Zdt {v : Ze} (h : Zl v = true) (hk : Zau v.kind ≠ 0 ∨ v.kind = 8 ∨ v.kind = 9 ∨ v.kind = 10) : 0 ≤ v.aH := by
 unfold Zau at hk;unfold Zl at h
 (repeat' split at h) <;> first | (simp at h; omega) | cases h | skip
theorem Zii {v : Ze} (h : Zl v = true) : 0 ≤ v.index := by
 unfold Zl at h
 (repeat' split at h) <;> first | (simp at h; omega) | cases h
def Zbi (x : UInt8) : Bool := decide (48 ≤ x.toNat) && decide (x.toNat ≤ 57)
def Za5 (x : UInt8) : Bool := (decide (97 ≤ x.toNat) && decide (x.toNat ≤ 122)) || (decide (65 ≤ x.toNat) && decide (x.toNat ≤ 90)) || decide (x.toNat = 95)
theorem Zhc (x : UInt8) (c : Int) (hc : (x.toNat : Int) = c) (w : World) : Calls Tryz.prog 151 #[.int .u8 c] w fun e w' => e = .returned (.bool (Zbi x)) ∧ w' = w := by
 have hb : 0 ≤ c ∧ c < 256 := by have := x.toNat_lt; omega
 obtain ⟨hb0, hb1⟩ := hb;obtain ⟨R, hR⟩ : ∃ R, Zbi x = R := ⟨_, rfl⟩;rw [hR];have HR := zh hR;have HC := zh hc;clear hR hc;have hcase : (c < 48) ∨ (48 ≤ c ∧ c ≤ 57) ∨ (57 < c) := by omega
 rcases hcase with h | h | h
 ·have hR0 : R = false := by rw [← HR.o]; have := HC.o; unfold Zbi; simp; omega
  subst hR0;have : decide ((48 : Int) ≤ c) = false := decide_eq_false (by omega);have : decide (c ≤ (57 : Int)) = true := decide_eq_true (by omega);clear HC HR;go_enter Tryz.func151, Tryz.ntmps151;go_wp2_with fail;go_ret;exact ⟨rfl, rfl⟩
 ·have hR0 : R = true := by rw [← HR.o]; have := HC.o; unfold Zbi; simp; omega
  subst hR0;have : decide ((48 : Int) ≤ c) = true := decide_eq_true (by omega);have : decide (c ≤ (57 : Int)) = true := decide_eq_true (by omega);clear HC HR;go_enter Tryz.func151, Tryz.ntmps151;go_wp2_with fail;go_ret;exact ⟨rfl, rfl⟩
 ·have hR0 : R = false := by rw [← HR.o]; have := HC.o; unfold Zbi; simp; omega
  subst hR0;have : decide ((48 : Int) ≤ c) = true := decide_eq_true (by omega);have : decide (c ≤ (57 : Int)) = false := decide_eq_false (by omega);clear HC HR;go_enter Tryz.func151, Tryz.ntmps151;go_wp2_with fail;go_ret;exact ⟨rfl, rfl⟩
theorem Zkv (x : UInt8) (c : Int) (hc : (x.toNat : Int) = c) (w : World) : Calls Tryz.prog 147 #[.int .u8 c] w fun e w' => e = .returned (.bool (Zbi x)) ∧ w' = w := by
 have hb : 0 ≤ c ∧ c < 256 := by have := x.toNat_lt; omega
 obtain ⟨hb0, hb1⟩ := hb;obtain ⟨R, hR⟩ : ∃ R, Zbi x = R := ⟨_, rfl⟩;rw [hR];have HR := zh hR;have HC := zh hc;clear hR hc;have hcase : (c < 48) ∨ (48 ≤ c ∧ c ≤ 57) ∨ (57 < c) := by omega
 rcases hcase with h | h | h
 ·have hR0 : R = false := by rw [← HR.o]; have := HC.o; unfold Zbi; simp; omega
  subst hR0;have : decide ((48 : Int) ≤ c) = false := decide_eq_false (by omega);have : decide (c ≤ (57 : Int)) = true := decide_eq_true (by omega);clear HC HR;go_enter Tryz.func147, Tryz.ntmps147;go_wp2_with fail;go_ret;exact ⟨rfl, rfl⟩
 ·have hR0 : R = true := by rw [← HR.o]; have := HC.o; unfold Zbi; simp; omega
  subst hR0;have : decide ((48 : Int) ≤ c) = true := decide_eq_true (by omega);have : decide (c ≤ (57 : Int)) = true := decide_eq_true (by omega);clear HC HR;go_enter Tryz.func147, Tryz.ntmps147;go_wp2_with fail;go_ret;exact ⟨rfl, rfl⟩
 ·have hR0 : R = false := by rw [← HR.o]; have := HC.o; unfold Zbi; simp; omega
  subst hR0;have : decide ((48 : Int) ≤ c) = true := decide_eq_true (by omega);have : decide (c ≤ (57 : Int)) = false := decide_eq_false (by omega);clear HC HR;go_enter Tryz.func147, Tryz.ntmps147;go_wp2_with fail;go_ret;exact ⟨rfl, rfl⟩
theorem Zj0 (x : UInt8) (c : Int) (hc : (x.toNat : Int) = c) (w : World) : Calls Tryz.prog 153 #[.int .u8 c] w fun e w' => e = .returned (.bool (Za5 x)) ∧ w' = w := by
 have hb : 0 ≤ c ∧ c < 256 := by have := x.toNat_lt; omega
 obtain ⟨hb0, hb1⟩ := hb;obtain ⟨R, hR⟩ : ∃ R, Za5 x = R := ⟨_, rfl⟩;rw [hR];have HR := zh hR;have HC := zh hc;clear hR hc;have hcase : (c < 65) ∨ (65 ≤ c ∧ c ≤ 90) ∨ (90 < c ∧ c < 95) ∨ (c = 95) ∨ (c = 96) ∨ (97 ≤ c ∧ c ≤ 122) ∨ (122 < c) := by omega
 rcases hcase with h | h | h | h | h | h | h
 ·have hR0 : R = false := by rw [← HR.o]; have := HC.o; unfold Za5; simp; omega
  subst hR0;have : decide ((97 : Int) ≤ c) = false := decide_eq_false (by omega);have : decide (c ≤ (122 : Int)) = true := decide_eq_true (by omega);have : decide ((65 : Int) ≤ c) = false := decide_eq_false (by omega);have : decide (c ≤ (90 : Int)) = true := decide_eq_true (by omega);have : (c == (95 : Int)) = false := by rw [nH]; omega
  clear HC HR;go_enter Tryz.func153, Tryz.ntmps153;go_wp2_with fail;go_ret;exact ⟨rfl, rfl⟩
 ·have hR0 : R = true := by rw [← HR.o]; have := HC.o; unfold Za5; simp; omega
  subst hR0;have : decide ((97 : Int) ≤ c) = false := decide_eq_false (by omega);have : decide (c ≤ (122 : Int)) = true := decide_eq_true (by omega);have : decide ((65 : Int) ≤ c) = true := decide_eq_true (by omega);have : decide (c ≤ (90 : Int)) = true := decide_eq_true (by omega);have : (c == (95 : Int)) = false := by rw [nH]; omega
  clear HC HR;go_enter Tryz.func153, Tryz.ntmps153;go_wp2_with fail;go_ret;exact ⟨rfl, rfl⟩
 ·have hR0 : R = false := by rw [← HR.o]; have := HC.o; unfold Za5; simp; omega
  subst hR0;have : decide ((97 : Int) ≤ c) = false := decide_eq_false (by omega);have : decide (c ≤ (122 : Int)) = true := decide_eq_true (by omega);have : decide ((65 : Int) ≤ c) = true := decide_eq_true (by omega);have : decide (c ≤ (90 : Int)) = false := decide_eq_false (by omega);have : (c == (95 : Int)) = false := by rw [nH]; omega
  clear HC HR;go_enter Tryz.func153, Tryz.ntmps153;go_wp2_with fail;go_ret;exact ⟨rfl, rfl⟩
 ·have hR0 : R = true := by rw [← HR.o]; have := HC.o; unfold Za5; simp; omega
  subst hR0;have : decide ((97 : Int) ≤ c) = false := decide_eq_false (by omega);have : decide (c ≤ (122 : Int)) = true := decide_eq_true (by omega);have : decide ((65 : Int) ≤ c) = true := decide_eq_true (by omega);have : decide (c ≤ (90 : Int)) = false := decide_eq_false (by omega);have : (c == (95 : Int)) = true := by rw [beq_iff_eq]; omega
  clear HC HR;go_enter Tryz.func153, Tryz.ntmps153;go_wp2_with fail;go_ret;exact ⟨rfl, rfl⟩
 ·have hR0 : R = false := by rw [← HR.o]; have := HC.o; unfold Za5; simp; omega
  subst hR0;have : decide ((97 : Int) ≤ c) = false := decide_eq_false (by omega);have : decide (c ≤ (122 : Int)) = true := decide_eq_true (by omega);have : decide ((65 : Int) ≤ c) = true := decide_eq_true (by omega);have : decide (c ≤ (90 : Int)) = false := decide_eq_false (by omega);have : (c == (95 : Int)) = false := by rw [nH]; omega
  clear HC HR;go_enter Tryz.func153, Tryz.ntmps153;go_wp2_with fail;go_ret;exact ⟨rfl, rfl⟩
 ·have hR0 : R = true := by rw [← HR.o]; have := HC.o; unfold Za5; simp; omega
  subst hR0;have : decide ((97 : Int) ≤ c) = true := decide_eq_true (by omega);have : decide (c ≤ (122 : Int)) = true := decide_eq_true (by omega);have : decide ((65 : Int) ≤ c) = true := decide_eq_true (by omega);have : decide (c ≤ (90 : Int)) = false := decide_eq_false (by omega);have : (c == (95 : Int)) = false := by rw [nH]; omega
  clear HC HR;go_enter Tryz.func153, Tryz.ntmps153;go_wp2_with fail;go_ret;exact ⟨rfl, rfl⟩
 ·have hR0 : R = false := by rw [← HR.o]; have := HC.o; unfold Za5; simp; omega
  subst hR0;have : decide ((97 : Int) ≤ c) = true := decide_eq_true (by omega);have : decide (c ≤ (122 : Int)) = false := decide_eq_false (by omega);have : decide ((65 : Int) ≤ c) = true := decide_eq_true (by omega);have : decide (c ≤ (90 : Int)) = false := decide_eq_false (by omega);have : (c == (95 : Int)) = false := by rw [nH]; omega
  clear HC HR;go_enter Tryz.func153, Tryz.ntmps153;go_wp2_with fail;go_ret;exact ⟨rfl, rfl⟩
theorem Zf6 (x : UInt8) (c : Int) (hc : (x.toNat : Int) = c) (w : World) : Calls Tryz.prog 145 #[.int .u8 c] w fun e w' => e = .returned (.bool (Za5 x)) ∧ w' = w := by
 have hb : 0 ≤ c ∧ c < 256 := by have := x.toNat_lt; omega
 obtain ⟨hb0, hb1⟩ := hb;obtain ⟨R, hR⟩ : ∃ R, Za5 x = R := ⟨_, rfl⟩;rw [hR];have HR := zh hR;have HC := zh hc;clear hR hc;have hcase : (c < 65) ∨ (65 ≤ c ∧ c ≤ 90) ∨ (90 < c ∧ c < 95) ∨ (c = 95) ∨ (c = 96) ∨ (97 ≤ c ∧ c ≤ 122) ∨ (122 < c) := by omega
 rcases hcase with h | h | h | h | h | h | h
 ·have hR0 : R = false := by rw [← HR.o]; have := HC.o; unfold Za5; simp; omega
  subst hR0;have : decide ((97 : Int) ≤ c) = false := decide_eq_false (by omega);have : decide (c ≤ (122 : Int)) = true := decide_eq_true (by omega);have : decide ((65 : Int) ≤ c) = false := decide_eq_false (by omega);have : decide (c ≤ (90 : Int)) = true := decide_eq_true (by omega);have : (c == (95 : Int)) = false := by rw [nH]; omega
  clear HC HR;go_enter Tryz.func145, Tryz.ntmps145;go_wp2_with fail;go_ret;exact ⟨rfl, rfl⟩
 ·have hR0 : R = true := by rw [← HR.o]; have := HC.o; unfold Za5; simp; omega
  subst hR0;have : decide ((97 : Int) ≤ c) = false := decide_eq_false (by omega);have : decide (c ≤ (122 : Int)) = true := decide_eq_true (by omega);have : decide ((65 : Int) ≤ c) = true := decide_eq_true (by omega);have : decide (c ≤ (90 : Int)) = true := decide_eq_true (by omega);have : (c == (95 : Int)) = false := by rw [nH]; omega
  clear HC HR;go_enter Tryz.func145, Tryz.ntmps145;go_wp2_with fail;go_ret;exact ⟨rfl, rfl⟩
 ·have hR0 : R = false := by rw [← HR.o]; have := HC.o; unfold Za5; simp; omega
  subst hR0;have : decide ((97 : Int) ≤ c) = false := decide_eq_false (by omega);have : decide (c ≤ (122 : Int)) = true := decide_eq_true (by omega);have : decide ((65 : Int) ≤ c) = true := decide_eq_true (by omega);have : decide (c ≤ (90 : Int)) = false := decide_eq_false (by omega);have : (c == (95 : Int)) = false := by rw [nH]; omega
  clear HC HR;go_enter Tryz.func145, Tryz.ntmps145;go_wp2_with fail;go_ret;exact ⟨rfl, rfl⟩
 ·have hR0 : R = true := by rw [← HR.o]; have := HC.o; unfold Za5; simp; omega
  subst hR0;have : decide ((97 : Int) ≤ c) = false := decide_eq_false (by omega);have : decide (c ≤ (122 : Int)) = true := decide_eq_true (by omega);have : decide ((65 : Int) ≤ c) = true := decide_eq_true (by omega);have : decide (c ≤ (90 : Int)) = false := decide_eq_false (by omega);have : (c == (95 : Int)) = true := by rw [beq_iff_eq]; omega
  clear HC HR;go_enter Tryz.func145, Tryz.ntmps145;go_wp2_with fail;go_ret;exact ⟨rfl, rfl⟩
 ·have hR0 : R = false := by rw [← HR.o]; have := HC.o; unfold Za5; simp; omega
  subst hR0;have : decide ((97 : Int) ≤ c) = false := decide_eq_false (by omega);have : decide (c ≤ (122 : Int)) = true := decide_eq_true (by omega);have : decide ((65 : Int) ≤ c) = true := decide_eq_true (by omega);have : decide (c ≤ (90 : Int)) = false := decide_eq_false (by omega);have : (c == (95 : Int)) = false := by rw [nH]; omega
  clear HC HR;go_enter Tryz.func145, Tryz.ntmps145;go_wp2_with fail;go_ret;exact ⟨rfl, rfl⟩
 ·have hR0 : R = true := by rw [← HR.o]; have := HC.o; unfold Za5; simp; omega
  subst hR0;have : decide ((97 : Int) ≤ c) = true := decide_eq_true (by omega);have : decide (c ≤ (122 : Int)) = true := decide_eq_true (by omega);have : decide ((65 : Int) ≤ c) = true := decide_eq_true (by omega);have : decide (c ≤ (90 : Int)) = false := decide_eq_false (by omega);have : (c == (95 : Int)) = false := by rw [nH]; omega
  clear HC HR;go_enter Tryz.func145, Tryz.ntmps145;go_wp2_with fail;go_ret;exact ⟨rfl, rfl⟩
 ·have hR0 : R = false := by rw [← HR.o]; have := HC.o; unfold Za5; simp; omega
  subst hR0;have : decide ((97 : Int) ≤ c) = true := decide_eq_true (by omega);have : decide (c ≤ (122 : Int)) = false := decide_eq_false (by omega);have : decide ((65 : Int) ≤ c) = true := decide_eq_true (by omega);have : decide (c ≤ (90 : Int)) = false := decide_eq_false (by omega);have : (c == (95 : Int)) = false := by rw [nH]; omega
  clear HC HR;go_enter Tryz.func145, Tryz.ntmps145;go_wp2_with fail;go_ret;exact ⟨rfl, rfl⟩
/-- The library's table of spaces. -/
def Spc (w : World) : Prop := Lib.TabIs Tryz.prog w "strings.asciiSpace" .u8 Lib.asciiSpaceTab
theorem Zmm : Tryz.prog.globalNamed "strings.asciiSpace" = some 0 := by kernel_rfl
theorem Spc.below {w w' : World} (h : Spc w) (hb : Below w.heap.size w w') : Spc w' :=
 var?_below hb Zmm (World.block_lt_of_cell? w _ (h.cell Zmm 0 (by decide +kernel))) h
def Zh7 (l : List (List UInt8)) : Obj := .cells (l.map fun l => Value.string ⟨l.toArray⟩).toArray 9
/-- Texts out of bytes. -/
def Zh3 (l : List (List UInt8)) : List ByteArray := l.map fun x => ⟨x.toArray⟩
theorem Zkw (w : World) (l : List (List UInt8)) (h1 : l.length ≤ 1000) (h2 : ∀ x ∈ l, x.length ≤ 1000) : Zp Zb0 1 (fun b => w.heap.size ≤ b) (w.alloc (Zh7 l)) (Zh3 l) (.slice (some ⟨w.heap.size, 0, none⟩) l.length l.length) := by
 refine ⟨some ⟨w.heap.size, 0, none⟩, l.length, by simp [Zh3], by simp [Zh3], by unfold maxLen; omega, fun i hi => ?_⟩;have hi' : i < l.length := by simpa [Zh3] using hi
 refine ⟨w.heap.size, 0, [.string (Zh3 l)[i]], rfl, Nat.le_refl _, by simp, ⟨rfl, ?_⟩, fun j x hj => ?_⟩
 ·have := h2 l[i] (List.getElem_mem hi');simp only [Zh3, List.getElem_map];show l[i].length ≤ maxLen;unfold maxLen
  omega
 ·cases j with
  | zero =>
   obtain rfl : Value.string (Zh3 l)[i] = x := by simpa using hj
   rw [cell_of_row _ w.heap.size _ _ _ _ (heap_alloc_new w (Zh7 l))];simp [Zh3, hi']
  | succ j => simp at hj
theorem Zjj (l : List (List UInt8)) (s : ByteArray) : Zc8 (Zh3 l) s = decide (bl s ∈ l) := by
 unfold Zc8 Zh3;rw [List.map_map];have : (bl ∘ fun x : List UInt8 => (⟨x.toArray⟩ : ByteArray)) = id := by funext x; rfl
 rw [this, List.map_id]
def Zct : List (List UInt8) := [[112, 114, 111, 99, 101, 100, 117, 114, 101], [101, 110, 100], [103, 108, 111, 98, 97, 108], [108, 111, 99, 97, 108], [114, 101, 99, 111, 114, 100], [105, 102], [116, 104, 101, 110], [101, 108, 115, 101], [119, 104, 105, 108, 101], [117, 110, 116, 105, 108], [101, 118, 101, 114, 121], [100, 111], [114, 101, 112, 101, 97, 116], [99, 97, 115, 101], [111, 102], [100, 101, 102, 97, 117, 108, 116], [114, 101, 116, 117, 114, 110], [115, 117, 115, 112, 101, 110, 100], [102, 97, 105, 108], [98, 114, 101, 97, 107], [110, 101, 120, 116], [99, 114, 101, 97, 116, 101], [116, 111], [98, 121], [110, 111, 116], [100, 101, 102, 101, 114]]
theorem Zi5 : Lib.fields (ByteArray.mk #[112, 114, 111, 99, 101, 100, 117, 114, 101, 32, 101, 110, 100, 32, 103, 108, 111, 98, 97, 108, 32, 108, 111, 99, 97, 108, 32, 114, 101, 99, 111, 114, 100, 32, 105, 102, 32, 116, 104, 101, 110, 32, 101, 108, 115, 101, 32, 119, 104, 105, 108, 101, 32, 117, 110, 116, 105, 108, 32, 101, 118, 101, 114, 121, 32, 100, 111, 32, 114, 101, 112, 101, 97, 116, 32, 99, 97, 115, 101, 32, 111, 102, 32, 100, 101, 102, 97, 117, 108, 116, 32, 114, 101, 116, 117, 114, 110, 32, 115, 117, 115, 112, 101, 110, 100, 32, 102, 97, 105, 108, 32, 98, 114, 101, 97, 107, 32, 110, 101, 120, 116, 32, 99, 114, 101, 97, 116, 101, 32, 116, 111, 32, 98, 121, 32, 110, 111, 116, 32, 100, 101, 102, 101, 114]).data.toList = Zct := by decide +kernel
theorem Zi6 : ∀ (j : Nat) b, (ByteArray.mk #[112, 114, 111, 99, 101, 100, 117, 114, 101, 32, 101, 110, 100, 32, 103, 108, 111, 98, 97, 108, 32, 108, 111, 99, 97, 108, 32, 114, 101, 99, 111, 114, 100, 32, 105, 102, 32, 116, 104, 101, 110, 32, 101, 108, 115, 101, 32, 119, 104, 105, 108, 101, 32, 117, 110, 116, 105, 108, 32, 101, 118, 101, 114, 121, 32, 100, 111, 32, 114, 101, 112, 101, 97, 116, 32, 99, 97, 115, 101, 32, 111, 102, 32, 100, 101, 102, 97, 117, 108, 116, 32, 114, 101, 116, 117, 114, 110, 32, 115, 117, 115, 112, 101, 110, 100, 32, 102, 97, 105, 108, 32, 98, 114, 101, 97, 107, 32, 110, 101, 120, 116, 32, 99, 114, 101, 97, 116, 101, 32, 116, 111, 32, 98, 121, 32, 110, 111, 116, 32, 100, 101, 102, 101, 114]).data.toList[j]? = some b → b.toNat < 128 := by
 intro j b hb;have h : ∀ c ∈ (ByteArray.mk #[112, 114, 111, 99, 101, 100, 117, 114, 101, 32, 101, 110, 100, 32, 103, 108, 111, 98, 97, 108, 32, 108, 111, 99, 97, 108, 32, 114, 101, 99, 111, 114, 100, 32, 105, 102, 32, 116, 104, 101, 110, 32, 101, 108, 115, 101, 32, 119, 104, 105, 108, 101, 32, 117, 110, 116, 105, 108, 32, 101, 118, 101, 114, 121, 32, 100, 111, 32, 114, 101, 112, 101, 97, 116, 32, 99, 97, 115, 101, 32, 111, 102, 32, 100, 101, 102, 97, 117, 108, 116, 32, 114, 101, 116, 117, 114, 110, 32, 115, 117, 115, 112, 101, 110, 100, 32, 102, 97, 105, 108, 32, 98, 114, 101, 97, 107, 32, 110, 101, 120, 116, 32, 99, 114, 101, 97, 116, 101, 32, 116, 111, 32, 98, 121, 32, 110, 111, 116, 32, 100, 101, 102, 101, 114]).data.toList, c.toNat < 128 := by decide +kernel
 exact h b (List.mem_of_getElem? hb)
theorem Zij (w : World) (ht : Spc w) : Calls Tryz.prog 175 #[.string ⟨#[112, 114, 111, 99, 101, 100, 117, 114, 101, 32, 101, 110, 100, 32, 103, 108, 111, 98, 97, 108, 32, 108, 111, 99, 97, 108, 32, 114, 101, 99, 111, 114, 100, 32, 105, 102, 32, 116, 104, 101, 110, 32, 101, 108, 115, 101, 32, 119, 104, 105, 108, 101, 32, 117, 110, 116, 105, 108, 32, 101, 118, 101, 114, 121, 32, 100, 111, 32, 114, 101, 112, 101, 97, 116, 32, 99, 97, 115, 101, 32, 111, 102, 32, 100, 101, 102, 97, 117, 108, 116, 32, 114, 101, 116, 117, 114, 110, 32, 115, 117, 115, 112, 101, 110, 100, 32, 102, 97, 105, 108, 32, 98, 114, 101, 97, 107, 32, 110, 101, 120, 116, 32, 99, 114, 101, 97, 116, 101, 32, 116, 111, 32, 98, 121, 32, 110, 111, 116, 32, 100, 101, 102, 101, 114]⟩] w fun e w' => e = .returned (.slice (some ⟨w.heap.size, 0, none⟩) 26 26) ∧ w' = w.alloc (Zh7 Zct) := by
 have h := Tryz.strings_Fields_laid ⟨#[112, 114, 111, 99, 101, 100, 117, 114, 101, 32, 101, 110, 100, 32, 103, 108, 111, 98, 97, 108, 32, 108, 111, 99, 97, 108, 32, 114, 101, 99, 111, 114, 100, 32, 105, 102, 32, 116, 104, 101, 110, 32, 101, 108, 115, 101, 32, 119, 104, 105, 108, 101, 32, 117, 110, 116, 105, 108, 32, 101, 118, 101, 114, 121, 32, 100, 111, 32, 114, 101, 112, 101, 97, 116, 32, 99, 97, 115, 101, 32, 111, 102, 32, 100, 101, 102, 97, 117, 108, 116, 32, 114, 101, 116, 117, 114, 110, 32, 115, 117, 115, 112, 101, 110, 100, 32, 102, 97, 105, 108, 32, 98, 114, 101, 97, 107, 32, 110, 101, 120, 116, 32, 99, 114, 101, 97, 116, 101, 32, 116, 111, 32, 98, 121, 32, 110, 111, 116, 32, 100, 101, 102, 101, 114]⟩ w (by decide +kernel) Zi6 ht;rw [Zi5] at h;exact h
/-- Whether it is a reserved word. -/
def Zf7 (s : ByteArray) : Bool := decide (bl s ∈ Zct)
theorem Zf8 (w : World) (ht : Spc w) : Calls Tryz.prog 171 #[] w fun e w' => e = .returned (.slice (some ⟨w.heap.size, 0, none⟩) 26 26) ∧ w' = w.alloc (Zh7 Zct) := by
 go_enter Tryz.func171, Tryz.ntmps171;go_wp2_with fail;refine (Zij w ht).mono ?_;rintro e w' ⟨rfl, rfl⟩;go_wp2_with fail;go_ret;exact ⟨rfl, rfl⟩
theorem Zfr (s : ByteArray) (w : World) (ht : Spc w) : Calls Tryz.prog 152 #[.string s] w fun e w' => e = .returned (.bool (Zf7 s)) ∧ Below w.heap.size w w' := by
 have HW := zh (Zf8 w ht);have hro := Zf4 (Zh3 Zct) _ s _ _ (Zkw w Zct (by decide) (by decide));rw [Zjj] at hro;have HC := zh hro;clear hro;go_enter Tryz.func152, Tryz.ntmps152;go_wp2_with fail;refine HW.o.mono ?_;rintro e w' ⟨rfl, hw⟩;subst hw;go_wp2_with fail;refine HC.o.mono ?_;rintro e w' ⟨rfl, hw⟩;subst hw;go_wp2_with fail;go_ret;exact ⟨rfl, (Below.refl _ _).alloc (Nat.le_refl _) _⟩
theorem Zfs (s : ByteArray) (w : World) : Calls Tryz.prog 146 #[.string s] w fun e w' => e = .returned (.bool (Zf7 s)) ∧ Below w.heap.size w w' := by
 have hro := Zn7 (Zh3 Zct) _ s _ _ (Zkw w Zct (by decide) (by decide));rw [Zjj] at hro;have HC := zh hro;clear hro;go_enter Tryz.func146, Tryz.ntmps146;go_wp2_with fail;refine HC.o.mono ?_;rintro e w' ⟨rfl, hw⟩;subst hw;go_wp2_with fail;go_ret;exact ⟨rfl, (Below.refl _ _).alloc (Nat.le_refl _) _⟩
theorem Zkx {x : UInt8} (h : Za5 x = true) : Zbi x = false := by
 unfold Za5 at h;unfold Zbi;simp at h ⊢
 omega
/-- Whether it is a name. -/
def Zbj (s : ByteArray) : Bool := decide (1 ≤ s.size) && decide (s.size ≤ 12) && !((bl s).head?.any Zbi) && !Zf7 s && (bl s).all fun x => Za5 x || Zbi x
theorem Zj1 (s : ByteArray) : (bl s).length = s.size := by simp [bl]
theorem Zpt (s : ByteArray) (j : Nat) (h : j < s.size) : (bl s)[j]'(by rw [Zj1]; exact h) = s[j] := rfl
theorem Zik {s : ByteArray} (hp : 0 < s.size) : (bl s).head? = some s[0] := by
 rw [List.head?_eq_getElem?, List.getElem?_eq_getElem (by rw [Zj1]; exact hp), Zpt]
theorem Zil {s : ByteArray} (h : s.size < 1) : Zbj s = false := by
 unfold Zbj; rw [show decide (1 ≤ s.size) = false from decide_eq_false (by omega)]; rfl
theorem Zjk {s : ByteArray} (h : 12 < s.size) : Zbj s = false := by
 unfold Zbj; rw [show decide (s.size ≤ 12) = false from decide_eq_false (by omega), Bool.and_false]; rfl
theorem Zky {s : ByteArray} (hp : 0 < s.size) (h : Zbi s[0] = true) : Zbj s = false := by
 unfold Zbj; rw [Zik hp]; simp [h]
theorem Zkz {s : ByteArray} (h : Zf7 s = true) : Zbj s = false := by
 unfold Zbj; rw [h]; simp
theorem Zj2 {s : ByteArray} {j : Nat} (hj : j < s.size) (h : (Za5 s[j] || Zbi s[j]) = false) : Zbj s = false := by
 unfold Zbj;have : (bl s).all (fun x => Za5 x || Zbi x) = false := by
  rw [List.all_eq_false];exact ⟨s[j], by rw [← Zpt s j hj]; exact List.getElem_mem _, by rw [h]; decide⟩
 rw [this, Bool.and_false]
theorem Zmn {s : ByteArray} (hp : 0 < s.size) (h : Za5 s[0] = false) : Zbj s = false := by
 cases hd : Zbi s[0] with
 | true => exact Zky hp hd
 | false => exact Zj2 hp (by rw [h, hd]; rfl)
theorem Zk0 {s : ByteArray} (h1 : 1 ≤ s.size) (h2 : s.size ≤ 12) (h3 : (∃ hp : 0 < s.size, Zbi s[0] = false) ∨ (∃ hp : 0 < s.size, Za5 s[0] = true)) (h4 : Zf7 s = false) (h5 : ∀ k (h : k < s.size), (Za5 s[k] || Zbi s[k]) = true) : Zbj s = true := by
 have hd : Zbi s[0] = false := by
  rcases h3 with ⟨_, h⟩ | ⟨_, h⟩
  ·exact h
  ·exact Zkx h
 unfold Zbj;rw [Zik h1, h4];simp only [Option.any_some, hd, h1, h2, decide_true, Bool.not_false, Bool.and_true, Bool.true_and];rw [List.all_eq_true];intro x hx;obtain ⟨k, hk, rfl⟩ := List.getElem_of_mem hx;rw [Zj1] at hk;rw [Zpt s k hk];exact h5 k hk
theorem Ze0 (s : ByteArray) (w : World) (hs : s.size ≤ maxLen) (ht : Spc w) : Calls Tryz.prog 104 #[.string s] w fun e w' => e = .returned (.bool (Zbj s)) ∧ Below w.heap.size w w' := by
 unfold maxLen at hs;obtain ⟨R, hR⟩ : ∃ R, Zbj s = R := ⟨_, rfl⟩;rw [hR];have HR := zh hR;clear hR;have HX := zh (Zfr s w ht);clear ht
 by_cases h1 : s.size < 1
 ·have hR0 : R = false := by rw [← HR.o, Zil h1]
  have t1 : decide ((s.size : Int) < 1) = true := decide_eq_true (by omega);subst hR0;go_enter Tryz.func104, Tryz.ntmps104;go_wp2_with fail;go_ret;exact ⟨rfl, Below.refl _ _⟩
 have t1 : decide ((s.size : Int) < 1) = false := decide_eq_false (by omega)
 by_cases h12 : 12 < s.size
 ·have hR0 : R = false := by rw [← HR.o, Zjk h12]
  have t2 : decide ((12 : Int) < s.size) = true := decide_eq_true (by omega);subst hR0;go_enter Tryz.func104, Tryz.ntmps104;go_wp2_with fail;go_ret;exact ⟨rfl, Below.refl _ _⟩
 have t2 : decide ((12 : Int) < s.size) = false := decide_eq_false (by omega);have hp : 0 < s.size := by omega
 have hp' : (0 : Int) < s.size := by omega
 obtain ⟨c0, hc0⟩ : ∃ c : Int, (s[0].toNat : Int) = c := ⟨_, rfl⟩;have HF := zh (fun w => Zhc s[0] c0 hc0 w);go_enter Tryz.func104, Tryz.ntmps104;go_wp2_with fail;refine (HF.o _).mono ?_;rintro e w' ⟨rfl, hw⟩;obtain rfl := hw.symm
 by_cases hf : Zbi s[0] = true
 ·have hR0 : R = false := by rw [← HR.o, Zky hp hf]
  rw [hf];subst hR0;go_wp2_with fail;go_ret;exact ⟨rfl, Below.refl _ _⟩
 have hf2 : Zbi s[0] = false := by simpa using hf
 rw [hf2];have HF2 := zh hf2;clear hf hf2 HF;go_wp2_with fail;refine HX.o.mono ?_;rintro e w1 ⟨rfl, hb1⟩
 by_cases hx : Zf7 s = true
 ·have hR0 : R = false := by rw [← HR.o, Zkz hx]
  rw [hx];subst hR0;go_wp2_with fail;go_ret;exact ⟨rfl, hb1⟩
 have hx2 : Zf7 s = false := by simpa using hx
 rw [hx2];have HX2 := zh hx2;clear hx hx2 HX;go_wp2_with fail
 go_loopw [3] (fun i wr => ∃ j : Nat, i = .int .i64 j ∧ j ≤ s.size ∧ Hd (∀ k (h : k < s.size), k < j → (Za5 s[k] || Zbi s[k]) = true) ∧ wr = w1) (fun i _ => s.size - (intOf i).toNat)
 case atStart => exact ⟨0, rfl, Nat.zero_le _, zh (fun k _ h => by omega), rfl⟩
 case round =>
  obtain ⟨j, rfl, hj, HD, hw⟩ := hrel;obtain rfl : w1 = wr := hw.symm
  by_cases hlt : j < s.size
  ·have t3 : decide ((j : Int) < s.size) = true := decide_eq_true (by omega);obtain ⟨c, hc⟩ : ∃ c : Int, (s[j].toNat : Int) = c := ⟨_, rfl⟩;have HL := zh (fun w => Zj0 s[j] c hc w);have HG := zh (fun w => Zhc s[j] c hc w);have HJ := zh (fun h => Zj2 (s := s) hlt h);have HD2 := zh (fun (h : (Za5 s[j] || Zbi s[j]) = true) => show ∀ k (h : k < s.size), k < j + 1 → (Za5 s[k] || Zbi s[k]) = true from fun k hk h1 => by
    rcases Nat.lt_or_ge k j with h2 | h2
    ·exact HD.o k hk h2
    ·obtain rfl : k = j := by omega
     exact h)
   go_wp2_with fail;refine (HL.o _).mono ?_;rintro e w' ⟨rfl, hw⟩;obtain rfl := hw.symm
   by_cases hl : Za5 s[j] = true
   ·rw [hl];have HD3 := zh (HD2.o (by rw [hl]; rfl));clear HD2 HJ HG HL hl;go_wp2_with fail
    go_roundw
    case rel => exact ⟨j + 1, by go_num, by omega, HD3, trivial⟩
    case measure => simp [intOf]; omega
   ·have hl2 : Za5 s[j] = false := by simpa using hl
    rw [hl2];have HL2 := zh hl2;clear hl hl2 HL;go_wp2_with fail;refine (HG.o _).mono ?_;rintro e w' ⟨rfl, hw⟩;obtain rfl := hw.symm
    by_cases hg : Zbi s[j] = true
    ·rw [hg];have HD3 := zh (HD2.o (by rw [hg]; simp));clear HD2 HJ HG hg HL2;go_wp2_with fail
     go_roundw
     case rel => exact ⟨j + 1, by go_num, by omega, HD3, trivial⟩
     case measure => simp [intOf]; omega
    ·have hg2 : Zbi s[j] = false := by simpa using hg
     have hR0 : R = false := by rw [← HR.o, HJ.o (by rw [HL2.o, hg2]; rfl)]
     rw [hg2];subst hR0;clear hg hg2 HG HJ HD2;go_wp2_with fail;go_ret;exact ⟨rfl, hb1⟩
  ·have t3 : decide ((j : Int) < s.size) = false := decide_eq_false (by omega);have hR0 : R = true := by rw [← HR.o, Zk0 (by omega) (by omega) (.inl ⟨hp, HF2.o⟩) HX2.o (fun k hk => HD.o k hk (by omega))]
   subst hR0;go_wp2_with fail;go_ret;exact ⟨rfl, hb1⟩
theorem Ze1 (s : ByteArray) (w : World) (hs : s.size ≤ maxLen) : Calls Tryz.prog 98 #[.string s] w fun e w' => e = .returned (.bool (Zbj s)) ∧ Below w.heap.size w w' := by
 unfold maxLen at hs;obtain ⟨R, hR⟩ : ∃ R, Zbj s = R := ⟨_, rfl⟩;rw [hR];have HR := zh hR;clear hR;have HX := zh (Zfs s w)
 skip
 by_cases h1 : s.size < 1
 ·have hR0 : R = false := by rw [← HR.o, Zil h1]
  have t1 : decide ((s.size : Int) < 1) = true := decide_eq_true (by omega);subst hR0;go_enter Tryz.func98, Tryz.ntmps98;go_wp2_with fail;go_ret;exact ⟨rfl, Below.refl _ _⟩
 have t1 : decide ((s.size : Int) < 1) = false := decide_eq_false (by omega)
 by_cases h12 : 12 < s.size
 ·have hR0 : R = false := by rw [← HR.o, Zjk h12]
  have t2 : decide ((12 : Int) < s.size) = true := decide_eq_true (by omega);subst hR0;go_enter Tryz.func98, Tryz.ntmps98;go_wp2_with fail;go_ret;exact ⟨rfl, Below.refl _ _⟩
 have t2 : decide ((12 : Int) < s.size) = false := decide_eq_false (by omega);have hp : 0 < s.size := by omega
 have hp' : (0 : Int) < s.size := by omega
 obtain ⟨c0, hc0⟩ : ∃ c : Int, (s[0].toNat : Int) = c := ⟨_, rfl⟩;have HF := zh (fun w => Zf6 s[0] c0 hc0 w);go_enter Tryz.func98, Tryz.ntmps98;go_wp2_with fail;refine (HF.o _).mono ?_;rintro e w' ⟨rfl, hw⟩;obtain rfl := hw.symm
 by_cases hf : Za5 s[0] = false
 ·have hR0 : R = false := by rw [← HR.o, Zmn hp hf]
  rw [hf];subst hR0;go_wp2_with fail;go_ret;exact ⟨rfl, Below.refl _ _⟩
 have hf2 : Za5 s[0] = true := by simpa using hf
 rw [hf2];have HF2 := zh hf2;clear hf hf2 HF;go_wp2_with fail;refine HX.o.mono ?_;rintro e w1 ⟨rfl, hb1⟩
 by_cases hx : Zf7 s = true
 ·have hR0 : R = false := by rw [← HR.o, Zkz hx]
  rw [hx];subst hR0;go_wp2_with fail;go_ret;exact ⟨rfl, hb1⟩
 have hx2 : Zf7 s = false := by simpa using hx
 rw [hx2];have HX2 := zh hx2;clear hx hx2 HX;go_wp2_with fail
 go_loopw [3] (fun i wr => ∃ j : Nat, i = .int .i64 j ∧ j ≤ s.size ∧ Hd (∀ k (h : k < s.size), k < j → (Za5 s[k] || Zbi s[k]) = true) ∧ wr = w1) (fun i _ => s.size - (intOf i).toNat)
 case atStart => exact ⟨0, rfl, Nat.zero_le _, zh (fun k _ h => by omega), rfl⟩
 case round =>
  obtain ⟨j, rfl, hj, HD, hw⟩ := hrel;obtain rfl : w1 = wr := hw.symm
  by_cases hlt : j < s.size
  ·have t3 : decide ((j : Int) < s.size) = true := decide_eq_true (by omega);obtain ⟨c, hc⟩ : ∃ c : Int, (s[j].toNat : Int) = c := ⟨_, rfl⟩;have HL := zh (fun w => Zf6 s[j] c hc w);have HG := zh (fun w => Zkv s[j] c hc w);have HJ := zh (fun h => Zj2 (s := s) hlt h);have HD2 := zh (fun (h : (Za5 s[j] || Zbi s[j]) = true) => show ∀ k (h : k < s.size), k < j + 1 → (Za5 s[k] || Zbi s[k]) = true from fun k hk h1 => by
    rcases Nat.lt_or_ge k j with h2 | h2
    ·exact HD.o k hk h2
    ·obtain rfl : k = j := by omega
     exact h)
   go_wp2_with fail;refine (HL.o _).mono ?_;rintro e w' ⟨rfl, hw⟩;obtain rfl := hw.symm
   by_cases hl : Za5 s[j] = true
   ·rw [hl];have HD3 := zh (HD2.o (by rw [hl]; rfl));clear HD2 HJ HG HL hl;go_wp2_with fail
    go_roundw
    case rel => exact ⟨j + 1, by go_num, by omega, HD3, trivial⟩
    case measure => simp [intOf]; omega
   ·have hl2 : Za5 s[j] = false := by simpa using hl
    rw [hl2];have HL2 := zh hl2;clear hl hl2 HL;go_wp2_with fail;refine (HG.o _).mono ?_;rintro e w' ⟨rfl, hw⟩;obtain rfl := hw.symm
    by_cases hg : Zbi s[j] = true
    ·rw [hg];have HD3 := zh (HD2.o (by rw [hg]; simp));clear HD2 HJ HG hg HL2;go_wp2_with fail
     go_roundw
     case rel => exact ⟨j + 1, by go_num, by omega, HD3, trivial⟩
     case measure => simp [intOf]; omega
    ·have hg2 : Zbi s[j] = false := by simpa using hg
     have hR0 : R = false := by rw [← HR.o, HJ.o (by rw [HL2.o, hg2]; rfl)]
     rw [hg2];subst hR0;clear hg hg2 HG HJ HD2;go_wp2_with fail;go_ret;exact ⟨rfl, hb1⟩
  ·have t3 : decide ((j : Int) < s.size) = false := decide_eq_false (by omega);have hR0 : R = true := by rw [← HR.o, Zk0 (by omega) (by omega) (.inr ⟨hp, HF2.o⟩) HX2.o (fun k hk => HD.o k hk (by omega))]
   subst hR0;go_wp2_with fail;go_ret;exact ⟨rfl, hb1⟩
theorem Zjl {l : List ByteArray} (h : ∀ k (hk : k < l.length), Zbj l[k] = true) : l.all Zbj = true := by
 rw [List.all_eq_true];intro x hx;obtain ⟨k, hk, rfl⟩ := List.getElem_of_mem hx;exact h k hk
theorem Zk1 {l : List ByteArray} {j : Nat} (hj : j < l.length) (h : Zbj l[j] = false) : l.all Zbj = false := by
 rw [List.all_eq_false];exact ⟨_, List.getElem_mem hj, by rw [h]; decide⟩
/-- Whether a text stands there twice. -/
def twB (l : List ByteArray) : Bool := (List.range l.length).any fun j => Zc8 (l.take j) (l.getD j ⟨#[]⟩)
theorem Zno {l : List ByteArray} {j : Nat} (hj : j < l.length) (d : ByteArray) : l.getD j d = l[j] := by
 rw [List.getD_eq_getElem?_getD, List.getElem?_eq_getElem hj]; rfl
theorem Znp {l : List ByteArray} {j : Nat} (hj : j < l.length) (h : Zc8 (l.take j) l[j] = true) : twB l = true := by
 unfold twB;rw [List.any_eq_true];exact ⟨j, List.mem_range.2 hj, by rw [Zno hj]; exact h⟩
theorem Zpu {l : List ByteArray} (h : ∀ k (hk : k < l.length), Zc8 (l.take k) l[k] = false) : twB l = false := by
 unfold twB;rw [List.any_eq_false];intro j hj;rw [List.mem_range] at hj;rw [Zno hj, h j hj]
 decide
theorem Zp.take {α : Type} {El : Zcg α} {size : Nat} {F : Nat → Prop} {w : World} {l : List α} {A : Option Addr} {n c j : Nat} (hj : j ≤ l.length) (h : Zp El size F w l (.slice A n c)) : Zp El size F w (l.take j) (.slice A j c) := by
 obtain ⟨A', c', e, h1, h2, h3⟩ := h;cases e;have hlen : (l.take j).length = j := by rw [List.length_take]; omega
 refine ⟨A, c, by rw [hlen], by omega, h2, fun i hi => ?_⟩;obtain ⟨b, o, cs, e, hF, hb, hel, hc⟩ := h3 i (by omega);exact ⟨b, o, cs, e, hF, hb, by rw [List.getElem_take]; exact hel, hc⟩
theorem Zf9 (l : List ByteArray) (v : Value) (F : Nat → Prop) (w : World) (hr : Zp Zb0 1 F w l v) (ht : Spc w) : Calls Tryz.prog 47 #[v] w fun e w' => e = .returned (.bool (l.all Zbj)) ∧ Below w.heap.size w w' := by
 obtain ⟨A, c, rfl, hc, hcm, hel⟩ := hr;unfold maxLen at hcm;have HEL := zh hel;obtain ⟨R, hR⟩ : ∃ R, (l.all Zbj) = R := ⟨_, rfl⟩;rw [hR];have HR := zh hR;have HT := zh ht;clear hR hel ht;go_enter Tryz.func47, Tryz.ntmps47;go_wp2_with fail
 go_loopw [7] (fun i wr => ∃ j : Nat, i = .int .i64 j ∧ j ≤ l.length ∧ Hd (∀ k (h : k < l.length), k < j → Zbj l[k] = true) ∧ Below w.heap.size w wr) (fun i _ => l.length - (intOf i).toNat)
 case atStart => exact ⟨0, rfl, Nat.zero_le _, zh (fun k _ h => by omega), Below.refl _ _⟩
 case round =>
  obtain ⟨j, rfl, hj, HD, hbel⟩ := hrel;have hsz := hbel.size
  by_cases hlt : j < l.length
  ·obtain ⟨b, o, cs, rfl, hF, hbl, hE, hcell⟩ := HEL.o j hlt;obtain ⟨rfl, hsm⟩ := hE;have t1 : decide ((j : Int) < l.length) = true := decide_eq_true (by omega);have hlt' : (j : Int) < l.length := by omega
   have e0 := (hbel.cell (p := ⟨b, o + j * 1 + 0, none⟩) hbl).trans (hcell 0 _ rfl);simp only [Nat.mul_one, Nat.add_zero] at e0;obtain ⟨s, hs⟩ : ∃ s, l[j] = s := ⟨_, rfl⟩;rw [hs] at e0 hsm;have HN := zh (Ze0 s wr hsm (HT.o.below hbel));have HD2 := zh (fun (h : Zbj s = true) => show ∀ k (h : k < l.length), k < j + 1 → Zbj l[k] = true from fun k hk h1 => by
    rcases Nat.lt_or_ge k j with h2 | h2
    ·exact HD.o k hk h2
    ·obtain rfl : k = j := by omega
     rw [hs]; exact h)
   have HNO := zh (fun (h : Zbj s = false) => Zk1 hlt (by rw [hs]; exact h));clear hcell hsm hs;go_wp2_with fail;refine HN.o.mono ?_;rintro e w1 ⟨rfl, hb1⟩;have hbel1 := hbel.trans (Below.mono hb1 hsz);clear e0 hb1
   by_cases hn : Zbj s = true
   ·have HD3 := zh (HD2.o hn);rw [hn];clear HD2 HNO HN hn;go_wp2_with fail
    go_roundw
    case rel => exact ⟨j + 1, by go_num, by omega, HD3, hbel1⟩
    case measure => simp [intOf]; omega
   ·have hn2 : Zbj s = false := by simpa using hn
    have hR0 : R = false := by rw [← HR.o, HNO.o hn2]
    rw [hn2];subst hR0;clear hn hn2 HNO HD2 HN;go_wp2_with fail;go_ret;exact ⟨rfl, hbel1⟩
  ·have t1 : decide ((j : Int) < l.length) = false := decide_eq_false (by omega);have hR0 : R = true := by rw [← HR.o, Zjl (fun k hk => HD.o k hk (by omega))]
   subst hR0;go_wp2_with fail;go_ret;exact ⟨rfl, hbel⟩
theorem Zfl (l : List ByteArray) (v : Value) (most : Int) (F : Nat → Prop) (w : World) (hr : Zp Zb0 1 F w l v) : Calls Tryz.prog 97 #[v, .int .i64 most] w fun e w' => e = .returned (.bool (l.all Zbj && decide ((l.length : Int) ≤ most))) ∧ Below w.heap.size w w' := by
 obtain ⟨A, c, rfl, hc, hcm, hel⟩ := hr;unfold maxLen at hcm;have HEL := zh hel;obtain ⟨R, hR⟩ : ∃ R, (l.all Zbj && decide ((l.length : Int) ≤ most)) = R := ⟨_, rfl⟩;rw [hR];have HR := zh hR
 skip
 clear hR hel;go_enter Tryz.func97, Tryz.ntmps97;go_wp2_with fail
 go_loopw [5] (fun i wr => ∃ j : Nat, i = .int .i64 j ∧ j ≤ l.length ∧ Hd (∀ k (h : k < l.length), k < j → Zbj l[k] = true) ∧ Below w.heap.size w wr) (fun i _ => l.length - (intOf i).toNat)
 case atStart => exact ⟨0, rfl, Nat.zero_le _, zh (fun k _ h => by omega), Below.refl _ _⟩
 case round =>
  obtain ⟨j, rfl, hj, HD, hbel⟩ := hrel;have hsz := hbel.size
  by_cases hlt : j < l.length
  ·obtain ⟨b, o, cs, rfl, hF, hbl, hE, hcell⟩ := HEL.o j hlt;obtain ⟨rfl, hsm⟩ := hE;have t1 : decide ((j : Int) < l.length) = true := decide_eq_true (by omega);have hlt' : (j : Int) < l.length := by omega
   have e0 := (hbel.cell (p := ⟨b, o + j * 1 + 0, none⟩) hbl).trans (hcell 0 _ rfl);simp only [Nat.mul_one, Nat.add_zero] at e0;obtain ⟨s, hs⟩ : ∃ s, l[j] = s := ⟨_, rfl⟩;rw [hs] at e0 hsm;have HN := zh (Ze1 s wr hsm);have HD2 := zh (fun (h : Zbj s = true) => show ∀ k (h : k < l.length), k < j + 1 → Zbj l[k] = true from fun k hk h1 => by
    rcases Nat.lt_or_ge k j with h2 | h2
    ·exact HD.o k hk h2
    ·obtain rfl : k = j := by omega
     rw [hs]; exact h)
   have HNO := zh (fun (h : Zbj s = false) => Zk1 hlt (by rw [hs]; exact h));clear hcell hsm hs;go_wp2_with fail;refine HN.o.mono ?_;rintro e w1 ⟨rfl, hb1⟩;have hbel1 := hbel.trans (Below.mono hb1 hsz);clear e0 hb1
   by_cases hn : Zbj s = true
   ·have HD3 := zh (HD2.o hn);rw [hn];clear HD2 HNO HN hn;go_wp2_with fail
    go_roundw
    case rel => exact ⟨j + 1, by go_num, by omega, HD3, hbel1⟩
    case measure => simp [intOf]; omega
   ·have hn2 : Zbj s = false := by simpa using hn
    have hR0 : R = false := by rw [← HR.o, HNO.o hn2]; rfl
    rw [hn2];subst hR0;clear hn hn2 HNO HD2 HN;go_wp2_with fail;go_ret;exact ⟨rfl, hbel1⟩
  ·have t1 : decide ((j : Int) < l.length) = false := decide_eq_false (by omega);have hR0 : R = decide ((l.length : Int) ≤ most) := by rw [← HR.o, Zjl (fun k hk => HD.o k hk (by omega)), Bool.true_and]
   subst hR0;go_wp2_with fail;go_ret;exact ⟨rfl, hbel⟩
theorem Zk2 (l : List ByteArray) (v : Value) (F : Nat → Prop) (w : World) (hr : Zp Zb0 1 F w l v) : Calls Tryz.prog 99 #[v] w fun e w' => e = .returned (.bool (twB l)) ∧ w' = w := by
 have HROW := zh hr;obtain ⟨A, c, rfl, hc, hcm, hel⟩ := hr;unfold maxLen at hcm;have HEL := zh hel;obtain ⟨R, hR⟩ : ∃ R, twB l = R := ⟨_, rfl⟩;rw [hR];have HR := zh hR;clear hR hel;go_enter Tryz.func99, Tryz.ntmps99;go_wp2_with fail
 go_loopw [3] (fun i wr => ∃ j : Nat, i = .int .i64 j ∧ j ≤ l.length ∧ Hd (∀ k (h : k < l.length), k < j → Zc8 (l.take k) l[k] = false) ∧ wr = w) (fun i _ => l.length - (intOf i).toNat)
 case atStart => exact ⟨0, rfl, Nat.zero_le _, zh (fun k _ h => by omega), rfl⟩
 case round =>
  obtain ⟨j, rfl, hj, HD, hw⟩ := hrel;obtain rfl : w = wr := hw.symm
  by_cases hlt : j < l.length
  ·obtain ⟨b, o, cs, rfl, hF, hbl, hE, hcell⟩ := HEL.o j hlt;obtain ⟨rfl, hsm⟩ := hE;have t1 : decide ((j : Int) < l.length) = true := decide_eq_true (by omega);have hlt' : (j : Int) < l.length := by omega
   have e0 := hcell 0 _ rfl;simp only [Nat.mul_one, Nat.add_zero] at e0;have hff := Zpp hlt;have HYES := zh (fun h => Znp hlt h);have HD2 := zh (fun (h : Zc8 (l.take j) l[j] = false) => show ∀ k (h : k < l.length), k < j + 1 → Zc8 (l.take k) l[k] = false from fun k hk h1 => by
    rcases Nat.lt_or_ge k j with h2 | h2
    ·exact HD.o k hk h2
    ·obtain rfl : k = j := by omega
     exact h)
   obtain ⟨s, hs⟩ : ∃ s, l[j] = s := ⟨_, rfl⟩;rw [hs] at e0 hff HYES HD2;have HN := zh (Zmf l _ s F w HROW.o);obtain ⟨z, hz⟩ : ∃ z, Zd1 l s = z := ⟨_, rfl⟩;rw [hz] at HN hff;clear hcell hsm hs hz;go_wp2_with fail;refine HN.o.mono ?_;rintro e w1 ⟨rfl, hw1⟩;obtain rfl := hw1.symm;clear e0
   by_cases hn : Zc8 (l.take j) s = true
   ·have hR0 : R = true := by rw [← HR.o, HYES.o hn]
    rw [hn] at hff;subst hR0;clear hn HYES HD2 HN;go_wp2_with fail;go_ret;exact ⟨rfl, rfl⟩
   ·have hn2 : Zc8 (l.take j) s = false := by simpa using hn
    have HD3 := zh (HD2.o hn2);rw [hn2] at hff;clear hn hn2 HYES HD2 HN;go_wp2_with fail
    go_roundw
    case rel => exact ⟨j + 1, by go_num, by omega, HD3, trivial⟩
    case measure => simp [intOf]; omega
  ·have t1 : decide ((j : Int) < l.length) = false := decide_eq_false (by omega);have hR0 : R = false := by rw [← HR.o, Zpu (fun k hk => HD.o k hk (by omega))]
   subst hR0;go_wp2_with fail;go_ret;exact ⟨rfl, rfl⟩
theorem Zj3 (l : List ByteArray) (v : Value) (F : Nat → Prop) (w : World) (hr : Zp Zb0 1 F w l v) : Calls Tryz.prog 105 #[v] w fun e w' => e = .returned (.bool (twB l)) ∧ Below w.heap.size w w' := by
 have HROW := zh hr;obtain ⟨A, c, rfl, hc, hcm, hel⟩ := hr;unfold maxLen at hcm;have HEL := zh hel;obtain ⟨R, hR⟩ : ∃ R, twB l = R := ⟨_, rfl⟩;rw [hR];have HR := zh hR;clear hR hel;go_enter Tryz.func105, Tryz.ntmps105;go_wp2_with fail
 go_loopw [6] (fun i wr => ∃ j : Nat, i = .int .i64 j ∧ j ≤ l.length ∧ Hd (∀ k (h : k < l.length), k < j → Zc8 (l.take k) l[k] = false) ∧ Below w.heap.size w wr) (fun i _ => l.length - (intOf i).toNat)
 case atStart => exact ⟨0, rfl, Nat.zero_le _, zh (fun k _ h => by omega), Below.refl _ _⟩
 case round =>
  obtain ⟨j, rfl, hj, HD, hbel⟩ := hrel;have hsz := hbel.size
  by_cases hlt : j < l.length
  ·obtain ⟨b, o, cs, rfl, hF, hbl, hE, hcell⟩ := HEL.o j hlt;obtain ⟨rfl, hsm⟩ := hE;have t1 : decide ((j : Int) < l.length) = true := decide_eq_true (by omega);have hlt' : (j : Int) < l.length := by omega
   have e0 := (hbel.cell (p := ⟨b, o + j * 1 + 0, none⟩) hbl).trans (hcell 0 _ rfl);simp only [Nat.mul_one, Nat.add_zero] at e0;have HYES := zh (fun h => Znp hlt h);have HD2 := zh (fun (h : Zc8 (l.take j) l[j] = false) => show ∀ k (h : k < l.length), k < j + 1 → Zc8 (l.take k) l[k] = false from fun k hk h1 => by
    rcases Nat.lt_or_ge k j with h2 | h2
    ·exact HD.o k hk h2
    ·obtain rfl : k = j := by omega
     exact h)
   obtain ⟨s, hs⟩ : ∃ s, l[j] = s := ⟨_, rfl⟩;rw [hs] at e0 HYES HD2;have hbr : b < wr.heap.size := Nat.lt_of_lt_of_le hbl hsz;have hjc : j ≤ c := by omega
   have hjc' : (j : Int) ≤ c := by omega
   have HTK := zh (Zp.take hj (HROW.o.later Zad hbel));clear hcell hsm hs;go_upto_region 4 with (fail);refine Zbb [7] [] (by kernel_rfl) (fun W hW => ?_);have hWL : Za wr W := by rw [hW]; exact (Za.refl _).drew
   have eW := (hWL.cell ⟨b, o + j, none⟩ hbr).trans e0;have hbW : b < W.heap.size := Nat.lt_of_lt_of_le hbr hWL.size;clear hW;refine Zc1 0 (some 9) (v := ?_) rfl rfl (by kernel_rfl) (fun _ _ _ h => h) rfl (fun x hx => ?_) ?_;rotate_left
   ·go_simp;first|done|with_reducible rfl|rw[if_neg (by omega)]|rw[if_pos (by omega)]
   simp only [Act.put, nA, nB, nC];refine Zc1 1 (some 10) (v := ?_) rfl rfl (by kernel_rfl) (fun _ _ _ h => h) rfl (fun x hx => ?_) ?_;rotate_left
   ·go_simp;first|done|with_reducible rfl|rw[if_neg (by omega)]|rw[if_pos (by omega)]
   simp only [Act.put, nA, nB, nC];refine Zc1 2 (some 11) (v := ?_) rfl rfl (by kernel_rfl) (fun _ _ _ h => h) rfl (fun x hx => ?_) ?_;rotate_left
   ·go_simp;first|done|with_reducible rfl|rw[if_neg (by omega)]|rw[if_pos (by omega)]
   simp only [Act.put, nA, nB, nC];refine Zc1 3 (some 12) (v := ?_) rfl rfl (by kernel_rfl) (fun _ _ _ h => h) rfl (fun x hx => ?_) ?_;rotate_left
   ·go_simp;first|done|with_reducible rfl|rw[if_neg (by omega)]|rw[if_pos (by omega)]
   simp only [Act.put, nA, nB, nC];refine Zc1 4 (some 13) (v := ?_) rfl rfl (by kernel_rfl) (fun _ _ _ h => h) rfl (fun x hx => ?_) ?_;rotate_left
   ·go_simp;first|done|with_reducible rfl|rw[if_neg (by omega)]|rw[if_pos (by omega)]
   simp only [Act.put, nA, nB, nC];refine Zc1 5 (some 14) (v := ?_) rfl rfl (by kernel_rfl) (fun _ _ _ h => h) rfl (fun x hx => ?_) ?_;rotate_left
   ·go_simp;first|done|with_reducible rfl|rw[if_neg (by omega)]|rw[if_pos (by omega)]
   simp only [Act.put, nA, nB, nC];refine Zc1 6 (some 15) (v := ?_) rfl rfl (by kernel_rfl) (fun _ _ _ h => h) rfl (fun x hx => ?_) ?_;rotate_left
   ·have hx0 := (hx.cell ⟨b, o + j, none⟩ hbW).trans eW; go_simp;first|done|with_reducible rfl|rw[if_neg (by omega)]|rw[if_pos (by omega)]
   simp only [Act.put, nA, nB, nC];refine Zbl [_] (by kernel_rfl) rfl rfl ?_;simp only [List.getElem_toArray, List.getElem_cons_succ, List.getElem_cons_zero];have HN := zh (Zf4 (l.take j) _ s F W (HTK.o.later Zad hWL));have hbel1 := hbel.trans (Below.mono hWL hsz);clear e0 eW hWL hbW hbr;go_wp2_with fail;refine HN.o.mono ?_;rintro e w1 ⟨rfl, hw1⟩;obtain rfl := hw1.symm
   by_cases hn : Zc8 (l.take j) s = true
   ·have hR0 : R = true := by rw [← HR.o, HYES.o hn]
    rw [hn];subst hR0;clear hn HYES HD2 HN;go_wp2_with fail;go_ret;exact ⟨rfl, hbel1⟩
   ·have hn2 : Zc8 (l.take j) s = false := by simpa using hn
    have HD3 := zh (HD2.o hn2);rw [hn2];clear hn hn2 HYES HD2 HN;go_wp2_with fail
    go_roundw
    case rel => exact ⟨j + 1, by go_num, by omega, HD3, hbel1⟩
    case measure => simp [intOf]; omega
  ·have t1 : decide ((j : Int) < l.length) = false := decide_eq_false (by omega);have hR0 : R = false := by rw [← HR.o, Zpu (fun k hk => HD.o k hk (by omega))]
   subst hR0;go_wp2_with fail;go_ret;exact ⟨rfl, hbel⟩
def Zdp (r : Zb3) : Bool := Zbj r.name && (decide (r.fields.length ≤ 6) && (r.fields.all Zbj && (!twB r.fields && decide (0 ≤ r.line))))
theorem Zdz {α : Type} {p : α → Bool} {l : List α} (h : ∀ k (hk : k < l.length), p l[k] = true) : l.all p = true := by
 rw [List.all_eq_true];intro x hx;obtain ⟨k, hk, rfl⟩ := List.getElem_of_mem hx;exact h k hk
theorem Zdd {α : Type} {p : α → Bool} {l : List α} {j : Nat} (hj : j < l.length) (h : p l[j] = false) : l.all p = false := by
 rw [List.all_eq_false];exact ⟨_, List.getElem_mem hj, by rw [h]; decide⟩
theorem Zcq {α : Type} {p : α → Bool} {l : List α} {j : Nat} (h : ∀ k (hk : k < l.length), k < j → p l[k] = true) (hj : ∀ hk : j < l.length, p l[j] = true) : ∀ k (hk : k < l.length), k < j + 1 → p l[k] = true := fun k hk h1 => by
 rcases Nat.lt_or_ge k j with h2 | h2
 ·exact h k hk h2
 ·obtain rfl : k = j := by omega
  exact hj hk
theorem Zmo {n : Nat} : decide (n ≤ 6) = !decide ((6 : Int) < (n : Int)) := by
 by_cases h : n ≤ 6
 ·rw [decide_eq_true h, decide_eq_false (by omega)]; rfl
 ·rw [decide_eq_false h, decide_eq_true (by omega)]; rfl
theorem Zk3 {n : Int} : decide (0 ≤ n) = !decide (n < 0) := by
 by_cases h : 0 ≤ n
 ·rw [decide_eq_true h, decide_eq_false (by omega)]; rfl
 ·rw [decide_eq_false h, decide_eq_true (by omega)]; rfl
theorem Zga {x : World} {b : Nat} {v0 v1 v2 : Value} {t : TypeId} (h : x.heap[b]? = some (.cells #[v0, v1, v2] t (0, 0))) : x.cell? ⟨b, 0, none⟩ = some v0 ∧ x.cell? ⟨b, 1, none⟩ = some v1 ∧ x.cell? ⟨b, 2, none⟩ = some v2 :=
 ⟨cell_of_row x b 0 _ _ _ h, cell_of_row x b 1 _ _ _ h, cell_of_row x b 2 _ _ _ h⟩
theorem Zg0 (l : List Zb3) (v : Value) (F : Nat → Prop) (w : World) (hr : Zp Zb7 3 F w l v) (ht : Spc w) : Calls Tryz.prog 48 #[v] w fun e w' => e = .returned (.bool (l.all Zdp && decide (l.length ≤ 8))) ∧ Below w.heap.size w w' := by
 obtain ⟨A, c, rfl, hc, hcm, hel⟩ := hr;unfold maxLen at hcm;have HEL := zh hel;obtain ⟨R, hR⟩ : ∃ R, (l.all Zdp && decide (l.length ≤ 8)) = R := ⟨_, rfl⟩;rw [hR];have HR := zh hR;have HT := zh ht;clear hR hel ht;go_enter Tryz.func48, Tryz.ntmps48;go_wp2_with fail
 go_loopw [7] (fun i wr => ∃ j : Nat, i = .int .i64 j ∧ j ≤ l.length ∧ Hd (∀ k (h : k < l.length), k < j → Zdp l[k] = true) ∧ Below w.heap.size w wr) (fun i _ => l.length - (intOf i).toNat)
 case atStart => exact ⟨0, rfl, Nat.zero_le _, zh (fun k _ h => by omega), Below.refl _ _⟩
 case round =>
  obtain ⟨j, rfl, hj, HD, hbel⟩ := hrel;have hsz := hbel.size
  by_cases hlt : j < l.length
  ·obtain ⟨b, o, cs, rfl, hF, hbl, hE, hcell⟩ := HEL.o j hlt;have hE2 := Zbh.keep (G := F) hE (fun _ h => h) (Zg.later hbel);obtain ⟨vf, rfl, hnm, hfl, hln⟩ := hE;obtain ⟨vf', e, hnm', hfl', hln'⟩ := hE2;simp only [List.cons.injEq, true_and, and_true] at e;subst e;obtain ⟨AF, cF, rfl, hfc, hfm, _⟩ := id hfl;unfold maxLen at hfm;have t1 : decide ((j : Int) < l.length) = true := decide_eq_true (by omega);have hlt' : (j : Int) < l.length := by omega
   have e0 := (hbel.cell (p := ⟨b, o + j * 3 + 0, none⟩) hbl).trans (hcell 0 _ rfl);have e1 := (hbel.cell (p := ⟨b, o + j * 3 + 1, none⟩) hbl).trans (hcell 1 _ rfl);have e2 := (hbel.cell (p := ⟨b, o + j * 3 + 2, none⟩) hbl).trans (hcell 2 _ rfl);simp only [Nat.add_zero] at e0;have HNO := zh (fun h => Zdd (p := Zdp) hlt h);have HYES := zh (fun (h : Zdp l[j] = true) => Zcq HD.o (fun _ => h));have HREC := zh (show ∀ r, l[j] = r → Zdp r = (Zbj r.name && (decide (r.fields.length ≤ 6) && (r.fields.all Zbj && (!twB r.fields && decide (0 ≤ r.line))))) from fun _ _ => rfl);obtain ⟨r, hrj⟩ : ∃ r, l[j] = r := ⟨_, rfl⟩;have hrec := HREC.o r hrj;rw [hrj] at e0 e1 e2 HNO HYES hnm hfl' hfc;clear hcell hnm' hfl hln hln' hrj HREC hfm;have hx := hbel.alloc hsz (.cells #[.string r.name, .slice AF r.fields.length cF, .int .i64 r.line] 136);have hD := heap_alloc_new wr (.cells #[.string r.name, .slice AF r.fields.length cF, .int .i64 r.line] 136);obtain ⟨x, hxw⟩ : ∃ x, x = wr.alloc (.cells #[.string r.name, .slice AF r.fields.length cF, .int .i64 r.line] 136) := ⟨_, rfl⟩;rw [← hxw] at hx hD;have HX := zh hx;have HDB := zh hD;have HFL := zh (hfl'.later Zad (show Za wr x by rw [hxw]; exact (Za.refl _).alloc _));have HN := zh (Ze0 r.name x hnm (HT.o.below hx));obtain ⟨D, hDD⟩ : ∃ D, wr.heap.size = D := ⟨_, rfl⟩;rw [hDD] at HDB;obtain ⟨n0, hn0⟩ : ∃ q : Bool, Zbj r.name = q := ⟨_, rfl⟩;obtain ⟨n1, hn1⟩ : ∃ q : Bool, decide ((6 : Int) < (r.fields.length : Int)) = q := ⟨_, rfl⟩
   obtain ⟨n2, hn2⟩ : ∃ q : Bool, r.fields.all Zbj = q := ⟨_, rfl⟩;obtain ⟨n3, hn3⟩ : ∃ q : Bool, twB r.fields = q := ⟨_, rfl⟩;obtain ⟨n4, hn4⟩ : ∃ q : Bool, decide (r.line < 0) = q := ⟨_, rfl⟩;rw [hn0, hn2, hn3, show decide (r.fields.length ≤ 6) = !n1 by rw [← hn1]; exact Zmo, show decide (0 ≤ r.line) = !n4 by rw [← hn4]; exact Zk3] at hrec;rw [hn0] at HN;have HREC := zh hrec;clear hx hD hnm hfl' hrec;go_upto_region 4 with (fail);rw [← hxw]
   try rw [hDD]
   clear e0 e1 e2 hxw hDD;obtain ⟨d0, d1, d2⟩ := Zga HDB.o;go_wp2_with fail;refine HN.o.mono ?_;rintro e x1 ⟨rfl, hb1⟩;have HX1 := zh (HX.o.trans (Below.mono hb1 HX.o.size));have HD1 := zC hb1 HDB;have HF1 := zh (HFL.o.later Zad hb1);clear hb1 d0 d1 d2;obtain ⟨d0, d1, d2⟩ := Zga HD1.o
   cases n0
   ·have hR0 : R = false := by rw [← HR.o, HNO.o (by rw [HREC.o]; rfl)]; rfl
    subst hR0;go_wp2_with fail;go_ret;exact ⟨rfl, HX1.o⟩
   cases n1
   rotate_left
   ·have hR0 : R = false := by rw [← HR.o, HNO.o (by rw [HREC.o]; rfl)]; rfl
    subst hR0;go_wp2_with fail;go_ret;exact ⟨rfl, HX1.o⟩
   have HA := zh (Zf9 r.fields _ F x1 HF1.o (HT.o.below HX1.o));rw [hn2] at HA;go_wp2_with fail;refine HA.o.mono ?_;rintro e x2 ⟨rfl, hb2⟩;have HX2 := zh (HX1.o.trans (Below.mono hb2 HX1.o.size));have HD2 := zC hb2 HD1;have HF2 := zh (HF1.o.later Zad hb2);clear hb2 d0 d1 d2 HA;obtain ⟨d0, d1, d2⟩ := Zga HD2.o
   cases n2
   ·have hR0 : R = false := by rw [← HR.o, HNO.o (by rw [HREC.o]; rfl)]; rfl
    subst hR0;go_wp2_with fail;go_ret;exact ⟨rfl, HX2.o⟩
   have HA := zh (Zj3 r.fields _ F x2 HF2.o);rw [hn3] at HA;go_wp2_with fail;refine HA.o.mono ?_;rintro e x3 ⟨rfl, hb3⟩;have HX3 := zh (HX2.o.trans (Below.mono hb3 HX2.o.size));have HD3 := zC hb3 HD2;clear hb3 d0 d1 d2 HA;obtain ⟨d0, d1, d2⟩ := Zga HD3.o
   cases n3
   rotate_left
   ·have hR0 : R = false := by rw [← HR.o, HNO.o (by rw [HREC.o]; rfl)]; rfl
    subst hR0;go_wp2_with fail;go_ret;exact ⟨rfl, HX3.o⟩
   cases n4
   rotate_left
   ·have hR0 : R = false := by rw [← HR.o, HNO.o (by rw [HREC.o]; rfl)]; rfl
    subst hR0;go_wp2_with fail;go_ret;exact ⟨rfl, HX3.o⟩
   have HD4 := zh (HYES.o (by rw [HREC.o]; rfl));have hbel3 := HX3.o;go_wp2_with fail
   go_roundw
   case rel => exact ⟨j + 1, by go_num, by omega, HD4, hbel3⟩
   case measure => simp [intOf]; omega
  ·have t1 : decide ((j : Int) < l.length) = false := decide_eq_false (by omega);have hR0 : R = decide ((l.length : Int) ≤ 8) := by rw [← HR.o, Zdz (fun k hk => HD.o k hk (by omega)), Bool.true_and]; exact decide_eq_decide.2 (by omega)
   subst hR0;go_wp2_with fail;go_ret;exact ⟨rfl, hbel⟩
/-- Equal values. -/
def eqV (a b : Ze) : Bool := a.kind == b.kind && (a.aH == b.aH && (a.index == b.index && (a.text.toList == b.text.toList && (a.set_.low == b.set_.low && a.set_.high == b.set_.high))))
theorem Zfc {a b : Ze} : eqV a b = true ↔ a = b := by
 obtain ⟨k, n, i, t, l, h⟩ := a;obtain ⟨k', n', i', t', l', h'⟩ := b;simp only [eqV, Bool.and_eq_true, beq_iff_eq, Ze.mk.injEq, Znh.mk.injEq]
 constructor
 ·rintro ⟨rfl, rfl, rfl, ht, rfl, rfl⟩;exact ⟨rfl, rfl, rfl, Zf2 ht, rfl, rfl⟩
 ·rintro ⟨rfl, rfl, rfl, rfl, rfl, rfl⟩;exact ⟨rfl, rfl, rfl, rfl, rfl, rfl⟩
theorem Zgb (a : Ze) : eqV a a = true := Zfc.2 rfl
/-- The first place of a value in a row, or the row's length. -/
def Zi7 : List Ze → Ze → Nat
 | [], _ => 0
 | a :: l, v => if eqV a v = true then 0 else Zi7 l v + 1
def Zd6 (l : List Ze) (v : Ze) : Bool := l.any fun a => eqV a v
theorem Zrq : ∀ (l : List Ze) (v : Ze), Zi7 l v ≤ l.length
 | [], _ => Nat.le_refl _
 | a :: l, v => by
  unfold Zi7
  split
  ·omega
  ·have := Zrq l v; simp; omega
theorem Zrr : ∀ {l : List Ze} {v : Ze}, Zd6 l v = true ↔ Zi7 l v < l.length
 | [], v => by simp [Zd6, Zi7]
 | a :: l, v => by
  have := @Zrr l v;unfold Zd6 at this ⊢;rw [List.any_cons];unfold Zi7
  cases h : eqV a v with
  | true => simp
  | false => simpa using this
theorem Zim {l : List Ze} {v : Ze} : Zd6 l v = true ↔ v ∈ l := by
 unfold Zd6;rw [List.any_eq_true];exact ⟨fun ⟨a, h1, h2⟩ => by rw [Zfc] at h2; exact h2 ▸ h1, fun h => ⟨v, h, Zgb v⟩⟩
theorem Zrs {l : List Ze} {v : Ze} {j : Nat} (h : j < l.length) (he : eqV l[j] v = true) : Zd6 l v = true := Zim.2 (by rw [Zfc] at he; rw [← he]; exact List.getElem_mem h)
theorem Znq {l : List Ze} {v : Ze} (h : ∀ k (hk : k < l.length), eqV l[k] v = false) : Zd6 l v = false := by
 rw [← Bool.not_eq_true, Zim];intro hm;obtain ⟨k, hk, rfl⟩ := List.getElem_of_mem hm;have := h k hk;rw [Zgb] at this
 cases this
theorem Znr : ∀ {l : List Ze} {v : Ze} {j : Nat} (h : j < l.length), eqV l[j] v = true → (∀ k (hk : k < l.length), k < j → eqV l[k] v = false) → Zi7 l v = j
 | a :: l, v, 0, _, he, _ => by
  unfold Zi7;rw [if_pos (by simpa using he)]
 | a :: l, v, j + 1, h, he, hn => by
  unfold Zi7;have h0 := hn 0 (by simp) (by omega);simp only [List.getElem_cons_zero] at h0;rw [h0];simp only [Bool.false_eq_true, if_false];rw [Znr (j := j) (by simpa using h) (by simpa using he) (fun k hk hj => hn (k + 1) (Nat.succ_lt_succ hk) (Nat.succ_lt_succ hj))]
/-- The place, or -1. -/
def Zd7 (l : List Ze) (v : Ze) : Int := if Zd6 l v = true then (Zi7 l v : Int) else -1
theorem Zk4 {l : List Ze} {v : Ze} {j : Nat} (h : j < l.length) (he : eqV l[j] v = true) (hn : ∀ k (hk : k < l.length), k < j → eqV l[k] v = false) : Zd7 l v = j := by
 unfold Zd7;rw [if_pos (Zrs h he), Znr h he hn]
theorem Zk5 {l : List Ze} {v : Ze} (h : ∀ k (hk : k < l.length), eqV l[k] v = false) : Zd7 l v = -1 := by
 unfold Zd7;rw [Znq h]
 rfl
/-- No value twice. -/
def Zbg (l : List Ze) : Bool := (List.range l.length).all fun i => match l[i]? with | some v => !Zd6 (l.take i) v | none => true
theorem Zfm {l : List Ze} (h : ∀ k (hk : k < l.length), Zd6 (l.take k) l[k] = false) : Zbg l = true := by
 unfold Zbg;rw [List.all_eq_true];intro i hi;rw [List.mem_range] at hi;rw [List.getElem?_eq_getElem hi];simp [h i hi]
theorem Zgc {l : List Ze} {j : Nat} (hj : j < l.length) (h : Zd6 (l.take j) l[j] = true) : Zbg l = false := by
 unfold Zbg;rw [List.all_eq_false];refine ⟨j, List.mem_range.2 hj, ?_⟩;rw [List.getElem?_eq_getElem hj];simp [h]
/-- What the aJ of a pattern object are: 13 a variable. -/
def Zam (op : Int) : List Int :=
 if op = 1 then [2] else if 2 ≤ op ∧ op ≤ 6 then [1] else if 7 ≤ op ∧ op ≤ 10 then [3] else if op = 13 then [12] else if op = 18 ∨ op = 20 then [13] else if op = 14 ∨ op = 15 then [12, 12] else if op = 16 ∨ op = 17 then [12, 13] else []
def Zw (r : Zf) (k : Int) (v : Ze) : Bool := (if k = 13 then v.kind == 13 || v.kind == 14 else v.kind == k) && Zi r v
def Zh (r : Zf) : List Int → List Ze → Bool
 | [], [] => true
 | k :: ks, v :: vs => Zw r k v && Zh r ks vs
 | _, _ => false
def Z6 (r : Zf) (op : Int) (l : List Ze) : Bool := decide (1 ≤ op) && (decide (op ≤ 23) && Zh r (Zam op) l)
def Zaf (r : Zf) (l : List Ze) : Bool := l.all (Zaw r)
/-- The aJ and aK of an object fit its kind. -/
def Z9 (r : Zf) (o : Z8) : Bool :=
 if o.kind = 1 then decide (o.aJ.length ≤ 24) && Zaf r o.aJ
 else if o.kind = 2 then decide (o.aJ.length ≤ 40) && Zaf r o.aJ
 else if o.kind = 3 then decide (o.aK.length ≤ 40) && (decide (o.aJ.length = o.aK.length + 1) && (Zaf r o.aJ && (Zaf r o.aK && Zbg o.aK)))
 else if o.kind = 4 then decide (o.aK.length ≤ 40) && (decide (o.aJ.length = 0) && (Zaf r o.aK && Zbg o.aK))
 else if o.kind = 5 then decide (0 ≤ o.tag) && (match r.aB[o.tag.toNat]? with | some t => decide (o.aJ.length = t.fields.length) && Zaf r o.aJ | none => false)
 else if o.kind = 6 then decide (1 ≤ o.tag) && (match o.aJ with | [a, b, c] => a.kind == 19 && (Zi r a && (b.kind == 19 && (Zi r b && (c.kind == 1 && (Zi r c && decide (0 ≤ c.aH)))))) | _ => false)
 else if o.kind = 7 then Z6 r o.tag o.aJ
 else if o.kind = 8 then (match o.aJ with | [a, b] => a.kind == 5 && (Zaw r a && Zaw r b) | _ => false)
 else if o.kind = 9 then (match o.aJ with | [a, b] => a.kind == 2 && (b.kind == 1 && (Zaw r a && (Zaw r b && (decide (1 ≤ b.aH) && decide (b.aH ≤ (a.text.size : Int) + 1))))) | _ => false)
 else false
def Zaa (r : Zf) (o : Z8) : Bool :=
 (if 2 ≤ o.kind ∧ o.kind ≤ 7 then decide (1 ≤ o.aI) && decide (o.aI ≤ r.made) else o.aI == 0) &&
 ((if o.kind = 5 ∨ o.kind = 6 ∨ o.kind = 7 then true else o.tag == 0) && ((if o.kind = 3 ∨ o.kind = 4 then true else decide (o.aK.length = 0)) && Z9 r o))
/-- No aI aH twice. -/
def Zcd (l : List Z8) : Bool := (List.range l.length).all fun i => match l[i]? with | some o => o.aI == 0 || !((l.take i).any fun p => p.aI == o.aI) | none => true
theorem Zgd {l : List Z8} (h : ∀ k (hk : k < l.length), l[k].aI = 0 ∨ ∀ i (hi : i < l.length), i < k → l[i].aI ≠ l[k].aI) : Zcd l = true := by
 unfold Zcd;rw [List.all_eq_true];intro i hi;rw [List.mem_range] at hi;rw [List.getElem?_eq_getElem hi];simp only [Bool.or_eq_true, beq_iff_eq, Bool.not_eq_true', List.any_eq_false]
 rcases h i hi with h1 | h1
 ·exact .inl h1
 ·refine .inr fun p hp => ?_;obtain ⟨k, hk, rfl⟩ := List.getElem_of_mem hp;rw [List.length_take] at hk;rw [List.getElem_take];exact h1 k (by omega) (by omega)
theorem Zhd {l : List Z8} {j i : Nat} (hj : j < l.length) (h0 : l[j].aI ≠ 0) (hi : i < j) (h : l[i].aI = l[j].aI) : Zcd l = false := by
 unfold Zcd;rw [List.all_eq_false];refine ⟨j, List.mem_range.2 hj, ?_⟩;rw [List.getElem?_eq_getElem hj];simp only [Bool.or_eq_true, beq_iff_eq, Bool.not_eq_true', List.any_eq_false, not_or];refine ⟨h0, fun hn => ?_⟩;exact hn l[i] (List.mem_take_iff_getElem.2 ⟨i, by omega, rfl⟩) h
def Zcj (r : Zf) (a : Zc0) : Bool := decide (0 ≤ a.routine) && (decide (a.routine < (r.names.length : Int)) && Zaq r a.frame 1)
def Ze2 (s : ByteArray) : Bool := decide (s.size ≤ 120)
/-- A valid Store. -/
def Zab (r : Zf) : Bool :=
 decide (r.names.length ≤ 12) && (r.names.all Zbj && (decide (r.aB.length ≤ 8) && (r.aB.all Zdp && (decide (r.globals.length ≤ 12) && (decide (r.aC.size ≤ 120) && (decide (1 ≤ r.aD) && (decide (r.aD ≤ (r.aC.size : Int) + 1) &&
 (decide (r.aE.length ≤ 40) && (r.aE.all (Zcj r) && (r.output.all Ze2 && (decide (0 ≤ r.aG) && (decide (r.aG ≤ 4000) && (decide (0 ≤ r.ticks) && (decide (r.ticks ≤ r.aG) && (decide (0 ≤ r.made) && (Zaf r r.globals &&
 (r.aA.all (Zaa r) && Zcd r.aA)))))))))))))))))
/-- The six cells of a value. -/
structure VAt (w : World) (b o : Nat) (v : Ze) : Prop where
 c0 : w.cell? ⟨b, o, none⟩ = some (.int .i64 v.kind)
 c1 : w.cell? ⟨b, o + 1, none⟩ = some (.int .i64 v.aH)
 c2 : w.cell? ⟨b, o + 2, none⟩ = some (.int .i64 v.index)
 c3 : w.cell? ⟨b, o + 3, none⟩ = some (.string v.text)
 c4 : w.cell? ⟨b, o + 4, none⟩ = some (.int .i64 v.set_.low)
 c5 : w.cell? ⟨b, o + 5, none⟩ = some (.int .i64 v.set_.high)
theorem Zfd {w : World} {b o : Nat} {v : Value} (h : w.cell? ⟨b, o, none⟩ = some v) : b < w.heap.size := by
 unfold World.cell? at h
 rcases hh : w.heap[b]? with _ | o
 ·simp [hh] at h
 ·exact (Array.getElem?_eq_some_iff.1 hh).1
theorem VAt.later {w x : World} {b o : Nat} {v : Ze} (h : VAt w b o v) (hl : Za w x) : VAt x b o v :=
 ⟨(hl.cell _ (Zfd h.c0)).trans h.c0, (hl.cell _ (Zfd h.c0)).trans h.c1, (hl.cell _ (Zfd h.c0)).trans h.c2, (hl.cell _ (Zfd h.c0)).trans h.c3, (hl.cell _ (Zfd h.c0)).trans h.c4, (hl.cell _ (Zfd h.c0)).trans h.c5⟩
theorem Zk6 (a b : Ze) : eqV a b = eqV b a := by
 cases h : eqV b a with
 | true => rw [Zfc] at h; rw [h]; exact Zgb _
 | false =>
  cases h2 : eqV a b with
  | false => rfl
  | true => rw [Zfc] at h2; rw [h2, Zgb] at h; cases h
theorem Zin {β : Type} (a b : Ze) (f : Bool → β) :
  (if a.kind = b.kind then if a.aH = b.aH then if a.index = b.index then if a.text.toList = b.text.toList then if a.set_.low = b.set_.low then if a.set_.high = b.set_.high then f true else f false else f false else f false else f false else f false else f false) = f (eqV a b) := by
 have ht : eqV a b = true ↔ (a.kind = b.kind ∧ a.aH = b.aH ∧ a.index = b.index ∧ a.text.toList = b.text.toList ∧ a.set_.low = b.set_.low ∧ a.set_.high = b.set_.high) := by simp only [eqV, Bool.and_eq_true, beq_iff_eq]
 cases h : eqV a b with
 | true =>
  obtain ⟨h1, h2, h3, h4, h5, h6⟩ := ht.1 h;rw [if_pos h1, if_pos h2, if_pos h3, if_pos h4, if_pos h5, if_pos h6]
 | false =>
  have hn := mt ht.2 (by rw [h]; decide)
  split
  ·split
   ·split
    ·split
     ·split
      ·split
       ·exact absurd ⟨by assumption, by assumption, by assumption, by assumption, by assumption, by assumption⟩ hn
       ·rfl
      ·rfl
     ·rfl
    ·rfl
   ·rfl
  ·rfl
/-- A row of values, thing by thing. -/
theorem Zp.vat {F : Nat → Prop} {w : World} {l : List Ze} {A : Option Addr} {n c : Nat} (h : Zp Zd 6 F w l (.slice A n c)) {j : Nat} (hj : j < l.length) :
  ∃ b o, A = some ⟨b, o, none⟩ ∧ b < w.heap.size ∧ VAt w b (o + j * 6) l[j] ∧ Zd F w l[j] [.int .i64 l[j].kind, .int .i64 l[j].aH, .int .i64 l[j].index, .string l[j].text, .int .i64 l[j].set_.low, .int .i64 l[j].set_.high] := by
 obtain ⟨A', c', e, _, _, hel⟩ := h;cases e;obtain ⟨b, o, cs, rfl, _, hb, hE, hc⟩ := hel j hj;have hE0 := hE;obtain ⟨rfl, _⟩ := hE;exact ⟨b, o, rfl, hb, ⟨hc 0 _ rfl, hc 1 _ rfl, hc 2 _ rfl, hc 3 _ rfl, hc 4 _ rfl, hc 5 _ rfl⟩, hE0⟩
/-- A value that was just laid. -/
theorem VAt.new (w : World) (v : Ze) : VAt (w.alloc (.cells #[.int .i64 v.kind, .int .i64 v.aH, .int .i64 v.index, .string v.text, .int .i64 v.set_.low, .int .i64 v.set_.high] 34)) w.heap.size 0 v := by
 have h := heap_alloc_new w (.cells #[.int .i64 v.kind, .int .i64 v.aH, .int .i64 v.index, .string v.text, .int .i64 v.set_.low, .int .i64 v.set_.high] 34);refine ⟨?_, ?_, ?_, ?_, ?_, ?_⟩ <;> rw [cell_of_row _ _ _ _ _ _ h] <;> rfl
theorem Zmp (l : List Ze) (v : Value) (y : Ze) (F : Nat → Prop) (w : World) (hr : Zp Zd 6 F w l v) :
  Calls Tryz.prog 158 #[v, .agg #[.int .i64 y.kind, .int .i64 y.aH, .int .i64 y.index, .string y.text, .int .i64 y.set_.low, .int .i64 y.set_.high]] w fun e w' => e = .returned (.int .i64 (Zd7 l y)) ∧ Za w w' := by
 obtain ⟨A, c, rfl, hc, hcm, _⟩ := id hr;unfold maxLen at hcm;have HR0 := zh hr;clear hr;obtain ⟨R, hR⟩ : ∃ R, Zd7 l y = R := ⟨_, rfl⟩;rw [hR];have HR := zh hR;clear hR;have HV := zh (VAt.new w y);have HL := zh ((Za.refl w).alloc (.cells #[.int .i64 y.kind, .int .i64 y.aH, .int .i64 y.index, .string y.text, .int .i64 y.set_.low, .int .i64 y.set_.high] 34));go_enter Tryz.func158, Tryz.ntmps158;go_wp2_with fail
 go_loopw [8] (fun i wr => ∃ j : Nat, i = .int .i64 j ∧ j ≤ l.length ∧ Hd (∀ k (h : k < l.length), k < j → eqV l[k] y = false) ∧ Hd (Za w wr) ∧ VAt wr w.heap.size 0 y) (fun i _ => l.length - (intOf i).toNat)
 case atStart => exact ⟨0, rfl, Nat.zero_le _, zh (fun k _ h => by omega), HL, HV.o⟩
 case round =>
  obtain ⟨j, rfl, hj, HD, HLW, hv⟩ := hrel
  by_cases hlt : j < l.length
  ·obtain ⟨b, o, rfl, hb, hat, _⟩ := (HR0.o.later Zc HLW.o).vat hlt;have t1 : decide ((j : Int) < l.length) = true := decide_eq_true (by omega);go_wp2_with fail;refine Zbb [] [] (by kernel_rfl) (fun W hW => ?_);have hWL : Za wr W := by rw [hW]; exact (Za.refl _).drew
   have HAT := zh (hat.later hWL);have HVW := zh (hv.later hWL);have HLW2 := zh (HLW.o.trans hWL);clear hW hWL hat hv;obtain ⟨p, hp⟩ : ∃ p, eqV l[j] y = p := ⟨_, rfl⟩;refine tU 0 11 (v := ?_) rfl rfl (fun x hx => ?_) ?_;rotate_left
   ·obtain ⟨c0, c1, c2, c3, c4, c5⟩ := HAT.o.later hx; obtain ⟨d0, d1, d2, d3, d4, d5⟩ := HVW.o.later hx; go_simp;first|done|with_reducible rfl
   simp only [Act.put, nA, nB, nC];refine tU 1 12 (v := ?_) rfl rfl (fun x hx => ?_) ?_;rotate_left
   ·go_simp;first|done|with_reducible rfl
   simp only [Act.put, nA, nB, nC];refine tU 2 13 (v := ?_) rfl rfl (fun x hx => ?_) ?_;rotate_left
   ·go_simp;first|done|with_reducible rfl
   simp only [Act.put, nA, nB, nC];refine tU 3 14 (v := ?_) rfl rfl (fun x hx => ?_) ?_;rotate_left
   ·go_simp;first|done|with_reducible rfl|rw[if_neg (by omega)]|rw[if_pos (by omega)]
   simp only [Act.put, nA, nB, nC];refine tU 4 15 (v := ?_) rfl rfl (fun x hx => ?_) ?_;rotate_left
   ·obtain ⟨c0, c1, c2, c3, c4, c5⟩ := HAT.o.later hx; obtain ⟨d0, d1, d2, d3, d4, d5⟩ := HVW.o.later hx; go_simp;first|done|with_reducible rfl
   simp only [Act.put, nA, nB, nC];refine tU 5 16 (v := ?_) rfl rfl (fun x hx => ?_) ?_;rotate_left
   ·go_simp; refine (Zin y l[j] (fun q => Result.ok (Next.value (Value.bool q)) x)).trans ?_; rw [Zk6, hp];first|done|with_reducible rfl|rw[if_neg (by omega)]|rw[if_pos (by omega)]
   simp only [Act.put, nA, nB, nC];refine Zbl [] (by kernel_rfl) rfl rfl ?_;have HP := zh hp;clear hp
   cases p with
   | true =>
    have hR0 : R = (j : Int) := by rw [← HR.o, Zk4 hlt HP.o HD.o]
    subst hR0;go_wp2_with fail;go_ret;exact ⟨rfl, HLW2.o⟩
   | false =>
    have HD2 : Hd (∀ k (h : k < l.length), k < j + 1 → eqV l[k] y = false) := zh (fun k hk h => by
     rcases Nat.lt_or_ge k j with h1 | h1
     ·exact HD.o k hk h1
     ·obtain rfl : k = j := by omega
      exact HP.o)
    go_wp2_with fail
    go_roundw
    case rel => exact ⟨j + 1, by go_num, by omega, HD2, HLW2, HVW.o⟩
    case measure => simp [intOf]; omega
  ·have t1 : decide ((j : Int) < l.length) = false := decide_eq_false (by omega);have hR0 : R = -1 := by rw [← HR.o, Zk5 (fun k hk => HD.o k hk (by omega))]
   subst hR0;clear hv;go_wp2_with fail;go_ret;exact ⟨rfl, HLW.o⟩
/-- The Store r lies in the block B; what it reaches lies in F and shares nothing. -/
structure Za1 (F : Nat → Prop) (w : World) (B : Nat) (r : Zf) (cs : List Value) : Prop where
 blk : w.heap[B]? = some (.cells cs.toArray 30 (0, 0))
 sp : Zed F w r cs
 nB : ¬ F B
theorem Za1.at_ {F : Nat → Prop} {w : World} {B : Nat} {r : Zf} {cs : List Value} (h : Za1 F w B r cs) : Z1 F w B r cs := ⟨h.blk, Zba.el h.sp⟩
theorem Za1.lt {F : Nat → Prop} {w : World} {B : Nat} {r : Zf} {cs : List Value} (h : Za1 F w B r cs) : B < w.heap.size := Zb h.blk
theorem Za1.keep {F G : Nat → Prop} {w x : World} {B : Nat} {r : Zf} {cs : List Value} (h : Za1 F w B r cs) (hFG : ∀ b, F b → G b) (hG : ¬ G B) (hk : Zg F w x) (hb : x.heap[B]? = w.heap[B]?) : Za1 G x B r cs :=
 ⟨hb.trans h.blk, Zba.is.keep h.sp hFG hk, hG⟩
theorem Za1.later {F : Nat → Prop} {w x : World} {B : Nat} {r : Zf} {cs : List Value} (h : Za1 F w B r cs) (hl : Za w x) : Za1 F x B r cs := h.keep (fun _ h => h) h.nB (Zg.later hl) (hl.block B h.lt)
theorem Za1.trim {F : Nat → Prop} {w : World} {B : Nat} {r : Zf} {cs : List Value} (h : Za1 F w B r cs) : Za1 (fun b => F b ∧ b < w.heap.size) w B r cs := ⟨h.blk, Zba.trim h.sp, fun hb => h.nB hb.1⟩
def Zac (r : Zf) (o : Z8) : Zf := { r with aA := r.aA ++ [o] }
/-- What has been done to a Store of one's own. -/
structure Zax (F : Nat → Prop) (w : World) (B : Nat) (w' : World) : Prop where
 keep : Zg (fun y => ¬ F y ∧ y ≠ B) w w'
 below : Below 0 w w'
theorem Zax.refl (F : Nat → Prop) (w : World) (B : Nat) : Zax F w B w := ⟨Zg.refl _ _, Below.refl _ _⟩
theorem Zax.later {F : Nat → Prop} {w x : World} {B : Nat} (hl : Za w x) : Zax F w B x := ⟨Zg.later hl, Below.mono hl (Nat.zero_le _)⟩
theorem Zax.trans {F G : Nat → Prop} {w x y : World} {B : Nat} (h : Zax F w B x) (k : Zax G x B y) (hG : ∀ b, G b → b < w.heap.size → F b) : Zax F w B y :=
 ⟨⟨Nat.le_trans h.keep.size k.keep.size, fun b hb hl => (k.keep.same b ⟨fun hg => hb.1 (hG b hg hl), hb.2⟩ (Nat.lt_of_lt_of_le hl h.keep.size)).trans (h.keep.same b hb hl)⟩, h.below.trans (Below.mono k.below (Nat.zero_le _))⟩
/-- All that is outside lies below: then nothing below has turned. -/
theorem Zax.belowOf {F : Nat → Prop} {w x : World} {B n : Nat} (h : Zax F w B x) (hF : ∀ b, F b → n ≤ b) (hB : n ≤ B) (hn : n ≤ w.heap.size) : Below n w x :=
 ⟨h.below.os, h.below.tape, h.below.output, h.below.size, fun k hk => h.keep.same k ⟨fun hf => by have := hF k hf; omega, by omega⟩ (by omega)⟩
/-- Two values in a row of their own. -/
theorem Zpv {w : World} {b : Nat} {x y : Ze} {G : Nat → Prop} (hb : w.heap[b]? = some (.cells #[.int .i64 x.kind, .int .i64 x.aH, .int .i64 x.index, .string x.text, .int .i64 x.set_.low, .int .i64 x.set_.high, .int .i64 y.kind, .int .i64 y.aH, .int .i64 y.index, .string y.text, .int .i64 y.set_.low, .int .i64 y.set_.high] 34 (0, 0))) (hG : G b) (hx : Zd G w x [.int .i64 x.kind, .int .i64 x.aH, .int .i64 x.index, .string x.text, .int .i64 x.set_.low, .int .i64 x.set_.high]) (hy : Zd G w y [.int .i64 y.kind, .int .i64 y.aH, .int .i64 y.index, .string y.text, .int .i64 y.set_.low, .int .i64 y.set_.high]) :
  Zae Zd 6 34 G w [x, y] (.slice (some ⟨b, 0, none⟩) 2 2) := by
 refine ⟨_, 2, rfl, by simp, by unfold maxLen; omega, fun _ => ⟨b, 0, _, fun z => if z = b then 0 else 0, rfl, hG, hb, ⟨rfl, by simp⟩, fun i hi => ?_⟩⟩;simp only [List.length_cons, List.length_nil] at hi
 rcases (show i = 0 ∨ i = 1 by omega) with rfl | rfl
 ·refine ⟨[.int .i64 x.kind, .int .i64 x.aH, .int .i64 x.index, .string x.text, .int .i64 x.set_.low, .int .i64 x.set_.high], hx, ?_⟩;intro j z hj;have hlt := (List.getElem?_eq_some_iff.1 hj).1;simp only [List.length_cons, List.length_nil] at hlt
  rcases (show j = 0 ∨ j = 1 ∨ j = 2 ∨ j = 3 ∨ j = 4 ∨ j = 5 by omega) with rfl | rfl | rfl | rfl | rfl | rfl <;> exact hj
 ·refine ⟨[.int .i64 y.kind, .int .i64 y.aH, .int .i64 y.index, .string y.text, .int .i64 y.set_.low, .int .i64 y.set_.high], hy, ?_⟩;intro j z hj;have hlt := (List.getElem?_eq_some_iff.1 hj).1;simp only [List.length_cons, List.length_nil] at hlt
  rcases (show j = 0 ∨ j = 1 ∨ j = 2 ∨ j = 3 ∨ j = 4 ∨ j = 5 by omega) with rfl | rfl | rfl | rfl | rfl | rfl <;> exact hj
/-- The row of aA has grown by one, in the Store of one's own. -/
theorem Ze3 {F G : Nat → Prop} {w X Y : World} {B : Nat} {r : Zf} {o : Z8} {tag : Nat → Nat} {aL aM aN aO aP aQ aR v2 : Value} (hFw : ∀ b, F b → b < w.heap.size)
  (hblk : w.heap[B]? = some (.cells #[aL, aM, aN, aO, .string r.aC, .int .i64 r.aD, aP, aQ, aR, .bool r.aF, .int .i64 r.ticks, .int .i64 r.aG, .int .i64 r.made] 30 (0, 0)))
  (aV : Zae Zb0 1 9 (fun y => F y ∧ tag y = 0) w r.names aL) (aW : Zae Zb8 3 136 (fun y => F y ∧ tag y = 1) w r.aB aM) (aY : Zae Zd 6 34 (fun y => F y ∧ tag y = 3) w r.globals aO) (bB : Zae Zb0 1 9 (fun y => F y ∧ tag y = 4) w r.output aP) (bD : Zae Zb0 1 9 (fun y => F y ∧ tag y = 5) w r.trace aQ) (bE : Zae Zch 2 89 (fun y => F y ∧ tag y = 6) w r.aE aR) (aZ : r.aC.size ≤ maxLen) (bA : Zs r.aD) (bF : Zs r.ticks) (bG : Zs r.aG) (bH : Zs r.made)
  (hFG : ∀ y, G y → ¬ F y) (hFB : ¬ F B) (hGB : ¬ G B) (hl : Za w X)
  (hrow : Zae Za2 5 94 (fun y => (F y ∧ tag y = 2) ∨ G y ∨ y = X.heap.size) Y (r.aA ++ [o]) v2) (hk : Zg (fun y => ¬ (F y ∧ tag y = 2)) X Y) (hb0 : Below 0 X Y) :
  Za1 (fun y => F y ∨ G y ∨ w.heap.size ≤ y) (Y.setCell ⟨B, 2, none⟩ v2) B (Zac r o) [aL, aM, v2, aO, .string r.aC, .int .i64 r.aD, aP, aQ, aR, .bool r.aF, .int .i64 r.ticks, .int .i64 r.aG, .int .i64 r.made] ∧ Zax F w B (Y.setCell ⟨B, 2, none⟩ v2) ∧ Below 0 w (Y.setCell ⟨B, 2, none⟩ v2) := by
 classical
 have hBw := Zb hblk;have hXs := hl.size;have hYB : Y.heap[B]? = some (.cells #[aL, aM, aN, aO, .string r.aC, .int .i64 r.aD, aP, aQ, aR, .bool r.aF, .int .i64 r.ticks, .int .i64 r.aG, .int .i64 r.made] 30 (0, 0)) := (hk.same B (fun h => hFB h.1) (by omega)).trans ((hl.block B hBw).trans hblk);have hkw : Zg (fun y => ¬ (F y ∧ tag y = 2) ∧ y ≠ B) w (Y.setCell ⟨B, 2, none⟩ v2) := (Zg.trans (Zg.later hl) (hk.mono fun y hy => hy.1)).set (fun h => h.2 rfl) 2 v2;have hkr : ∀ i, i ≠ 2 → Zg (fun y => F y ∧ tag y = i) w (Y.setCell ⟨B, 2, none⟩ v2) := fun i hi => hkw.mono fun y hy => ⟨fun h => hi (hy.2.symm.trans h.2), fun e => hFB (e ▸ hy.1)⟩;have htg : ∀ i y, i ≠ 2 → F y ∧ tag y = i → (F y ∨ G y ∨ w.heap.size ≤ y) ∧ (if G y ∨ y = X.heap.size then 2 else tag y) = i := fun i y hi hy => ⟨.inl hy.1, by
  rw [if_neg]
  ·exact hy.2
  ·rintro (h | h)
   ·exact hFG y h hy.1
   ·have := hFw y hy.1; omega⟩
 refine ⟨⟨?_, ⟨fun y => if G y ∨ y = X.heap.size then 2 else tag y, aL, aM, v2, aO, aP, aQ, aR, rfl, aV.keep Zt.is (fun y hy => htg 0 y (by decide) hy) (hkr 0 (by decide)), aW.keep Zv.is (fun y hy => htg 1 y (by decide) hy) (hkr 1 (by decide)), ?_, aY.keep Zj.is (fun y hy => htg 3 y (by decide) hy) (hkr 3 (by decide)), aZ, bA, bB.keep Zt.is (fun y hy => htg 4 y (by decide) hy) (hkr 4 (by decide)), bD.keep Zt.is (fun y hy => htg 5 y (by decide) hy) (hkr 5 (by decide)), bE.keep Zav.is (fun y hy => htg 6 y (by decide) hy) (hkr 6 (by decide)), bF, bG, bH⟩, ?_⟩, ⟨hkw.mono fun y hy => ⟨fun h => hy.1 h.1, hy.2⟩, ?_⟩, ?_⟩
 ·have := Zaj (o := 2) hYB v2
  simpa using this
 ·refine hrow.keep Zr.is (fun y hy => ?_) ((Zg.refl _ _).set ?_ 2 v2)
  ·rcases hy with h | h | h
   ·refine ⟨.inl h.1, ?_⟩;show (if G y ∨ y = X.heap.size then 2 else tag y) = 2
    split
    ·rfl
    ·exact h.2
   ·exact ⟨.inr (.inl h), by show (if G y ∨ y = X.heap.size then 2 else tag y) = 2; rw [if_pos (.inl h)]⟩
   ·exact ⟨.inr (.inr (by omega)), by show (if G y ∨ y = X.heap.size then 2 else tag y) = 2; rw [if_pos (.inr h)]⟩
  ·rintro (h | h | h)
   ·exact hFB h.1
   ·exact hGB h
   ·omega
 ·rintro (h | h | h)
  ·exact hFB h
  ·exact hGB h
  ·omega
 ·exact ((Below.mono hl (Nat.zero_le _)).trans hb0).setCell (Nat.zero_le _) v2
 ·exact ((Below.mono hl (Nat.zero_le _)).trans hb0).setCell (Nat.zero_le _) v2
theorem Zi8 (r : Zf) (B : Nat) (cs : List Value) (F G : Nat → Prop) (w : World) (o : Z8) (os : List Value) (h : Za1 F w B r cs) (ho : Za2 G w o os) (hFG : ∀ y, G y → ¬ F y) (hGB : ¬ G B) (hm : r.aA.length ≤ 1048576) :
  Calls Tryz.prog 142 #[.pointer (some ⟨B, 0, none⟩), .agg os.toArray] w fun e w' => e = .returned (.int .i64 r.aA.length) ∧ (∃ cs', Za1 (fun y => F y ∨ G y ∨ w.heap.size ≤ y) w' B (Zac r o) cs') ∧ Zax F w B w' := by
 obtain ⟨iO, hiO, hz0, hz1, hz2⟩ := info_parts Zcs;have hoo := ho;obtain ⟨hblk, ⟨tag, aL, aM, aN, aO, aP, aQ, aR, rfl, aV, aW, aX, aY, aZ, bA, bB, bD, bE, bF, bG, bH⟩, hnB⟩ := h.trim;obtain ⟨otag, vi, vk, rfl, hk64, ht64, hs64, hi, hk⟩ := ho;obtain ⟨Ai, ci, rfl, _⟩ := id hi;obtain ⟨Ak, ck, rfl, _⟩ := id hk;obtain ⟨Ao, co, rfl, hco, hcmo, _⟩ := id aX;unfold maxLen at hcmo;have HOO := zh hoo;have HBLK := zh hblk;have HOB := zh aX;have HRS := zh (And.intro aV (And.intro aW (And.intro aY (And.intro bB (And.intro bD bE)))));have HPL := zh (And.intro aZ (And.intro bA (And.intro bF (And.intro bG bH))));have HNB := zh hnB;have HFG := zh hFG;have HGB := zh hGB;clear h hoo hblk aX aV aW aY aZ bA bB bD bE bF bG bH hnB hFG hGB hi hk;simp only at *;go_enter Tryz.func142, Tryz.ntmps142;go_upto_region 1 with (fail);refine Zbb [7, 8, 9, 10] [0] (by kernel_rfl) (fun W hW => ?_);have hWL : Za w W := by rw [hW]; exact ((Za.refl w).alloc _).drew
 have hBN := (hWL.block B (Zb HBLK.o)).trans HBLK.o;have hNN := zh (show W.heap[w.heap.size]? = some (.cells #[.int .i64 o.kind, .int .i64 o.tag, .int .i64 o.aI, .slice Ai o.aJ.length ci, .slice Ak o.aK.length ck] 94 (0, 0)) by rw [hW]; exact heap_alloc_new w (.cells #[.int .i64 o.kind, .int .i64 o.tag, .int .i64 o.aI, .slice Ai o.aJ.length ci, .slice Ak o.aK.length ck] 94));have b2 := cq hBN 2;obtain ⟨n0, n1, n2, n3, n4⟩ := cz5 hNN.o;simp only [nD, nE, nF] at b2;have HBN := zh hBN;have hBW := Zb HBN.o;have hNW := Zb hNN.o;have HWL := zh hWL;clear hW hWL hBN;refine Zev 0 (some 5) (v := ?_) rfl rfl (by kernel_rfl) (fun _ _ _ h => h) rfl (fun x => ?_) ?_;rotate_left
 ·go_simp;first|done|with_reducible rfl
 simp only [Act.put, nA, nB, nC];refine tU 1 6 (v := ?_) rfl rfl (fun x hx => ?_) ?_;rotate_left
 ·go_simp;first|done|with_reducible rfl
 simp only [Act.put, nA, nB, nC];refine tU 2 7 (v := ?_) rfl rfl (fun x hx => ?_) ?_;rotate_left
 ·go_simp;first|done|with_reducible rfl
 simp only [Act.put, nA, nB, nC];refine tU 3 8 (v := ?_) rfl rfl (fun x hx => ?_) ?_;rotate_left
 ·go_simp;first|done|with_reducible rfl
 simp only [Act.put, nA, nB, nC];refine tU 4 9 (v := ?_) rfl rfl (fun x hx => ?_) ?_;rotate_left
 ·have x2 := (hx.cell ⟨B, 2, none⟩ hBW).trans b2; have y0 := (hx.cell ⟨w.heap.size, 0, none⟩ hNW).trans n0; have y1 := (hx.cell ⟨w.heap.size, 1, none⟩ hNW).trans n1; have y2 := (hx.cell ⟨w.heap.size, 2, none⟩ hNW).trans n2; have y3 := (hx.cell ⟨w.heap.size, 3, none⟩ hNW).trans n3; have y4 := (hx.cell ⟨w.heap.size, 4, none⟩ hNW).trans n4; go_simp;first|done|with_reducible rfl
 simp only [Act.put, nA, nB, nC];refine tU 5 10 (v := ?_) rfl rfl (fun x hx => ?_) ?_;rotate_left
 ·have x2 := (hx.cell ⟨B, 2, none⟩ hBW).trans b2; have y0 := (hx.cell ⟨w.heap.size, 0, none⟩ hNW).trans n0; have y1 := (hx.cell ⟨w.heap.size, 1, none⟩ hNW).trans n1; have y2 := (hx.cell ⟨w.heap.size, 2, none⟩ hNW).trans n2; have y3 := (hx.cell ⟨w.heap.size, 3, none⟩ hNW).trans n3; have y4 := (hx.cell ⟨w.heap.size, 4, none⟩ hNW).trans n4; go_simp;first|done|with_reducible rfl
 simp only [Act.put, nA, nB, nC];refine Zdf 6 (by kernel_rfl) rfl rfl ?_;go_wp2_with fail;refine ⟨(Za.refl _).alloc _, ?_⟩;refine Zbl [_, _, _, _] (by kernel_rfl) rfl rfl ?_;simp only [List.getElem_toArray, List.getElem_cons_succ, List.getElem_cons_zero];have HXL := zh (HWL.o.trans ((Za.refl W).alloc (.cells #[.int .i64 o.kind, .int .i64 o.tag, .int .i64 o.aI, .slice Ai o.aJ.length ci, .slice Ak o.aK.length ck] 94)));have HROW := zh (HOB.o.keep Zr.is (fun _ h => h) (Zg.later HXL.o));have HOX := zh (Zr.is.keep HOO.o (fun _ h => h) (Zg.later HXL.o));have HBX := zh (HXL.o.block B (by have := Zb HBLK.o; omega) |>.trans HBLK.o);clear b2 n0 n1 n2 n3 n4 hBW hNW
 go_upto_region 2 with (at_builtin; refine Zan Zr rfl _ _ 26 rfl 94 iO (.agg #[.int .i64 0, .int .i64 0, .int .i64 0, .slice none 0 0, .slice none 0 0]) 72 Tryz.underlying26 hiO hz0 hz1 hz2 rfl rfl HROW.o ⟨W.heap.size, 0, none⟩ 1 rfl o [.int .i64 o.kind, .int .i64 o.tag, .int .i64 o.aI, .slice Ai o.aJ.length ci, .slice Ak o.aK.length ck] (Zcl W [.int .i64 o.kind, .int .i64 o.tag, .int .i64 o.aI, .slice Ai o.aJ.length ci, .slice Ak o.aK.length ck] 94) (by intro u hu; simp at hu; rcases hu with rfl | rfl | rfl | rfl | rfl <;> rfl) HOX.o (fun y hg hf => HFG.o y hg hf.1.1) (by omega) (by decide) ?_; intro v2 Y hrow hkp hb0; have hYB := (hkp.same B (fun h => HNB.o h.1) (Zb HBX.o)).trans HBX.o; have yc := cell_of_row _ B 2 _ _ _ hYB; simp only [nD, nE, nF] at yc; have yf := frozen_of_row _ B 2 _ _ hYB; obtain ⟨A2, c2, rfl, hc2, hcm2, _⟩ := id hrow; unfold maxLen at hcm2)
 clear yc yf hYB;obtain ⟨hS, hG1, hG2⟩ := Ze3 (fun b hb => hb.2) HBLK.o HRS.o.1 HRS.o.2.1 HRS.o.2.2.1 HRS.o.2.2.2.1 HRS.o.2.2.2.2.1 HRS.o.2.2.2.2.2 HPL.o.1 HPL.o.2.1 HPL.o.2.2.1 HPL.o.2.2.2.1 HPL.o.2.2.2.2 (fun y hg hf => HFG.o y hg hf.1) HNB.o HGB.o HXL.o hrow hkp hb0;clear hrow hkp hb0;simp only [List.length_append, List.length_cons, List.length_nil, Nat.zero_add] at hS hG1 hG2;obtain ⟨Z, hZ⟩ : ∃ Z, Z = Y.setCell ⟨B, 2, none⟩ (.slice A2 (r.aA.length + 1) c2) := ⟨_, rfl⟩;rw [← hZ] at hS hG1 hG2 ⊢;have HS := zh hS;have HG := zh hG1;have z2 := cq hS.blk 2;simp only [nD, nE, nF, List.length_append, List.length_cons, List.length_nil, Nat.zero_add] at z2;clear hZ hS hG1 hG2;go_wp2_with fail;go_ret;exact ⟨by first | rfl | (congr 2; omega), ⟨_, HS.o.keep (fun y hy => hy.imp (fun h => h.1) id) (by rintro (h | h | h) <;> first | exact HNB.o ⟨h, Zb HBLK.o⟩ | exact HGB.o h | (have := Zb HBLK.o; omega)) (Zg.refl _ _) rfl⟩, ⟨HG.o.keep.mono fun y hy => ⟨fun h => hy.1 h.1, hy.2⟩, HG.o.below⟩⟩
theorem Zpw (r : Zf) (B : Nat) (cs : List Value) (F G : Nat → Prop) (w : World) (o : Z8) (os : List Value) (h : Za1 F w B r cs) (ho : Za2 G w o os) (hFG : ∀ y, G y → ¬ F y) (hGB : ¬ G B) (hm : r.aA.length ≤ 1048576) (hk8 : o.kind = 8 ∧ o.tag = 0 ∧ o.aI = 0) :
  Calls Tryz.prog 132 #[.pointer (some ⟨B, 0, none⟩), .agg os.toArray] w fun e w' => e = .returned (.int .i64 r.aA.length) ∧ (∃ cs', Za1 (fun y => F y ∨ G y ∨ w.heap.size ≤ y) w' B (Zac r o) cs') ∧ Zax F w B w' := by
 obtain ⟨iO, hiO, hz0, hz1, hz2⟩ := info_parts Zcs;have hoo := ho;obtain ⟨okd, otg, osr, oit, oky⟩ := o;obtain ⟨rfl, rfl, rfl⟩ := hk8;obtain ⟨hblk, ⟨tag, aL, aM, aN, aO, aP, aQ, aR, rfl, aV, aW, aX, aY, aZ, bA, bB, bD, bE, bF, bG, bH⟩, hnB⟩ := h.trim;obtain ⟨otag, vi, vk, rfl, hk64, ht64, hs64, hi, hk⟩ := ho;obtain ⟨Ai, ci, rfl, _⟩ := id hi;obtain ⟨Ak, ck, rfl, _⟩ := id hk;obtain ⟨Ao, co, rfl, hco, hcmo, _⟩ := id aX;unfold maxLen at hcmo;have HOO := zh hoo;have HBLK := zh hblk;have HOB := zh aX;have HRS := zh (And.intro aV (And.intro aW (And.intro aY (And.intro bB (And.intro bD bE)))));have HPL := zh (And.intro aZ (And.intro bA (And.intro bF (And.intro bG bH))));have HNB := zh hnB;have HFG := zh hFG;have HGB := zh hGB;clear h hoo hblk aX aV aW aY aZ bA bB bD bE bF bG bH hnB hFG hGB hi hk;simp only at *;go_enter Tryz.func132, Tryz.ntmps132;go_upto_region 4 with (fail);refine Zbb [7, 8, 9, 10] [0] (by kernel_rfl) (fun W hW => ?_);have hWL : Za w W := by rw [hW]; exact ((Za.refl w).alloc _).drew
 have hBN := (hWL.block B (Zb HBLK.o)).trans HBLK.o;have hNN := zh (show W.heap[w.heap.size]? = some (.cells #[.int .i64 8, .int .i64 0, .int .i64 0, .slice Ai oit.length ci, .slice Ak oky.length ck] 94 (0, 0)) by rw [hW]; exact heap_alloc_new w (.cells #[.int .i64 8, .int .i64 0, .int .i64 0, .slice Ai oit.length ci, .slice Ak oky.length ck] 94));have b2 := cq hBN 2;obtain ⟨n0, n1, n2, n3, n4⟩ := cz5 hNN.o;simp only [nD, nE, nF] at b2;have HBN := zh hBN;have hBW := Zb HBN.o;have hNW := Zb hNN.o;have HWL := zh hWL;clear hW hWL hBN;refine Zev 0 (some 25) (v := ?_) rfl rfl (by kernel_rfl) (fun _ _ _ h => h) rfl (fun x => ?_) ?_;rotate_left
 ·go_simp;first|done|with_reducible rfl
 simp only [Act.put, nA, nB, nC];refine tU 1 26 (v := ?_) rfl rfl (fun x hx => ?_) ?_;rotate_left
 ·go_simp;first|done|with_reducible rfl
 simp only [Act.put, nA, nB, nC];refine tU 2 27 (v := ?_) rfl rfl (fun x hx => ?_) ?_;rotate_left
 ·go_simp;first|done|with_reducible rfl
 simp only [Act.put, nA, nB, nC];refine tU 3 28 (v := ?_) rfl rfl (fun x hx => ?_) ?_;rotate_left
 ·go_simp;first|done|with_reducible rfl
 simp only [Act.put, nA, nB, nC];refine tU 4 29 (v := ?_) rfl rfl (fun x hx => ?_) ?_;rotate_left
 ·have x2 := (hx.cell ⟨B, 2, none⟩ hBW).trans b2; have y0 := (hx.cell ⟨w.heap.size, 0, none⟩ hNW).trans n0; have y1 := (hx.cell ⟨w.heap.size, 1, none⟩ hNW).trans n1; have y2 := (hx.cell ⟨w.heap.size, 2, none⟩ hNW).trans n2; have y3 := (hx.cell ⟨w.heap.size, 3, none⟩ hNW).trans n3; have y4 := (hx.cell ⟨w.heap.size, 4, none⟩ hNW).trans n4; go_simp;first|done|with_reducible rfl
 simp only [Act.put, nA, nB, nC];refine tU 5 30 (v := ?_) rfl rfl (fun x hx => ?_) ?_;rotate_left
 ·have x2 := (hx.cell ⟨B, 2, none⟩ hBW).trans b2; have y0 := (hx.cell ⟨w.heap.size, 0, none⟩ hNW).trans n0; have y1 := (hx.cell ⟨w.heap.size, 1, none⟩ hNW).trans n1; have y2 := (hx.cell ⟨w.heap.size, 2, none⟩ hNW).trans n2; have y3 := (hx.cell ⟨w.heap.size, 3, none⟩ hNW).trans n3; have y4 := (hx.cell ⟨w.heap.size, 4, none⟩ hNW).trans n4; go_simp;first|done|with_reducible rfl
 simp only [Act.put, nA, nB, nC];refine Zdf 6 (by kernel_rfl) rfl rfl ?_;go_wp2_with fail;refine ⟨(Za.refl _).alloc _, ?_⟩;refine Zbl [_, _, _, _] (by kernel_rfl) rfl rfl ?_;simp only [List.getElem_toArray, List.getElem_cons_succ, List.getElem_cons_zero];have HXL := zh (HWL.o.trans ((Za.refl W).alloc (.cells #[.int .i64 8, .int .i64 0, .int .i64 0, .slice Ai oit.length ci, .slice Ak oky.length ck] 94)));have HROW := zh (HOB.o.keep Zr.is (fun _ h => h) (Zg.later HXL.o));have HOX := zh (Zr.is.keep HOO.o (fun _ h => h) (Zg.later HXL.o));have HBX := zh (HXL.o.block B (by have := Zb HBLK.o; omega) |>.trans HBLK.o);clear b2 n0 n1 n2 n3 n4 hBW hNW
 go_upto_region 5 with (at_builtin; refine Zan Zr rfl _ _ 26 rfl 94 iO (.agg #[.int .i64 0, .int .i64 0, .int .i64 0, .slice none 0 0, .slice none 0 0]) 72 Tryz.underlying26 hiO hz0 hz1 hz2 rfl rfl HROW.o ⟨W.heap.size, 0, none⟩ 1 rfl ⟨8, 0, 0, oit, oky⟩ [.int .i64 8, .int .i64 0, .int .i64 0, .slice Ai oit.length ci, .slice Ak oky.length ck] (Zcl W [.int .i64 8, .int .i64 0, .int .i64 0, .slice Ai oit.length ci, .slice Ak oky.length ck] 94) (by intro u hu; simp at hu; rcases hu with rfl | rfl | rfl | rfl | rfl <;> rfl) HOX.o (fun y hg hf => HFG.o y hg hf.1.1) (by omega) (by decide) ?_; intro v2 Y hrow hkp hb0; have hYB := (hkp.same B (fun h => HNB.o h.1) (Zb HBX.o)).trans HBX.o; have yc := cell_of_row _ B 2 _ _ _ hYB; simp only [nD, nE, nF] at yc; have yf := frozen_of_row _ B 2 _ _ hYB; obtain ⟨A2, c2, rfl, hc2, hcm2, _⟩ := id hrow; unfold maxLen at hcm2)
 clear yc yf hYB;obtain ⟨hS, hG1, hG2⟩ := Ze3 (fun b hb => hb.2) HBLK.o HRS.o.1 HRS.o.2.1 HRS.o.2.2.1 HRS.o.2.2.2.1 HRS.o.2.2.2.2.1 HRS.o.2.2.2.2.2 HPL.o.1 HPL.o.2.1 HPL.o.2.2.1 HPL.o.2.2.2.1 HPL.o.2.2.2.2 (fun y hg hf => HFG.o y hg hf.1) HNB.o HGB.o HXL.o hrow hkp hb0;clear hrow hkp hb0;simp only [List.length_append, List.length_cons, List.length_nil, Nat.zero_add] at hS hG1 hG2;obtain ⟨Z, hZ⟩ : ∃ Z, Z = Y.setCell ⟨B, 2, none⟩ (.slice A2 (r.aA.length + 1) c2) := ⟨_, rfl⟩;rw [← hZ] at hS hG1 hG2 ⊢;have HS := zh hS;have HG := zh hG1;have z2 := cq hS.blk 2;simp only [nD, nE, nF, List.length_append, List.length_cons, List.length_nil, Nat.zero_add] at z2;clear hZ hS hG1 hG2;go_wp2_with fail;go_ret;exact ⟨by first | rfl | (congr 2; omega), ⟨_, HS.o.keep (fun y hy => hy.imp (fun h => h.1) id) (by rintro (h | h | h) <;> first | exact HNB.o ⟨h, Zb HBLK.o⟩ | exact HGB.o h | (have := Zb HBLK.o; omega)) (Zg.refl _ _) rfl⟩, ⟨HG.o.keep.mono fun y hy => ⟨fun h => hy.1 h.1, hy.2⟩, HG.o.below⟩⟩
end Go.Proofs.YtpmhelkiicigfaaGreatDoor
