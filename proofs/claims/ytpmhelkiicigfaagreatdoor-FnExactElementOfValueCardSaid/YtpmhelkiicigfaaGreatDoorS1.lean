/- Part of the walks that the claim stands on. -/
import Derived.Lib.Hide
import Derived.Below
import Derived.Laws.Rows
import Derived.Deep.RegionHeld3
import Derived.Deep.DrawnRows
import Derived.WalkKit
import Derived.ProofKit
import Derived.OpenShut
import Derived.Laws.AppendOwn
import Derived.OwnWalk
import Derived.Deep.QuietTactic
import Derived.BigQuiet
import Derived.WalkSmall
import Derived.Laws.AppendOwnNone
import Derived.Laws.Strings
import Derived.Lib.ItoaMem
import Derived.Lib.ItoaLen
import Derived.Lib.Split
import Derived.Test.YtpmhelkiicigfaaGreatDoorChecked
import Derived.WalkSpells
import Derived.WalkLawsBesides
import Derived.Outline
import Derived.Test.YtpmhelkiicigfaaGreatDoorShelf
import Derived.Deep.DeepCutAuto
set_option maxRecDepth 100000
set_option maxHeartbeats 40000000
namespace Go.Proofs.YtpmhelkiicigfaaGreatDoor
open Go.RowKit
theorem nA {α : Type} (l : List α) (i : Nat) (a : α) : l.toArray.setIfInBounds i a = (l.set i a).toArray := List.setIfInBounds_toArray ..
theorem nB {α : Type} (a b : α) (l : List α) : (a :: l).set 0 b = b :: l := rfl
theorem nC {α : Type} (a b : α) (l : List α) (n : Nat) : (a :: l).set (n + 1) b = a :: l.set n b := rfl
theorem nD {α : Type} (l : List α) (i : Nat) : l.toArray[i]? = l[i]? := List.getElem?_toArray
theorem nE {α : Type} (a : α) (l : List α) (i : Nat) : (a :: l)[i + 1]? = l[i]? := List.getElem?_cons_succ
theorem nF {α : Type} (a : α) (l : List α) : (a :: l)[0]? = some a := List.getElem?_cons_zero
theorem nH {α : Type} [BEq α] [LawfulBEq α] {a b : α} : (a == b) = false ↔ a ≠ b := beq_eq_false_iff_ne
theorem nI {p : Prop} [Decidable p] : decide p = false ↔ ¬ p := decide_eq_false_iff_not
theorem nJ {p : Prop} [Decidable p] : (decide p = true) = p := decide_eq_true_eq
theorem nK {α : Type} [BEq α] [LawfulBEq α] {a b : α} : (a == b) = true ↔ a = b := beq_iff_eq
theorem nL {α : Type} [BEq α] [LawfulBEq α] {a b : α} : (a != b) = true ↔ a ≠ b := bne_iff_ne
theorem nM (b : Bool) : ((!b) = true) = (b = false) := Bool.not_eq_true' b
def Hd (p : Prop) : Prop := p
theorem Hd.o {p : Prop} (h : Hd p) : p := h
theorem zh {p : Prop} (h : p) : Hd p := h
theorem lB {w : World} {b : Nat} {o : Obj} (h : w.heap[b]? = some o) : b < w.heap.size := (Array.getElem?_eq_some_iff.1 h).1
theorem zB {u v : World} {b : Nat} {o : Obj} (h : Hd (Below u.heap.size u v)) (k : Hd (u.heap[b]? = some o)) : Hd (v.heap[b]? = some o) := (Below.block h b (lB k)).trans k
theorem zC {u v : World} {b : Nat} {o : Obj} (h : Below u.heap.size u v) (k : Hd (u.heap[b]? = some o)) : Hd (v.heap[b]? = some o) := (Below.block h b (lB k)).trans k
theorem cq {w : World} {g : Nat} {cs : Array Value} {t : TypeId} {fr : Nat × Nat} (h : w.heap[g]? = some (.cells cs t fr)) (j : Nat) : w.cell? ⟨g, j, none⟩ = cs[j]? := cell_of_row w g j cs t fr h
theorem fz {w : World} {g : Nat} {cs : Array Value} {t : TypeId} (h : w.heap[g]? = some (.cells cs t (0, 0))) : ∀ j, w.frozen? ⟨g, j, none⟩ = false := fun j => frozen_of_row w g j cs t h
theorem cz2 {w : World} {g : Nat} {t : TypeId} {fr : Nat × Nat} {r : List Value} {a0 a1 : Value} (h : w.heap[g]? = some (.cells (a0 :: a1 :: r).toArray t fr)) : w.cell? ⟨g, 0, none⟩ = some a0 ∧ w.cell? ⟨g, 1, none⟩ = some a1 := ⟨(cell_of_row w g 0 _ t fr h).trans (by simp), (cell_of_row w g 1 _ t fr h).trans (by simp)⟩
theorem cz3 {w : World} {g : Nat} {t : TypeId} {fr : Nat × Nat} {r : List Value} {a0 a1 a2 : Value} (h : w.heap[g]? = some (.cells (a0 :: a1 :: a2 :: r).toArray t fr)) : w.cell? ⟨g, 0, none⟩ = some a0 ∧ w.cell? ⟨g, 1, none⟩ = some a1 ∧ w.cell? ⟨g, 2, none⟩ = some a2 := ⟨(cell_of_row w g 0 _ t fr h).trans (by simp), (cell_of_row w g 1 _ t fr h).trans (by simp), (cell_of_row w g 2 _ t fr h).trans (by simp)⟩
theorem cz5 {w : World} {g : Nat} {t : TypeId} {fr : Nat × Nat} {r : List Value} {a0 a1 a2 a3 a4 : Value} (h : w.heap[g]? = some (.cells (a0 :: a1 :: a2 :: a3 :: a4 :: r).toArray t fr)) : w.cell? ⟨g, 0, none⟩ = some a0 ∧ w.cell? ⟨g, 1, none⟩ = some a1 ∧ w.cell? ⟨g, 2, none⟩ = some a2 ∧ w.cell? ⟨g, 3, none⟩ = some a3 ∧ w.cell? ⟨g, 4, none⟩ = some a4 := ⟨(cell_of_row w g 0 _ t fr h).trans (by simp), (cell_of_row w g 1 _ t fr h).trans (by simp), (cell_of_row w g 2 _ t fr h).trans (by simp), (cell_of_row w g 3 _ t fr h).trans (by simp), (cell_of_row w g 4 _ t fr h).trans (by simp)⟩
theorem cz6 {w : World} {g : Nat} {t : TypeId} {fr : Nat × Nat} {r : List Value} {a0 a1 a2 a3 a4 a5 : Value} (h : w.heap[g]? = some (.cells (a0 :: a1 :: a2 :: a3 :: a4 :: a5 :: r).toArray t fr)) : w.cell? ⟨g, 0, none⟩ = some a0 ∧ w.cell? ⟨g, 1, none⟩ = some a1 ∧ w.cell? ⟨g, 2, none⟩ = some a2 ∧ w.cell? ⟨g, 3, none⟩ = some a3 ∧ w.cell? ⟨g, 4, none⟩ = some a4 ∧ w.cell? ⟨g, 5, none⟩ = some a5 := ⟨(cell_of_row w g 0 _ t fr h).trans (by simp), (cell_of_row w g 1 _ t fr h).trans (by simp), (cell_of_row w g 2 _ t fr h).trans (by simp), (cell_of_row w g 3 _ t fr h).trans (by simp), (cell_of_row w g 4 _ t fr h).trans (by simp), (cell_of_row w g 5 _ t fr h).trans (by simp)⟩
theorem Zae {w : World} {g : Nat} {t : TypeId} {fr : Nat × Nat} {r : List Value} {a0 a1 a2 a3 a4 a5 a6 a7 a8 a9 a10 a11 a12 : Value} (h : w.heap[g]? = some (.cells (a0 :: a1 :: a2 :: a3 :: a4 :: a5 :: a6 :: a7 :: a8 :: a9 :: a10 :: a11 :: a12 :: r).toArray t fr)) : w.cell? ⟨g, 0, none⟩ = some a0 ∧ w.cell? ⟨g, 1, none⟩ = some a1 ∧ w.cell? ⟨g, 2, none⟩ = some a2 ∧ w.cell? ⟨g, 3, none⟩ = some a3 ∧ w.cell? ⟨g, 4, none⟩ = some a4 ∧ w.cell? ⟨g, 5, none⟩ = some a5 ∧ w.cell? ⟨g, 6, none⟩ = some a6 ∧ w.cell? ⟨g, 7, none⟩ = some a7 ∧ w.cell? ⟨g, 8, none⟩ = some a8 ∧ w.cell? ⟨g, 9, none⟩ = some a9 ∧ w.cell? ⟨g, 10, none⟩ = some a10 ∧ w.cell? ⟨g, 11, none⟩ = some a11 ∧ w.cell? ⟨g, 12, none⟩ = some a12 := ⟨(cell_of_row w g 0 _ t fr h).trans (by simp), (cell_of_row w g 1 _ t fr h).trans (by simp), (cell_of_row w g 2 _ t fr h).trans (by simp), (cell_of_row w g 3 _ t fr h).trans (by simp), (cell_of_row w g 4 _ t fr h).trans (by simp), (cell_of_row w g 5 _ t fr h).trans (by simp), (cell_of_row w g 6 _ t fr h).trans (by simp), (cell_of_row w g 7 _ t fr h).trans (by simp), (cell_of_row w g 8 _ t fr h).trans (by simp), (cell_of_row w g 9 _ t fr h).trans (by simp), (cell_of_row w g 10 _ t fr h).trans (by simp), (cell_of_row w g 11 _ t fr h).trans (by simp), (cell_of_row w g 12 _ t fr h).trans (by simp)⟩
end Go.Proofs.YtpmhelkiicigfaaGreatDoor
namespace Go.Proofs.YtpmhelkiicigfaaGreatDoor
open Go.RowKit
/-- x is w with new blocks alone (and other draws). -/
def Za (w x : World) : Prop := Below w.heap.size w x
theorem Za.refl (w : World) : Za w w := Below.refl _ _
theorem Za.trans {a b c : World} (h : Za a b) (k : Za b c) : Za a c := Below.trans h (Below.mono k h.size)
theorem Za.cell {w x : World} (h : Za w x) : ∀ p : Addr, p.block < w.heap.size → x.cell? p = w.cell? p := fun _ hp => Below.cell h hp
theorem Za.frozen {w x : World} (h : Za w x) : ∀ p : Addr, p.block < w.heap.size → x.frozen? p = w.frozen? p := fun _ hp => Below.frozen h hp
theorem Za.block {w x : World} (h : Za w x) : ∀ k, k < w.heap.size → x.heap[k]? = w.heap[k]? := fun k hk => Below.block h k hk
theorem Za.size {w x : World} (h : Za w x) : w.heap.size ≤ x.heap.size := Below.size h
theorem Za.drew {w x : World} (h : Za w x) : Za w x.drew := Below.drew h
theorem Za.alloc {w x : World} (h : Za w x) (o : Obj) : Za w (x.alloc o) := Below.alloc h h.size o
section
variable {P : Program} {ops : Array Oper} {Q : Exit → Act → World → Prop} {md : Region.Mode} {tl : Nat → Bool} {S S' : World → Prop}
/-- Whatever order is picked from here on; behind every operation that is not among the last ones S holds. -/
def Zim (P : Program) (md : Region.Mode) (ops : Array Oper) (Q : Exit → Act → World → Prop) (tl : Nat → Bool) (S : World → Prop) : Nat → Array Bool → Act → World → Prop
 | 0, listed, a, w => Region.ready md ops listed = [] ∧ Q .normal a w
 | fuel + 1, listed, a, w =>
  (Region.ready md ops listed = [] → Q .normal a w) ∧
  ∀ i ∈ Region.ready md ops listed, wpOp P ops Q i (fun a' w' => (tl i = false → S w') ∧ Zim P md ops Q tl S fuel (listed.setIfInBounds i true) a' w') a w
theorem Zn2 : ∀ (fuel : Nat) (listed : Array Bool) (a : Act) (w : World), Zim P md ops Q tl S fuel listed a w → wpAny P md ops Q fuel listed a w
 | 0, _, _, _, h => h
 | fuel + 1, _, _, _, h => ⟨h.1, fun i hi => wpOp_mono (fun a' w' h' => Zn2 fuel _ a' w' h'.2) (h.2 i hi)⟩
theorem Zl5 (hs : ∀ w, S' w → S w) : ∀ (fuel : Nat) (listed : Array Bool) (a : Act) (w : World), Zim P md ops Q tl S' fuel listed a w → Zim P md ops Q tl S fuel listed a w
 | 0, _, _, _, h => h
 | fuel + 1, _, _, _, h => ⟨h.1, fun i hi => wpOp_mono (fun a' w' h' => ⟨fun ht => hs _ (h'.1 ht), Zl5 hs fuel _ a' w' h'.2⟩) (h.2 i hi)⟩
/-- What is listed has its forerunners listed. -/
def Zin (md : Region.Mode) (ops : Array Oper) (listed : Array Bool) : Prop :=
 ∀ j o, ops[j]? = some o → listed.getD j false = true → ∀ e ∈ o.after, Region.binds md e = true → listed.getD e.on false = true
def Zo5 (md : Region.Mode) (ops : Array Oper) (listed : Array Bool) : Bool :=
 (List.range ops.size).all fun j => !listed.getD j false || match ops[j]? with
  | some o => o.after.all fun e => !Region.binds md e || listed.getD e.on false
  | none => true
theorem Zk0 {listed : Array Bool} (h : Zo5 md ops listed = true) : Zin md ops listed := by
 intro j o ho hl e he hb;have hj : j < ops.size := (Array.getElem?_eq_some_iff.1 ho).1;have h1 := List.all_eq_true.1 h j (List.mem_range.2 hj);simp only [ho, hl, Bool.not_true, Bool.false_or] at h1;have h2 := Array.all_eq_true_iff_forall_mem.1 h1 e he
 simpa [hb] using h2
theorem Zhm {listed : Array Bool} {j : Nat} (h : Zin md ops listed) (hj : j ∈ Region.ready md ops listed) : Zin md ops (listed.setIfInBounds j true) := by
 intro k o ho hl e he hb;obtain ⟨_, oj, hoj, hall⟩ := mem_ready.1 hj
 by_cases hjk : j = k
 ·subst hjk;rw [hoj] at ho
  cases ho
  exact getD_set_true (hall e he hb)
 ·rw [getD_set_ne false hjk] at hl;exact getD_set_true (h k o ho hl e he hb)
/-- j waits for i, at once or through others. -/
def Zhv (md : Region.Mode) (ops : Array Oper) : Nat → Nat → Nat → Bool
 | 0, _, _ => false
 | f + 1, j, i => match ops[j]? with
  | some o => o.after.any fun e => Region.binds md e && (e.on == i || Zhv md ops f e.on i)
  | none => false
theorem Zet {listed : Array Bool} (hc : Zin md ops listed) : ∀ (f j i : Nat) (o : Oper), ops[j]? = some o → (∀ e ∈ o.after, Region.binds md e = true → listed.getD e.on false = true) →
  Zhv md ops f j i = true → listed.getD i false = true
 | 0, _, _, _, _, _, h => by simp [Zhv] at h
 | f + 1, j, i, o, ho, hall, h => by
  simp only [Zhv, ho] at h;obtain ⟨e, he, h1⟩ := Array.any_eq_true'.1 h;simp only [Bool.and_eq_true, Bool.or_eq_true, beq_iff_eq] at h1;obtain ⟨hb, h2⟩ := h1
  rcases h2 with h2 | h2
  ·rw [← h2]; exact hall e he hb
  ·rcases hoe : ops[e.on]? with _ | oe
   ·cases f <;> simp [Zhv, hoe] at h2
   ·exact Zet hc f e.on i oe hoe (hc e.on oe hoe (hall e he hb)) h2
/-- The post of one operation that comes up alone. -/
def Zl6 (Q : Exit → Act → World → Prop) (w : World) (K : Act → World → Prop) : Exit → Act → World → Prop
 | .normal, a', w' => Za w w' ∧ K a' w'
 | e, a', w' => Q e a' w'
/-- What is left comes up one by one. -/
def Zeu (ops : Array Oper) : List Nat → Array Bool → Bool
 | [], listed => (Region.ready .any ops listed).isEmpty
 | i :: r, listed => (Region.ready .any ops listed == [i]) && Zeu ops r (listed.setIfInBounds i true)
theorem Zpl {S : World → Prop} : ∀ (L : List Nat) (os : List Oper) (listed : Array Bool) (a : Act) (w : World), Zeu ops L listed = true → (∀ i ∈ L, tl i = true) → L.map (ops[·]?) = os.map some →
  wpList P ops Q os a w → Zim P .any ops Q tl S L.length listed a w
 | [], os, listed, a, w, hch, _, hos, h => by
  have : os = [] := by cases os with
   | nil => rfl
   | cons => simp at hos
  subst this;exact ⟨by simpa [Zeu] using hch, h⟩
 | i :: L, os, listed, a, w, hch, htl, hos, h => by
  obtain ⟨o, os', rfl⟩ : ∃ o os', os = o :: os' := by cases os with
   | nil => simp at hos
   | cons o os' => exact ⟨o, os', rfl⟩
  simp only [List.map_cons, List.cons.injEq] at hos;simp only [Zeu, Bool.and_eq_true, beq_iff_eq] at hch;obtain ⟨hr, hch'⟩ := hch;refine ⟨fun h0 => (by rw [hr] at h0; cases h0), fun j hj => ?_⟩;rw [hr] at hj;obtain rfl : j = i := by simpa using hj
  have hK : ∀ a' w', wpList P ops Q os' a' w' → ((tl j = false → S w') ∧ Zim P .any ops Q tl S L.length (listed.setIfInBounds j true) a' w') := fun a' w' h' =>
   ⟨fun ht => (by rw [htl j (by simp)] at ht; cases ht), Zpl L os' _ a' w' hch' (fun k hk => htl k (by simp [hk])) hos.2 h'⟩
  unfold wpList at h;unfold wpOp;rw [hos.1];show if Region.wanted o (yielded ops a.tmps) = true then _ else _
  split
  ·rename_i hw;rw [if_pos hw] at h;exact h.imp (Oper.wp_mono hK) id
  ·rename_i hw;rw [if_neg hw] at h;exact hK _ _ h
end
end Go.Proofs.YtpmhelkiicigfaaGreatDoor
namespace Go.Proofs.YtpmhelkiicigfaaGreatDoor
open Go.RowKit
/-- The world x keeps the blocks of w that satisfy F. -/
structure Zc (F : Nat → Prop) (w x : World) : Prop where
 size : w.heap.size ≤ x.heap.size
 same : ∀ b, F b → b < w.heap.size → x.heap[b]? = w.heap[b]?
theorem Zc.later {F : Nat → Prop} {w x : World} (h : Za w x) : Zc F w x := ⟨h.size, fun b _ hb => h.block b hb⟩
theorem Zc.trans {F : Nat → Prop} {w x y : World} (h : Zc F w x) (k : Zc F x y) : Zc F w y :=
 ⟨Nat.le_trans h.size k.size, fun b hF hb => (k.same b hF (Nat.lt_of_lt_of_le hb h.size)).trans (h.same b hF hb)⟩
theorem Zc.set {F : Nat → Prop} {w x : World} (h : Zc F w x) {B : Nat} (hB : ¬ F B) (o : Nat) (v : Value) : Zc F w (x.setCell ⟨B, o, none⟩ v) :=
 ⟨Nat.le_trans h.size (Below.setCell (B := 0) (Below.refl 0 x) (p := ⟨B, o, none⟩) (Nat.zero_le _) v).size, fun b hF hb => (Below.heap_setCell _ _ _ _ (fun e => hB (by have e2 : b = B := e; rw [← e2]; exact hF))).trans (h.same b hF hb)⟩
theorem Zc.cell {F : Nat → Prop} {w x : World} (h : Zc F w x) {b o : Nat} (hF : F b) (hb : b < w.heap.size) : x.cell? ⟨b, o, none⟩ = w.cell? ⟨b, o, none⟩ := World.cell?_of_block (w := w) (h.same b hF hb)
/-- How a thing lies in cells: F holds of the blocks that it reaches. -/
abbrev Zc0 (α : Type) := (Nat → Prop) → World → α → List Value → Prop
structure Zea {α : Type} (El : Zc0 α) (size : Nat) : Prop where
 len : ∀ {F w a cs}, El F w a cs → cs.length = size
 keep : ∀ {F G : Nat → Prop} {w x a cs}, El F w a cs → (∀ b, F b → G b) → Zc F w x → El G x a cs
/-- A row of things. -/
def Zu {α : Type} (El : Zc0 α) (size : Nat) (F : Nat → Prop) (w : World) (l : List α) (v : Value) : Prop :=
 ∃ A c, v = .slice A l.length c ∧ l.length ≤ c ∧ c ≤ maxLen ∧ ∀ i (h : i < l.length), ∃ b o cs, A = some ⟨b, o, none⟩ ∧ F b ∧ b < w.heap.size ∧ El F w l[i] cs ∧ ∀ j x, cs[j]? = some x → w.cell? ⟨b, o + i * size + j, none⟩ = some x
def Zty {α : Type} (El : Zc0 α) (size : Nat) : Zc0 (List α) := fun F w l cs => ∃ v, cs = [v] ∧ Zu El size F w l v
def Zac (n : Int) : Prop := -9223372036854775808 ≤ n ∧ n ≤ 9223372036854775807
def Zbp : Zc0 ByteArray := fun _ _ s cs => cs = [.string s] ∧ s.size ≤ maxLen
def Zo6 : Zc0 Int := fun _ _ n cs => cs = [.int .i64 n] ∧ Zac n
def Zqn : Zc0 Bool := fun _ _ b cs => cs = [.bool b]
section
variable {α : Type} {El : Zc0 α} {size : Nat} {F G : Nat → Prop} {w x : World} {l : List α} {v : Value}
theorem Zu.keep (hE : Zea El size) (h : Zu El size F w l v) (hFG : ∀ b, F b → G b) (hk : Zc F w x) : Zu El size G x l v := by
 obtain ⟨A, c, rfl, h1, h2, h3⟩ := h;refine ⟨A, c, rfl, h1, h2, fun i hi => ?_⟩;obtain ⟨b, o, cs, e, hF, hb, hel, hc⟩ := h3 i hi;exact ⟨b, o, cs, e, hFG b hF, Nat.lt_of_lt_of_le hb hk.size, hE.keep hel hFG hk, fun j y hy => (hk.cell hF hb).trans (hc j y hy)⟩
theorem Zu.later (hE : Zea El size) (h : Zu El size F w l v) (hl : Za w x) : Zu El size F x l v := h.keep hE (fun _ hb => hb) (Zc.later hl)
theorem Zu.nil (El : Zc0 α) (size : Nat) (F : Nat → Prop) (w : World) : Zu El size F w ([] : List α) (.slice none 0 0) := ⟨none, 0, rfl, Nat.le_refl _, Nat.zero_le _, fun i h => by simp at h⟩
end
theorem Z4 : Zea Zbp 1 where
 len := fun h => by rw [h.1]; rfl
 keep := fun h _ _ => h
theorem Zqo : Zea Zo6 1 where
 len := fun h => by rw [h.1]; rfl
 keep := fun h _ _ => h
/-! ### Many cells written -/
def Zp (w : World) (B : Nat) : Nat → List Value → World
 | _, [] => w
 | o, v :: vs => Zp (w.setCell ⟨B, o, none⟩ v) B (o + 1) vs
theorem Zc6 {B k : Nat} (hk : k ≠ B) : ∀ (vs : List Value) (w : World) (o : Nat), (Zp w B o vs).heap[k]? = w.heap[k]?
 | [], _, _ => rfl
 | v :: vs, w, o => by rw [Zp, Zc6 hk vs]; exact Below.heap_setCell _ _ _ _ hk
theorem Zax {w : World} {M o : Nat} {cur : Array Value} {T : TypeId} (h : w.heap[M]? = some (.cells cur T (0, 0))) (u : Value) :
  (w.setCell ⟨M, o, none⟩ u).heap[M]? = some (.cells (cur.setIfInBounds o u) T (0, 0)) := by
 simp only [World.setCell];rw [Array.getElem?_modify];simp [h]
theorem Zb1 {B : Nat} {T : TypeId} : ∀ (vs : List Value) (w : World) (o : Nat) (cur : Array Value), w.heap[B]? = some (.cells cur T (0, 0)) → o + vs.length ≤ cur.size →
  ∃ cur', (Zp w B o vs).heap[B]? = some (.cells cur' T (0, 0)) ∧ cur'.size = cur.size ∧ (∀ p, (p < o ∨ o + vs.length ≤ p) → cur'[p]? = cur[p]?) ∧ ∀ q y, vs[q]? = some y → cur'[o + q]? = some y
 | [], w, o, cur, h, _ => ⟨cur, h, rfl, fun _ _ => rfl, fun q y hq => by simp at hq⟩
 | v :: vs, w, o, cur, h, hs => by
  simp only [List.length_cons] at hs;obtain ⟨cur', h1, h2, h3, h4⟩ := Zb1 vs (w.setCell ⟨B, o, none⟩ v) (o + 1) (cur.setIfInBounds o v) (Zax h v) (by simp; omega);refine ⟨cur', h1, by rw [h2]; simp, fun p hp => ?_, fun q y hq => ?_⟩
  ·simp only [List.length_cons] at hp;rw [h3 p (by omega), Array.getElem?_setIfInBounds_ne (by omega)]
  ·cases q with
   | zero =>
    obtain rfl : v = y := by simpa using hq
    rw [Nat.add_zero, h3 o (by omega), Array.getElem?_setIfInBounds_self_of_lt (by omega)]
   | succ q => rw [show o + (q + 1) = o + 1 + q by omega]; exact h4 q y (by simpa using hq)
theorem Z8 {b B : Nat} {a : World} (hB : b ≤ B) : ∀ (vs : List Value) (w : World) (o : Nat), Below b a w → Below b a (Zp w B o vs)
 | [], _, _, h => h
 | v :: vs, w, o, h => Z8 hB vs _ _ (h.setCell hB v)
theorem Z5 {F : Nat → Prop} {B : Nat} {w : World} (hB : ¬ F B) : ∀ (vs : List Value) (x : World) (o : Nat), Zc F w x → Zc F w (Zp x B o vs)
 | [], _, _, h => h
 | v :: vs, x, o, h => Z5 hB vs _ _ (h.set hB o v)
/-! ### A row that is being made -/
/-- The first j things lie in the block B already. -/
def Zgc {α : Type} (El : Zc0 α) (size : Nat) (T : TypeId) (B : Nat) (F : Nat → Prop) (l : List α) (j : Nat) (w : World) : Prop :=
 ∃ cur, w.heap[B]? = some (.cells cur T (0, 0)) ∧ cur.size = l.length * size ∧ ∀ i (h : i < l.length), i < j → ∃ cs, El F w l[i] cs ∧ ∀ q x, cs[q]? = some x → cur[i * size + q]? = some x
section
variable {α : Type} {El : Zc0 α} {size : Nat} {T : TypeId} {B : Nat} {F G : Nat → Prop} {w x : World} {l : List α}
theorem Zgc.start {cur : Array Value} (h : w.heap[B]? = some (.cells cur T (0, 0))) (hs : cur.size = l.length * size) : Zgc El size T B F l 0 w := ⟨cur, h, hs, fun i _ h => by omega⟩
theorem Zgc.next {j : Nat} (hE : Zea El size) (hF : ¬ F B) (h : Zgc El size T B F l j w) (hl : Za w x) (hj : j < l.length) {cs : List Value} (he : El F x l[j] cs) : Zgc El size T B F l (j + 1) (Zp x B (j * size) cs) := by
 obtain ⟨cur, hB, hs, hall⟩ := h;have hBx : x.heap[B]? = some (.cells cur T (0, 0)) := (hl.block B (Array.getElem?_eq_some_iff.1 hB).1).trans hB;have hlen := hE.len he;have hroom : j * size + size ≤ cur.size := by
  have : (j + 1) * size ≤ l.length * size := Nat.mul_le_mul_right _ hj;rw [Nat.add_mul, Nat.one_mul] at this
  omega
 obtain ⟨cur', h1, h2, h3, h4⟩ := Zb1 cs x (j * size) cur hBx (by omega);refine ⟨cur', h1, by omega, fun i hi hij => ?_⟩;have hk : Zc F x (Zp x B (j * size) cs) := Z5 hF _ _ _ (Zc.later (Za.refl _))
 by_cases e : i = j
 ·subst e;exact ⟨cs, hE.keep he (fun _ h => h) hk, h4⟩
 ·obtain ⟨cs0, ha, hb⟩ := hall i hi (by omega);refine ⟨cs0, hE.keep ha (fun _ h => h) ((Zc.later hl).trans hk), fun q y hq => ?_⟩;have hq' : q < size := by have := hE.len ha; have := (List.getElem?_eq_some_iff.1 hq).1; omega
  have : (i + 1) * size ≤ j * size := Nat.mul_le_mul_right _ (by omega);rw [Nat.add_mul, Nat.one_mul] at this;rw [h3 _ (by omega)];exact hb q y hq
theorem Zgc.done (hE : Zea El size) (h : Zgc El size T B F l l.length w) (hFG : ∀ b, F b → G b) (hG : G B) (hn : l.length ≤ maxLen) : Zu El size G w l (.slice (some ⟨B, 0, none⟩) l.length l.length) := by
 obtain ⟨cur, hB, hs, hall⟩ := h;refine ⟨_, _, rfl, Nat.le_refl _, hn, fun i hi => ?_⟩;obtain ⟨cs, ha, hb⟩ := hall i hi hi;exact ⟨B, 0, cs, rfl, hG, (Array.getElem?_eq_some_iff.1 hB).1, hE.keep ha hFG (Zc.later (Za.refl _)), fun q y hq => by rw [Nat.zero_add, cell_of_row _ _ _ _ _ _ hB]; exact hb q y hq⟩
theorem Zgc.later {j : Nat} (hE : Zea El size) (h : Zgc El size T B F l j w) (hl : Za w x) : Zgc El size T B F l j x := by
 obtain ⟨cur, hB, hs, hall⟩ := h;refine ⟨cur, (hl.block B (Array.getElem?_eq_some_iff.1 hB).1).trans hB, hs, fun i hi hij => ?_⟩;obtain ⟨cs, ha, hb⟩ := hall i hi hij;exact ⟨cs, hE.keep ha (fun _ h => h) (Zc.later hl), hb⟩
theorem Zgc.at_ {j : Nat} (h : Zgc El size T B F l j w) {k : Nat} (hk : k < l.length) : (∀ q, q < size → ∃ v, w.cell? ⟨B, k * size + q, none⟩ = some v) ∧ ∀ o, w.frozen? ⟨B, o, none⟩ = false := by
 obtain ⟨cur, hB, hs, _⟩ := h;refine ⟨fun q hq => ?_, fun o => frozen_of_row _ _ _ _ _ hB⟩;have : (k + 1) * size ≤ l.length * size := Nat.mul_le_mul_right _ hk;rw [Nat.add_mul, Nat.one_mul] at this;exact ⟨cur[k * size + q]'(by omega), by rw [cell_of_row _ _ _ _ _ _ hB]; exact Array.getElem?_eq_getElem _⟩
end
/-! ### How much there is -/
def Zcy (n : Nat) (l : Int) : Int := if (n : Int) ≤ l then l - n else -1
theorem Zas {n : Nat} {l : Int} (h : (n : Int) ≤ l) : Zcy n l = l - n := by unfold Zcy; rw [if_pos h]
theorem Zag {n : Nat} {l : Int} (h : l < n) : Zcy n l = -1 := by unfold Zcy; rw [if_neg (by omega)]
theorem Zat {m n : Int} (h : m = n) : Ending.returned (Value.int .i64 m) = Ending.returned (Value.int .i64 n) := by rw [h]
def Zaq {α : Type} (sz : α → Nat) : List α → Nat
 | [] => 0
 | a :: l => sz a + Zaq sz l
def Zk {α : Type} (sz : α → Nat) (l : List α) : Nat := l.length + Zaq sz l
theorem Ze8 {α : Type} (sz : α → Nat) : ∀ (l : List α) (j : Nat) (h : j < l.length), Zaq sz (l.take (j + 1)) = Zaq sz (l.take j) + sz l[j]
 | a :: l, 0, _ => by simp [Zaq]
 | a :: l, j + 1, h => by
  have := Ze8 sz l j (by simpa using h);simp only [List.take_succ_cons, Zaq, List.getElem_cons_succ]
  omega
theorem Zgj {α : Type} (sz : α → Nat) : ∀ (l : List α) (j : Nat), Zaq sz (l.take j) ≤ Zaq sz l
 | [], j => by simp [Zaq]
 | a :: l, 0 => by simp [Zaq]
 | a :: l, j + 1 => by
  have := Zgj sz l j;simp only [List.take_succ_cons, Zaq]
  omega
theorem Zb4 {α : Type} (sz : α → Nat) : ∀ (l : List α) (a : α), a ∈ l → sz a ≤ Zaq sz l
 | b :: l, a, h => by
  simp only [Zaq]
  rcases List.mem_cons.1 h with rfl | h
  ·omega
  ·have := Zb4 sz l a h; omega
end Go.Proofs.YtpmhelkiicigfaaGreatDoor
namespace Go.Proofs.YtpmhelkiicigfaaGreatDoor
open Go.RowKit
/-- S is a way of lying in cells that shares nothing; El forgets that. -/
structure Zhd {α : Type} (S El : Zc0 α) (size : Nat) : Prop where
 is : Zea S size
 el : ∀ {F w a cs}, S F w a cs → El F w a cs
 trim : ∀ {F w a cs}, S F w a cs → S (fun b => F b ∧ b < w.heap.size) w a cs
/-- A row of things in a block of its own (tag tells which thing a block further down belongs to). -/
def Zbo {α : Type} (S : Zc0 α) (size : Nat) (T : TypeId) (F : Nat → Prop) (w : World) (l : List α) (v : Value) : Prop :=
 ∃ A c, v = .slice A l.length c ∧ l.length ≤ c ∧ c ≤ maxLen ∧ (0 < c → ∃ (b o : Nat) (cur : Array Value) (tag : Nat → Nat), A = some ⟨b, o, none⟩ ∧ F b ∧ w.heap[b]? = some (.cells cur T (0, 0)) ∧ (o = 0 ∧ o + c * size ≤ cur.size) ∧
  ∀ i (h : i < l.length), ∃ cs, S (fun x => (F x ∧ x ≠ b) ∧ tag x = i) w l[i] cs ∧ ∀ j x, cs[j]? = some x → cur[o + i * size + j]? = some x)
section
variable {α : Type} {S El : Zc0 α} {size : Nat} {T : TypeId} {F G : Nat → Prop} {w x : World} {l : List α} {v : Value}
theorem Zd {w : World} {b : Nat} {o : Obj} (h : w.heap[b]? = some o) : b < w.heap.size := (Array.getElem?_eq_some_iff.1 h).1
theorem Zc.mono {F G : Nat → Prop} {w x : World} (h : Zc F w x) (hFG : ∀ b, G b → F b) : Zc G w x := ⟨h.size, fun b hb hl => h.same b (hFG b hb) hl⟩
theorem Zc.refl (F : Nat → Prop) (w : World) : Zc F w w := ⟨Nat.le_refl _, fun _ _ _ => rfl⟩
theorem Zbo.nil (S : Zc0 α) (size : Nat) (T : TypeId) (F : Nat → Prop) (w : World) : Zbo S size T F w ([] : List α) (.slice none 0 0) := ⟨none, 0, rfl, Nat.le_refl _, Nat.zero_le _, fun h => by simp at h⟩
theorem Zbo.keep (hE : Zea S size) (h : Zbo S size T F w l v) (hFG : ∀ b, F b → G b) (hk : Zc F w x) : Zbo S size T G x l v := by
 obtain ⟨A, c, rfl, h1, h2, h3⟩ := h;refine ⟨A, c, rfl, h1, h2, fun hp => ?_⟩;obtain ⟨b, o, cur, tag, e, hF, hb, hcp, hel⟩ := h3 hp;refine ⟨b, o, cur, tag, e, hFG b hF, (hk.same b hF (Zd hb)).trans hb, hcp, fun i hi => ?_⟩;obtain ⟨cs, hs, hc⟩ := hel i hi;exact ⟨cs, hE.keep hs (fun y hy => ⟨⟨hFG y hy.1.1, hy.1.2⟩, hy.2⟩) (hk.mono fun y hy => hy.1.1), hc⟩
theorem Zbo.later (hE : Zea S size) (h : Zbo S size T F w l v) (hl : Za w x) : Zbo S size T F x l v := h.keep hE (fun _ hb => hb) (Zc.later hl)
theorem Zbo.el (hE : Zhd S El size) (h : Zbo S size T F w l v) : Zu El size F w l v := by
 obtain ⟨A, c, rfl, h1, h2, h3⟩ := h;refine ⟨A, c, rfl, h1, h2, fun i hi => ?_⟩;obtain ⟨b, o, cur, tag, e, hF, hb, hcp, hel⟩ := h3 (by omega);obtain ⟨cs, hs, hc⟩ := hel i hi;exact ⟨b, o, cs, e, hF, Zd hb, hE.el (hE.is.keep hs (fun y hy => hy.1.1) (Zc.refl _ _)), fun j y hy => (cell_of_row _ _ _ _ _ _ hb).trans (hc j y hy)⟩
theorem Zbo.trim (hE : Zhd S El size) (h : Zbo S size T F w l v) : Zbo S size T (fun b => F b ∧ b < w.heap.size) w l v := by
 obtain ⟨A, c, rfl, h1, h2, h3⟩ := h;refine ⟨A, c, rfl, h1, h2, fun hp => ?_⟩;obtain ⟨b, o, cur, tag, e, hF, hb, hcp, hel⟩ := h3 hp;refine ⟨b, o, cur, tag, e, ⟨hF, Zd hb⟩, hb, hcp, fun i hi => ?_⟩;obtain ⟨cs, hs, hc⟩ := hel i hi;exact ⟨cs, hE.is.keep (hE.trim hs) (fun y hy => ⟨⟨⟨hy.1.1.1, hy.2⟩, hy.1.1.2⟩, hy.1.2⟩) (Zc.refl _ _), hc⟩
end
theorem Zjr {α : Type} {El : Zc0 α} {size : Nat} (hE : Zea El size) (hflat : ∀ {F G w a cs}, El F w a cs → El G w a cs) : Zhd El El size := ⟨hE, fun h => h, fun h => hflat h⟩
theorem Zg : Zhd Zbp Zbp 1 := Zjr Z4 fun h => h
theorem Zjv {F : Nat → Prop} {B : Nat} {w x : World} (hk : Zc (fun y => ¬ F y) w x) (h0 : Below 0 w x) (hF : ∀ b, F b → B ≤ b) (hB : B ≤ w.heap.size) : Below B w x :=
 ⟨h0.os, h0.tape, h0.output, h0.size, fun k h => hk.same k (fun hf => by have := hF k hf; omega) (by omega)⟩
/-! ### A row that is being made -/
/-- The first j things lie in the block B already; what they Zhv lies above it. -/
def SMk {α : Type} (S : Zc0 α) (size : Nat) (T : TypeId) (B : Nat) (l : List α) (j : Nat) (w : World) : Prop :=
 ∃ (cur : Array Value) (tag : Nat → Nat), w.heap[B]? = some (.cells cur T (0, 0)) ∧ cur.size = l.length * size ∧ ∀ i (h : i < l.length), i < j → ∃ cs, S (fun x => (B < x ∧ x < w.heap.size) ∧ tag x = i) w l[i] cs ∧ ∀ q x, cs[q]? = some x → cur[i * size + q]? = some x
section
variable {α : Type} {S El : Zc0 α} {size : Nat} {T : TypeId} {B : Nat} {F G : Nat → Prop} {w x : World} {l : List α}
theorem SMk.start {cur : Array Value} (h : w.heap[B]? = some (.cells cur T (0, 0))) (hs : cur.size = l.length * size) : SMk S size T B l 0 w := ⟨cur, fun _ => 0, h, hs, fun i _ h => by omega⟩
theorem SMk.next {j : Nat} (hE : Zhd S El size) (h : SMk S size T B l j w) (hl : Za w x) (hj : j < l.length) {cs : List Value} (he : S (fun b => w.heap.size ≤ b) x l[j] cs) : SMk S size T B l (j + 1) (Zp x B (j * size) cs) := by
 obtain ⟨cur, tag, hB, hs, hall⟩ := h;have hBw := Zd hB;have hBx : x.heap[B]? = some (.cells cur T (0, 0)) := (hl.block B hBw).trans hB;have hlen := hE.is.len he;have hroom : j * size + size ≤ cur.size := by
  have : (j + 1) * size ≤ l.length * size := Nat.mul_le_mul_right _ hj;rw [Nat.add_mul, Nat.one_mul] at this
  omega
 obtain ⟨cur', h1, h2, h3, h4⟩ := Zb1 cs x (j * size) cur hBx (by omega);have hkeep : ∀ {F : Nat → Prop}, ¬ F B → Zc F x (Zp x B (j * size) cs) := fun hF => Z5 hF _ _ _ (Zc.refl _ _);have hsz := (hkeep (F := fun _ => False) (by simp)).size;refine ⟨cur', fun y => if w.heap.size ≤ y then j else tag y, h1, by omega, fun i hi hij => ?_⟩
 by_cases e : i = j
 ·subst e;exact ⟨cs, hE.is.keep (hE.trim he) (fun y hy => ⟨⟨by omega, by omega⟩, by simp [hy.1]⟩) (hkeep (by omega)), h4⟩
 ·obtain ⟨cs0, ha, hb⟩ := hall i hi (by omega);refine ⟨cs0, hE.is.keep ha (fun y hy => ⟨⟨hy.1.1, by have := hl.size; omega⟩, by show (if w.heap.size ≤ y then j else tag y) = i; rw [if_neg (by omega)]; exact hy.2⟩) ((Zc.later hl).trans (hkeep (by omega))), fun q y hq => ?_⟩;have hq' : q < size := by have := hE.is.len ha; have := (List.getElem?_eq_some_iff.1 hq).1; omega
  have : (i + 1) * size ≤ j * size := Nat.mul_le_mul_right _ (by omega);rw [Nat.add_mul, Nat.one_mul] at this;rw [h3 _ (by omega)];exact hb q y hq
theorem SMk.done (hE : Zhd S El size) (h : SMk S size T B l l.length w) (hG : ∀ b, B ≤ b → G b) (hn : l.length ≤ maxLen) : Zbo S size T G w l (.slice (some ⟨B, 0, none⟩) l.length l.length) := by
 obtain ⟨cur, tag, hB, hs, hall⟩ := h;refine ⟨_, _, rfl, Nat.le_refl _, hn, fun _ => ⟨B, 0, cur, tag, rfl, hG B (Nat.le_refl _), hB, ⟨rfl, by omega⟩, fun i hi => ?_⟩⟩;obtain ⟨cs, ha, hb⟩ := hall i hi hi;exact ⟨cs, hE.is.keep ha (fun y hy => ⟨⟨hG y (by omega), by omega⟩, hy.2⟩) (Zc.refl _ _), fun q y hq => by rw [Nat.zero_add]; exact hb q y hq⟩
theorem SMk.later {j : Nat} (hE : Zea S size) (h : SMk S size T B l j w) (hl : Za w x) : SMk S size T B l j x := by
 obtain ⟨cur, tag, hB, hs, hall⟩ := h;refine ⟨cur, tag, (hl.block B (Zd hB)).trans hB, hs, fun i hi hij => ?_⟩;obtain ⟨cs, ha, hb⟩ := hall i hi hij;exact ⟨cs, hE.keep ha (fun y hy => ⟨⟨hy.1.1, by have := hl.size; omega⟩, hy.2⟩) (Zc.later hl), hb⟩
theorem SMk.at_ {j : Nat} (h : SMk S size T B l j w) {k : Nat} (hk : k < l.length) : (∀ q, q < size → ∃ v, w.cell? ⟨B, k * size + q, none⟩ = some v) ∧ ∀ o, w.frozen? ⟨B, o, none⟩ = false := by
 obtain ⟨cur, tag, hB, hs, _⟩ := h;refine ⟨fun q hq => ?_, fun o => frozen_of_row _ _ _ _ _ hB⟩;have : (k + 1) * size ≤ l.length * size := Nat.mul_le_mul_right _ hk;rw [Nat.add_mul, Nat.one_mul] at this;exact ⟨cur[k * size + q]'(by omega), by rw [cell_of_row _ _ _ _ _ _ hB]; exact Array.getElem?_eq_getElem _⟩
theorem SMk.lt {j : Nat} (h : SMk S size T B l j w) : B < w.heap.size := by
 obtain ⟨cur, tag, hB, _⟩ := h;exact Zd hB
end
/-! ### A row that is being written over -/
/-- The row l lies in the block b from o on. -/
def SAt {α : Type} (S : Zc0 α) (size : Nat) (T : TypeId) (F : Nat → Prop) (b o n : Nat) (tag : Nat → Nat) (w : World) (l : List α) : Prop :=
 ∃ cur, w.heap[b]? = some (.cells cur T (0, 0)) ∧ n ≤ cur.size ∧ ∀ i (h : i < l.length), ∃ cs, S (fun x => (F x ∧ x ≠ b) ∧ tag x = i) w l[i] cs ∧ ∀ j x, cs[j]? = some x → cur[o + i * size + j]? = some x
/-- The cells from base on are vs, the others as in cur0. -/
def St (T : TypeId) (b base : Nat) (cur0 : Array Value) (vs : List Value) (w : World) : Prop :=
 ∃ cur, w.heap[b]? = some (.cells cur T (0, 0)) ∧ cur.size = cur0.size ∧ base + vs.length ≤ cur.size ∧ (∀ p, (p < base ∨ base + vs.length ≤ p) → cur[p]? = cur0[p]?) ∧ ∀ q y, vs[q]? = some y → cur[base + q]? = some y
section
variable {α : Type} {S El : Zc0 α} {size : Nat} {T : TypeId} {b o n base : Nat} {tag : Nat → Nat} {F G : Nat → Prop} {w x : World} {l : List α} {cur0 : Array Value} {vs : List Value}
theorem St.keep (h : St T b base cur0 vs w) (hk : x.heap[b]? = w.heap[b]?) : St T b base cur0 vs x := by
 obtain ⟨cur, hb, h⟩ := h;exact ⟨cur, hk.trans hb, h⟩
theorem St.lt (h : St T b base cur0 vs w) : b < w.heap.size := by
 obtain ⟨cur, hb, h⟩ := h;exact Zd hb
theorem St.later (h : St T b base cur0 vs w) (hl : Za w x) : St T b base cur0 vs x := h.keep (hl.block b h.lt)
theorem St.set (h : St T b base cur0 vs w) (q : Nat) (hq : q < vs.length) (u : Value) : St T b base cur0 (vs.set q u) (w.setCell ⟨b, base + q, none⟩ u) := by
 obtain ⟨cur, hb, hs, hr, ho, hi⟩ := h;refine ⟨_, Zax hb u, by simpa using hs, by simpa using hr, fun p hp => ?_, fun q' y hy => ?_⟩
 ·simp only [List.length_set] at hp;rw [Array.getElem?_setIfInBounds_ne (by omega)];exact ho p hp
 ·by_cases e : q = q'
  ·subst e;rw [Array.getElem?_setIfInBounds_self_of_lt (by omega)]
   simpa [hq] using hy
  ·rw [Array.getElem?_setIfInBounds_ne (by omega)];exact hi q' y (by simpa [List.getElem?_set_ne e] using hy)
theorem St.cell (h : St T b base cur0 vs w) {q : Nat} {y : Value} (hy : vs[q]? = some y) : w.cell? ⟨b, base + q, none⟩ = some y := by
 obtain ⟨cur, hb, hs, hr, ho, hi⟩ := h;rw [cell_of_row _ _ _ _ _ _ hb];exact hi q y hy
theorem St.frozen (h : St T b base cur0 vs w) (o : Nat) : w.frozen? ⟨b, o, none⟩ = false := by
 obtain ⟨cur, hb, _⟩ := h;exact frozen_of_row _ _ _ _ _ hb
theorem SAt.open_ (hE : Zea S size) (h : SAt S size T F b o n tag w l) {i : Nat} (hi : i < l.length) :
  ∃ cur cs, w.heap[b]? = some (.cells cur T (0, 0)) ∧ S (fun x => (F x ∧ x ≠ b) ∧ tag x = i) w l[i] cs ∧ (0 < size → St T b (o + i * size) cur cs w) := by
 obtain ⟨cur, hb, hnc, hall⟩ := h;obtain ⟨cs, hs, hc⟩ := hall i hi;refine ⟨cur, cs, hb, hs, fun h0 => ⟨cur, hb, rfl, ?_, fun _ _ => rfl, hc⟩⟩;have hl := hE.len hs;obtain ⟨q, rfl⟩ : ∃ q, size = q + 1 := ⟨size - 1, by omega⟩;have h1 := hc q _ (List.getElem?_eq_getElem (by omega));have := (Array.getElem?_eq_some_iff.1 h1).1
 omega
theorem SAt.put (hE : Zea S size) (h : SAt S size T F b o n tag w l) {i : Nat} (hi : i < l.length) {cur : Array Value} (hc : w.heap[b]? = some (.cells cur T (0, 0))) {a : α} {cs : List Value}
  (hst : St T b (o + i * size) cur cs x) (hk : Zc (fun y => (F y ∧ y ≠ b) ∧ tag y ≠ i) w x) (hs : S (fun y => (F y ∧ y ≠ b) ∧ tag y = i) x a cs) : SAt S size T F b o n tag x (l.set i a) := by
 obtain ⟨cur1, hb, hnc, hall⟩ := h;obtain rfl : cur1 = cur := by rw [hb] at hc; cases hc; rfl
 obtain ⟨cur', hb', hsz, hr, ho, hin⟩ := hst;have hlen := hE.len hs;refine ⟨cur', hb', by omega, fun p hp => ?_⟩;simp only [List.length_set] at hp
 by_cases e : i = p
 ·subst e;rw [List.getElem_set_self];exact ⟨cs, hs, hin⟩
 ·rw [List.getElem_set_ne e];obtain ⟨cs0, ha, hcs⟩ := hall p hp;refine ⟨cs0, hE.keep ha (fun _ h => h) (hk.mono fun y hy => ⟨hy.1, fun h => e (h.symm.trans hy.2)⟩), fun q y hq => ?_⟩;have hq' : q < size := by have := hE.len ha; have := (List.getElem?_eq_some_iff.1 hq).1; omega
  rw [ho _ ?_]
  ·exact hcs q y hq
  ·rcases Nat.lt_or_gt_of_ne e with h | h
   ·have : (i + 1) * size ≤ p * size := Nat.mul_le_mul_right _ h;rw [Nat.add_mul, Nat.one_mul] at this
    omega
   ·have : (p + 1) * size ≤ i * size := Nat.mul_le_mul_right _ h;rw [Nat.add_mul, Nat.one_mul] at this
    omega
theorem SAt.keep (hE : Zea S size) (h : SAt S size T F b o n tag w l) (hF : F b) (hk : Zc F w x) : SAt S size T F b o n tag x l := by
 obtain ⟨cur, hb, hnc, hall⟩ := h;refine ⟨cur, (hk.same b hF (Zd hb)).trans hb, hnc, fun i hi => ?_⟩;obtain ⟨cs, hs, hc⟩ := hall i hi;exact ⟨cs, hE.keep hs (fun _ h => h) (hk.mono fun y hy => hy.1.1), hc⟩
theorem SAt.lt (h : SAt S size T F b o n tag w l) : b < w.heap.size := by
 obtain ⟨cur, hb, h⟩ := h;exact Zd hb
theorem SAt.row (h : SAt S size T F b o n tag w l) (hF : F b) {c : Nat} (hc : l.length ≤ c) (hm : c ≤ maxLen) (hn : o = 0 ∧ o + c * size ≤ n) : Zbo S size T F w l (.slice (some ⟨b, o, none⟩) l.length c) := by
 obtain ⟨cur, hb, hnc, h⟩ := h;exact ⟨_, c, rfl, hc, hm, fun _ => ⟨b, o, cur, tag, rfl, hF, hb, ⟨hn.1, by omega⟩, h⟩⟩
end
/-! ### Marked rows -/
section
variable {α : Type} (mk : α → Int → α) (cnt : α → Nat)
def Zm : List α → Nat
 | [] => 0
 | a :: l => cnt a + Zm l
/-- The first j things are marked, from k on. -/
def Ze0 : List α → Int → Nat → List α
 | [], _, _ => []
 | a :: l, _, 0 => a :: l
 | a :: l, k, j + 1 => mk a k :: Ze0 l (k + cnt a) j
def Zb7 (l : List α) (k : Int) : List α := Ze0 mk cnt l k l.length
theorem Ze3 (l : List α) (k : Int) : Ze0 mk cnt l k 0 = l := by cases l <;> rfl
theorem Zar : ∀ (l : List α) (k : Int) (j : Nat), (Ze0 mk cnt l k j).length = l.length
 | [], _, _ => rfl
 | a :: l, _, 0 => rfl
 | a :: l, k, j + 1 => by simp only [Ze0, List.length_cons, Zar l]
theorem Zbw (l : List α) (k : Int) : (Zb7 mk cnt l k).length = l.length := Zar _ _ _ _ _
theorem Zg1 : ∀ (l : List α) (k : Int) (j : Nat) (h : j < l.length), (Ze0 mk cnt l k j)[j]'(by rw [Zar]; exact h) = l[j]
 | a :: l, _, 0, _ => rfl
 | a :: l, k, j + 1, h => by
  simp only [Ze0, List.getElem_cons_succ];exact Zg1 l _ j (by simpa using h)
theorem Ze4 : ∀ (l : List α) (k : Int) (j : Nat) (h : j < l.length), Ze0 mk cnt l k (j + 1) = (Ze0 mk cnt l k j).set j (mk l[j] (k + Zm cnt (l.take j)))
 | a :: l, k, 0, _ => by simp [Ze0, Zm, Ze3]
 | a :: l, k, j + 1, h => by
  have := Ze4 l (k + cnt a) j (by simpa using h);simp only [Ze0, List.set_cons_succ, List.getElem_cons_succ, List.take_succ_cons, Zm] at this ⊢;rw [this]
  congr 3
  push_cast
  omega
theorem Zl7 : ∀ (l : List α) (k : Int) (j i : Nat) (h : i < l.length), i < j → (Ze0 mk cnt l k j)[i]'(by rw [Zar]; exact h) = mk l[i] (k + Zm cnt (l.take i))
 | a :: l, k, j + 1, 0, _, _ => by simp [Ze0, Zm]
 | a :: l, k, j + 1, i + 1, h, hj => by
  simp only [Ze0, List.getElem_cons_succ, List.take_succ_cons, Zm];rw [Zl7 l _ j i (by simpa using h) (by omega)]
  congr 1
  push_cast
  omega
theorem Zft (l : List α) (k : Int) (i : Nat) (h : i < l.length) : (Zb7 mk cnt l k)[i]'(by rw [Zbw]; exact h) = mk l[i] (k + Zm cnt (l.take i)) := Zl7 _ _ _ _ _ _ h h
theorem Zb8 : ∀ (l : List α) (j : Nat) (h : j < l.length), Zm cnt (l.take (j + 1)) = Zm cnt (l.take j) + cnt l[j]
 | a :: l, 0, _ => by simp [Zm]
 | a :: l, j + 1, h => by
  have := Zb8 l j (by simpa using h);simp only [List.take_succ_cons, Zm, List.getElem_cons_succ]
  omega
theorem Zbk : ∀ (l : List α) (j : Nat), Zm cnt (l.take j) ≤ Zm cnt l
 | [], j => by simp [Zm]
 | a :: l, 0 => by simp [Zm]
 | a :: l, j + 1 => by
  have := Zbk l j;simp only [List.take_succ_cons, Zm]
  omega
end
end Go.Proofs.YtpmhelkiicigfaaGreatDoor
namespace Go.Proofs.YtpmhelkiicigfaaGreatDoor
open Go.RowKit
section
variable {P : Program} {ops : Array Oper} {Q : Exit → Act → World → Prop} {md : Region.Mode} {tl pu : Nat → Bool} {S S' : World → Prop}
/-- Whatever order is picked from here on; behind every operation that is not among the last ones S holds; a pure one leaves the world. -/
def Zda (P : Program) (md : Region.Mode) (ops : Array Oper) (Q : Exit → Act → World → Prop) (tl pu : Nat → Bool) (S : World → Prop) : Nat → Array Bool → Act → World → Prop
 | 0, listed, a, w => Region.ready md ops listed = [] ∧ Q .normal a w
 | fuel + 1, listed, a, w =>
  (Region.ready md ops listed = [] → Q .normal a w) ∧
  ∀ i ∈ Region.ready md ops listed, wpOp P ops Q i (fun a' w' => ((tl i = false → S w') ∧ (pu i = true → w' = w)) ∧ Zda P md ops Q tl pu S fuel (listed.setIfInBounds i true) a' w') a w
theorem Zf4 : ∀ (fuel : Nat) (listed : Array Bool) (a : Act) (w : World), Zda P md ops Q tl pu S fuel listed a w → wpAny P md ops Q fuel listed a w
 | 0, _, _, _, h => h
 | fuel + 1, _, _, _, h => ⟨h.1, fun i hi => wpOp_mono (fun a' w' h' => Zf4 fuel _ a' w' h'.2) (h.2 i hi)⟩
theorem Zi4 (hs : ∀ w, S' w → S w) : ∀ (fuel : Nat) (listed : Array Bool) (a : Act) (w : World), Zda P md ops Q tl pu S' fuel listed a w → Zda P md ops Q tl pu S fuel listed a w
 | 0, _, _, _, h => h
 | fuel + 1, _, _, _, h => ⟨h.1, fun i hi => wpOp_mono (fun a' w' h' => ⟨⟨fun ht => hs _ (h'.1.1 ht), h'.1.2⟩, Zi4 hs fuel _ a' w' h'.2⟩) (h.2 i hi)⟩
theorem Zhw {i : Nat} {oi : Oper} {v : Value} (hi : ops[i]? = some oi) (hsel : ∀ (j : Nat) (o : Oper) cs b, ops[j]? = some o → o.op ≠ .select cs b)
  (hQ : ∀ c a w, Q (.panic c) (a.put oi.dst v) w → Q (.panic c) a w) (htl : ∀ j, j < ops.size → tl j = true → pu j = true ∨ Zhv md ops ops.size j i = true) :
  ∀ (fuel : Nat) (listed : Array Bool) (a : Act) (w : World),
   (∀ j oj, ops[j]? = some oj → j ≠ i → listed.getD j true = false → (∀ e ∈ oj.after, Region.binds md e = true → e.on ≠ i) → oi.apart ops oj = true) → Zin md ops listed →
   i ∈ Region.ready md ops listed → YieldsIf P ops S oi v a → S w →
   Zda P md ops Q tl pu S fuel (listed.setIfInBounds i true) (a.put oi.dst v) w → Zda P md ops Q tl pu S (fuel + 1) listed a w := by
 intro fuel
 induction fuel with
 | zero =>
  intro listed a w _ _ hr hy hS H;refine ⟨fun h => (by rw [h] at hr; cases hr), fun j hj => ?_⟩
  by_cases hji : j = i
  ·subst hji; exact hy.wpOp hi hS ⟨⟨fun _ => hS, fun _ => rfl⟩, H⟩
  ·have := ready_mono hj hji;rw [H.1] at this
   cases this
 | succ fuel ih =>
  intro listed a w hfree hcl hr hy hS H;refine ⟨fun h => (by rw [h] at hr; cases hr), fun j hj => ?_⟩
  by_cases hji : j = i
  ·subst hji; exact hy.wpOp hi hS ⟨⟨fun _ => hS, fun _ => rfl⟩, H⟩
  ·have h1 := H.2 j (ready_mono hj hji);obtain ⟨hjun, oj, hoj, hall⟩ := mem_ready.1 hj;have hiun : listed.getD i false = true → False := fun h1 => by
    have h0 := (mem_ready.1 hr).1
    rcases Nat.lt_or_ge i listed.size with h' | h'
    ·simp [h'] at h0 h1; rw [h0] at h1; cases h1
    ·simp [Array.getElem?_eq_none h'] at h1
   have hnot : ∀ e ∈ oj.after, Region.binds md e = true → e.on ≠ i := fun e he hb heq => hiun (by rw [← heq]; exact hall e he hb);have hSj : ∀ w', ((tl j = false → S w') ∧ (pu j = true → w' = w)) → S w' := fun w' hw' => by
    cases ht : tl j with
    | false => exact hw'.1 ht
    | true =>
     rcases htl j (Array.getElem?_eq_some_iff.1 hoj).1 ht with h | h
     ·rw [hw'.2 h]; exact hS
     ·exact (hiun (Zet hcl _ j i oj hoj hall h)).elim
   have h2 := wpOp_putIf hoj (hfree j oj hoj hji hjun hnot) (fun cs b => hsel i oi cs b hi) (fun cs b => hsel j oj cs b hoj) hQ hy h1;have hfree' : ∀ k ok, ops[k]? = some ok → k ≠ i → (listed.setIfInBounds j true).getD k true = false →
     (∀ e ∈ ok.after, Region.binds md e = true → e.on ≠ i) → oi.apart ops ok = true := fun k ok hk hki hun hno => by
    refine hfree k ok hk hki ?_ hno
    by_cases hjk : j = k
    ·subst hjk; exact hjun
    ·rw [getD_set_ne true hjk] at hun; exact hun
   refine wpOp_mono (fun a' w' h3 => ⟨h3.2.1, ih (listed.setIfInBounds j true) a' w' hfree' (Zhm hcl hj) (ready_mono hr (Ne.symm hji)) h3.1 (hSj w' h3.2.1) ?_⟩) h2;rw [Array.setIfInBounds_comm _ _ hji];exact h3.2.2
theorem Zi5 {i : Nat} {oi : Oper} {v : Value} (hi : ops[i]? = some oi) (hsel : ∀ (j : Nat) (o : Oper) cs b, ops[j]? = some o → o.op ≠ .select cs b)
  (hQ : ∀ c a w, Q (.panic c) (a.put oi.dst v) w → Q (.panic c) a w) (hti : tl i = true) :
  ∀ (fuel : Nat) (listed : Array Bool) (a : Act) (w : World),
   (∀ j oj, ops[j]? = some oj → j ≠ i → listed.getD j true = false → (∀ e ∈ oj.after, Region.binds md e = true → e.on ≠ i) → oi.apart ops oj = true) →
   i ∈ Region.ready md ops listed → YieldsIf P ops (fun _ => True) oi v a →
   Zda P md ops Q tl pu S fuel (listed.setIfInBounds i true) (a.put oi.dst v) w → Zda P md ops Q tl pu S (fuel + 1) listed a w := by
 intro fuel
 induction fuel with
 | zero =>
  intro listed a w _ hr hy H;refine ⟨fun h => (by rw [h] at hr; cases hr), fun j hj => ?_⟩
  by_cases hji : j = i
  ·subst hji; exact hy.wpOp hi trivial ⟨⟨fun h => (by rw [hti] at h; cases h), fun _ => rfl⟩, H⟩
  ·have := ready_mono hj hji;rw [H.1] at this
   cases this
 | succ fuel ih =>
  intro listed a w hfree hr hy H;refine ⟨fun h => (by rw [h] at hr; cases hr), fun j hj => ?_⟩
  by_cases hji : j = i
  ·subst hji; exact hy.wpOp hi trivial ⟨⟨fun h => (by rw [hti] at h; cases h), fun _ => rfl⟩, H⟩
  ·have h1 := H.2 j (ready_mono hj hji);obtain ⟨hjun, oj, hoj, hall⟩ := mem_ready.1 hj;have hiun : listed.getD i false = true → False := fun h1 => by
    have h0 := (mem_ready.1 hr).1
    rcases Nat.lt_or_ge i listed.size with h' | h'
    ·simp [h'] at h0 h1; rw [h0] at h1; cases h1
    ·simp [Array.getElem?_eq_none h'] at h1
   have hnot : ∀ e ∈ oj.after, Region.binds md e = true → e.on ≠ i := fun e he hb heq => hiun (by rw [← heq]; exact hall e he hb);have h2 := wpOp_putIf hoj (hfree j oj hoj hji hjun hnot) (fun cs b => hsel i oi cs b hi) (fun cs b => hsel j oj cs b hoj) hQ hy h1;have hfree' : ∀ k ok, ops[k]? = some ok → k ≠ i → (listed.setIfInBounds j true).getD k true = false →
     (∀ e ∈ ok.after, Region.binds md e = true → e.on ≠ i) → oi.apart ops ok = true := fun k ok hk hki hun hno => by
    refine hfree k ok hk hki ?_ hno
    by_cases hjk : j = k
    ·subst hjk; exact hjun
    ·rw [getD_set_ne true hjk] at hun; exact hun
   refine wpOp_mono (fun a' w' h3 => ⟨h3.2.1, ih (listed.setIfInBounds j true) a' w' hfree' (ready_mono hr (Ne.symm hji)) h3.1 ?_⟩) h2;rw [Array.setIfInBounds_comm _ _ hji];exact h3.2.2
/-- Which operations are among the last ones (or pure), and which are pure. -/
def Zgk (L U : List Nat) (j : Nat) : Bool := L.contains j || U.contains j
def Zgl (U : List Nat) (j : Nat) : Bool := U.contains j
def Ztz (md : Region.Mode) (ops : Array Oper) (L : List Nat) (i : Nat) : Bool := L.all fun j => Zhv md ops ops.size j i
def Zk1 (ops : Array Oper) (L : List Nat) (listed : Array Bool) (i : Nat) : Bool :=
 Region.noSelect ops && Region.free .any ops listed i && (Region.ready .any ops listed).contains i && Zo5 .any ops listed && Ztz .any ops L i
def Ztd (ops : Array Oper) (U : List Nat) (listed : Array Bool) (i : Nat) : Bool :=
 Region.noSelect ops && Region.free .any ops listed i && (Region.ready .any ops listed).contains i && U.contains i
/-- The state of the walk: from world w on; L: the last operations; U: the pure ones. -/
def wpU (P : Program) (ops : Array Oper) (Q : Exit → Act → World → Prop) (L U : List Nat) (fuel : Nat) (listed : Array Bool) (a : Act) (w : World) : Prop :=
 Zda P .any ops Q (Zgk L U) (Zgl U) (Za w) fuel listed a w
theorem Zbd (L U : List Nat) {id : Nat} {a : Act} {w : World} (hm : P.follows .mixedOrders = true)
  (h : ∀ w1, w1 = w.drew → wpU P ops Q L U ops.size (Array.replicate ops.size false) a w1) : (Code.region id ops true).wp P Q a w :=
 wp_region_any hm (Zf4 _ _ _ _ (h w.drew rfl))
/-- Operation i is taken first: it reads only what lies in w already. -/
theorem Zdz (i : Nat) (d : Option Tmp) {L U : List Nat} {oi : Oper} {v : Value} {fuel : Nat} {listed : Array Bool} {a : Act} {w : World} (hi : ops[i]? = some oi) (hd : oi.dst = d)
  (hB : Zk1 ops L listed i = true)
  (hQ : ∀ c a w, Q (.panic c) (a.put d v) w → Q (.panic c) a w)
  (hw : Region.wanted oi (yielded ops a.tmps) = true) (hy : ∀ x, Za w x → (execOp a.eval oi).run P x = .ok (.value v) x)
  (h : wpU P ops Q L U fuel (listed.setIfInBounds i true) (a.put d v) w) : wpU P ops Q L U (fuel + 1) listed a w := by
 subst hd;simp only [Zk1, Bool.and_eq_true] at hB;obtain ⟨⟨⟨⟨hs, hf⟩, hr⟩, hc⟩, ht⟩ := hB;refine Zhw hi (Region.noSelect_spec hs) hQ (fun j _ htj => ?_) fuel listed a w (Region.free_spec hi hf) (Zk0 hc) (by simpa using hr) (.inl ⟨hw, hy⟩) (Za.refl w) h;simp only [Zgk, Bool.or_eq_true] at htj
 rcases htj with h1 | h1
 ·exact .inr (List.all_eq_true.1 ht j (by simpa using h1))
 ·exact .inl h1
/-- Operation i is taken first: it reads no memory. -/
theorem Zl8 (i : Nat) (d : Option Tmp) {L U : List Nat} {oi : Oper} {v : Value} {fuel : Nat} {listed : Array Bool} {a : Act} {w : World} (hi : ops[i]? = some oi) (hd : oi.dst = d)
  (hB : Ztd ops U listed i = true)
  (hQ : ∀ c a w, Q (.panic c) (a.put d v) w → Q (.panic c) a w)
  (hw : Region.wanted oi (yielded ops a.tmps) = true) (hy : ∀ x, (execOp a.eval oi).run P x = .ok (.value v) x)
  (h : wpU P ops Q L U fuel (listed.setIfInBounds i true) (a.put d v) w) : wpU P ops Q L U (fuel + 1) listed a w := by
 subst hd;simp only [Ztd, Bool.and_eq_true] at hB;obtain ⟨⟨⟨hs, hf⟩, hr⟩, hu⟩ := hB;exact Zi5 hi (Region.noSelect_spec hs) hQ (by simp only [Zgk, Bool.or_eq_true]; exact .inr hu) fuel listed a w (Region.free_spec hi hf) (by simpa using hr) (.inl ⟨hw, fun x _ => hy x⟩) h
/-- Operation i comes up alone: it makes memory, and leaves what lies in w as it is. -/
theorem Zce (i : Nat) {L U : List Nat} {o : Oper} {fuel : Nat} {listed : Array Bool} {a : Act} {w : World} (hr : Region.ready .any ops listed = [i]) (hu : U.contains i = false) (ho : ops[i]? = some o)
  (h : wpList P ops (Zl6 Q w (fun a' w' => wpU P ops Q L U fuel (listed.setIfInBounds i true) a' w')) [o] a w) : wpU P ops Q L U (fuel + 1) listed a w := by
 refine ⟨fun h0 => (by rw [hr] at h0; cases h0), fun j hj => ?_⟩;rw [hr] at hj;obtain rfl : j = i := by simpa using hj
 unfold wpList at h;unfold wpOp;rw [ho];have hK : ∀ a' w', wpList P ops (Zl6 Q w (fun a' w' => wpU P ops Q L U fuel (listed.setIfInBounds j true) a' w')) [] a' w' →
   (((Zgk L U j = false → Za w w') ∧ (Zgl U j = true → w' = w)) ∧ Zda P .any ops Q (Zgk L U) (Zgl U) (Za w) fuel (listed.setIfInBounds j true) a' w') := fun a' w' h' =>
  ⟨⟨fun _ => h'.1, fun h0 => (by unfold Zgl at h0; rw [hu] at h0; cases h0)⟩, Zi4 (fun x hx => h'.1.trans hx) _ _ _ _ h'.2⟩
 have hup : o.wp P a w (wpList P ops (Zl6 Q w (fun a' w' => wpU P ops Q L U fuel (listed.setIfInBounds j true) a' w')) []) (Zl6 Q w (fun a' w' => wpU P ops Q L U fuel (listed.setIfInBounds j true) a' w')) →
   o.wp P a w (wpList P ops (Zl6 Q w (fun a' w' => wpU P ops Q L U fuel (listed.setIfInBounds j true) a' w')) []) Q := fun h' => by
  unfold Oper.wp at *
  generalize (execOp a.eval o).run P w = r at *
  cases r with
  | ok n w' => cases n <;> exact h'
  | halt x w' => cases x <;> exact h'
 show if Region.wanted o (yielded ops a.tmps) = true then _ else _
 split
 ·rename_i hw;rw [if_pos hw] at h
  rcases h with h | ⟨h1, h2⟩
  ·exact .inl (Oper.wp_mono hK (hup h))
  ·exact .inr ⟨h1, h2⟩
 ·rename_i hw;rw [if_neg hw] at h;exact hK _ _ h
theorem Zip {U : List Nat} {S : World → Prop} (L0 : List Nat) : ∀ (L : List Nat) (os : List Oper) (listed : Array Bool) (a : Act) (w : World), Zeu ops L listed = true → (∀ i ∈ L, L0.contains i = true ∧ U.contains i = false) → L.map (ops[·]?) = os.map some →
  wpList P ops Q os a w → Zda P .any ops Q (Zgk L0 U) (Zgl U) S L.length listed a w
 | [], os, listed, a, w, hch, _, hos, h => by
  have : os = [] := by cases os with
   | nil => rfl
   | cons => simp at hos
  subst this;exact ⟨by simpa [Zeu] using hch, h⟩
 | i :: L, os, listed, a, w, hch, htl, hos, h => by
  obtain ⟨o, os', rfl⟩ : ∃ o os', os = o :: os' := by cases os with
   | nil => simp at hos
   | cons o os' => exact ⟨o, os', rfl⟩
  simp only [List.map_cons, List.cons.injEq] at hos;simp only [Zeu, Bool.and_eq_true, beq_iff_eq] at hch;obtain ⟨hr, hch'⟩ := hch;refine ⟨fun h0 => (by rw [hr] at h0; cases h0), fun j hj => ?_⟩;rw [hr] at hj;obtain rfl : j = i := by simpa using hj
  have hj2 := htl j (by simp);have hK : ∀ a' w', wpList P ops Q os' a' w' → (((Zgk L0 U j = false → S w') ∧ (Zgl U j = true → w' = w)) ∧ Zda P .any ops Q (Zgk L0 U) (Zgl U) S L.length (listed.setIfInBounds j true) a' w') := fun a' w' h' =>
   ⟨⟨fun ht => (by unfold Zgk at ht; rw [hj2.1] at ht; cases ht), fun ht => (by unfold Zgl at ht; rw [hj2.2] at ht; cases ht)⟩, Zip L0 L os' _ a' w' hch' (fun k hk => htl k (by simp [hk])) hos.2 h'⟩
  unfold wpList at h;unfold wpOp;rw [hos.1];show if Region.wanted o (yielded ops a.tmps) = true then _ else _
  split
  ·rename_i hw;rw [if_pos hw] at h;exact h.imp (Oper.wp_mono hK) id
  ·rename_i hw;rw [if_neg hw] at h;exact hK _ _ h
/-- All that is asked where only the last operations L are left. -/
def Zo8 (ops : Array Oper) (L U : List Nat) (listed : Array Bool) : Bool := Zeu ops L listed && L.all fun i => !U.contains i
theorem Zbl {L U : List Nat} (os : List Oper) {n : Nat} {listed : Array Bool} {a : Act} {w : World} (hB : Zo8 ops L U listed = true) (hn : L.length = n) (hos : L.map (ops[·]?) = os.map some)
  (h : wpList P ops Q os a w) : wpU P ops Q L U n listed a w := by
 subst hn;simp only [Zo8, Bool.and_eq_true] at hB;exact Zip L L os listed a w hB.1 (fun i hi => ⟨by simpa using hi, by simpa using List.all_eq_true.1 hB.2 i hi⟩) hos h
end
/-- Zdz, what is always told alike left to Lean. -/
theorem tU {P : Program} {ops : Array Oper} {Q : Exit → Act → World → Prop} (i d : Nat) {L U : List Nat} {oi : Oper} {v : Value} {fuel : Nat} {listed : Array Bool} {a : Act} {w : World} (hi : ops[i]? = some oi) (hd : oi.dst = some d) (hy : ∀ x, Za w x → (execOp a.eval oi).run P x = .ok (.value v) x)
  (h : wpU P ops Q L U fuel (listed.setIfInBounds i true) (a.put (some d) v) w) (hB : Zk1 ops L listed i = true := by kernel_rfl) (hQ : ∀ c a w, Q (.panic c) (a.put (some d) v) w → Q (.panic c) a w := by exact fun _ _ _ h => h) (hw : Region.wanted oi (yielded ops a.tmps) = true := by rfl) : wpU P ops Q L U (fuel + 1) listed a w := Zdz i (some d) hi hd hB hQ hw hy h
/-- A drawn region that only reads, walked once in the order of the text, in the one world behind the draw (the kit's wp_region_quiet at the class of that world alone). -/
theorem Z6 {P : Program} {id : Nat} {Q : Exit → Act → World → Prop} {a : Act} {w : World} {l : List Oper} 
  (h : ∀ W, W = w.drew → wpQuiet P l.toArray (fun x => x = W) (fun a' => Q .normal a' W) l a) (hm : P.follows .mixedOrders = true := by kernel_rfl) (hB : Region.lexB .any l.toArray = true := by kernel_rfl) : (Code.region id l.toArray true).wp P Q a w :=
 wp_region_quiet (C := fun x => x = w.drew) hm hB rfl (by simpa using h w.drew rfl)
end Go.Proofs.YtpmhelkiicigfaaGreatDoor
namespace Go.Proofs.YtpmhelkiicigfaaGreatDoor
open Go.RowKit
/-- The call's own row, perhaps cut: its block may be greater than its capacity says. -/
def Zcr (w : World) (base : Nat) (e : TypeId) (size : Nat) (v : Value) (n : Nat) (xs : List Value) : Prop :=
 xs.length = n * size ∧
 ((v = .slice none 0 0 ∧ n = 0) ∨
  ∃ g cap cur, v = .slice (some ⟨g, 0, none⟩) n cap ∧ base ≤ g ∧ w.heap[g]? = some (.cells cur e (0, 0)) ∧ n ≤ cap ∧ cap ≤ maxLen ∧ cap * size ≤ cur.size ∧ cur.toList.take (n * size) = xs)
section
variable {w : World} {base : Nat} {e : TypeId} {size : Nat} {v : Value} {n : Nat} {xs : List Value}
theorem Zcr.nil (w : World) (base : Nat) (e : TypeId) (size : Nat) : Zcr w base e size (.slice none 0 0) 0 [] := ⟨by simp, .inl ⟨rfl, rfl⟩⟩
theorem Zcr.lt (h : Zcr w base e size v n xs) : ∀ k, v.ownBlock = some k → base ≤ k ∧ k < w.heap.size ∧ ∃ cur, w.heap[k]? = some (.cells cur e (0, 0)) := by
 intro k hk
 rcases h.2 with ⟨rfl, _⟩ | ⟨g, cap, cur, rfl, hb, hg, _⟩
 ·simp [Value.ownBlock] at hk
 ·simp [Value.ownBlock] at hk;subst hk;exact ⟨hb, (Array.getElem?_eq_some_iff.1 hg).1, cur, hg⟩
/-- The row's own block is as it was. -/
theorem Zcr.same {w' : World} (h : Zcr w base e size v n xs) (hs : ∀ k, v.ownBlock = some k → w'.heap[k]? = w.heap[k]?) : Zcr w' base e size v n xs := by
 refine ⟨h.1, ?_⟩
 rcases h.2 with hn | ⟨g, cap, cur, rfl, hb, hgg, rest⟩
 ·exact .inl hn
 ·refine .inr ⟨g, cap, cur, rfl, hb, ?_, rest⟩;rw [hs g rfl];exact hgg
theorem Zcr.cells (h : Zcr w base e size v n xs) {g : Nat} (hg : v.ownBlock = some g) : ∀ j u, xs[j]? = some u → w.cell? ⟨g, j, none⟩ = some u := by
 intro j u hu
 rcases h.2 with ⟨rfl, _⟩ | ⟨g', cap, cur, rfl, _, hgg, _, _, _, htake⟩
 ·simp [Value.ownBlock] at hg
 ·simp [Value.ownBlock] at hg;subst hg;rw [cell_of_row w g' j cur e (0, 0) hgg];rw [← htake, List.getElem?_take] at hu
  split at hu
  ·simpa using hu
  ·cases hu
theorem Zcr.form (h : Zcr w base e size v n xs) : ∃ A cap, v = .slice A n cap ∧ n ≤ cap ∧ cap ≤ maxLen := by
 rcases h.2 with ⟨rfl, rfl⟩ | ⟨g, cap, cur, rfl, hb, _, h1, h2, _⟩
 ·exact ⟨none, 0, rfl, Nat.le_refl _, Nat.zero_le _⟩
 ·exact ⟨_, cap, rfl, h1, h2⟩
/-- Cut to its first k elements, with whatever capacity up to its own. -/
theorem Zcr.cut {g cap k c : Nat} (h : Zcr w base e size (.slice (some ⟨g, 0, none⟩) n cap) n xs) (hk : k ≤ n) (hc : k ≤ c) (hcc : c ≤ cap) : Zcr w base e size (.slice (some ⟨g, 0, none⟩) k c) k (xs.take (k * size)) := by
 rcases h.2 with ⟨h0, _⟩ | ⟨g', cap', cur, hv, hb, hg, h1, h2, h3, h4⟩
 ·cases h0
 ·cases hv
  have hks : k * size ≤ n * size := Nat.mul_le_mul_right _ hk;refine ⟨by rw [List.length_take, h.1]; omega, .inr ⟨g, c, cur, rfl, hb, hg, hc, by omega, Nat.le_trans (Nat.mul_le_mul_right _ hcc) h3, ?_⟩⟩;rw [← h4, List.take_take, Nat.min_eq_left hks]
end
section
variable {P : Program} (w : World)
theorem Zjw (base : Nat) (t ty e : TypeId) (i : TypeInfo) (z : Value) (size bytes : Nat) (ht : P.underlying t = some (.slice e)) (hi : P.info? e = some i) (hz : i.zero = some z)
  (hsize : i.size = size) (hby : i.bytes = bytes) (hzs : z.cells.size = size)
  (v : Value) (n : Nat) (xs : List Value) (hown : Zcr w base e size v n xs)
  (a : Addr) (m c : Nat) (news : List Value) (hl : news.length = m * size) (hnews : ∀ j u, news[j]? = some u → w.cell? (a.add j) = some u) (h1 : ∀ u ∈ news, u.oneCell' = true) (hm : 0 < m)
  (h63 : n + m ≤ maxLen) (hbytes : (n + m) * bytes ≤ 140737488355328) (hbase : base ≤ w.heap.size) :
  ∃ v' w', (Builtin.append_ #[t, t] ty #[v, .slice (some a) m c]).run P w = .ok v' w' ∧ Zcr w' base e size v' (n + m) (xs ++ news) ∧ w.grownBy w' v.ownBlock ∧
   (v'.ownBlock = v.ownBlock ∨ v'.ownBlock = some w.heap.size) := by
 subst hsize;subst hby;have hsmall : n + m ≤ 9223372036854775807 := by simp only [maxLen] at h63; omega
 have hlen : (xs ++ news).length = (n + m) * i.size := by rw [List.length_append, hown.1, hl, Nat.add_mul]
 have grown : ∀ (old : Nat), old < n + m → ∀ (row : Option Nat),
   Zcr (w.drew.alloc (.cells (xs.toArray ++ news.toArray ++ Builtin.zeroCells z.cells (grownCap w (n + m) old e - (n + m))) e)) base e i.size
    (.slice (some ⟨w.heap.size, 0, none⟩) (n + m) (grownCap w (n + m) old e)) (n + m) (xs ++ news) ∧
   w.grownBy (w.drew.alloc (.cells (xs.toArray ++ news.toArray ++ Builtin.zeroCells z.cells (grownCap w (n + m) old e - (n + m))) e)) row := by
  intro old ho row;have hge := grownCap_ge w (n + m) old e;have hcm : grownCap w (n + m) old e ≤ maxLen := grownCap_le_maxLen w (n + m) old e h63;refine ⟨⟨hlen, .inr ⟨w.heap.size, _, _, rfl, hbase, heap_alloc_new w.drew _, hge, hcm, ?_, ?_⟩⟩, ⟨rfl, rfl, rfl, by simp, fun k hk _ => Below.heap_alloc w.drew _ k hk⟩⟩
  ·simp only [Array.size_append, List.size_toArray, size_zeroCells, hzs, hown.1, hl, ← Nat.add_mul];refine Nat.mul_le_mul_right _ ?_
   omega
  ·simp only [Array.toList_append, List.append_assoc];rw [← List.append_assoc, ← hlen];exact List.take_left
 rcases hown.2 with ⟨rfl, rfl⟩ | ⟨g, cap, cur, rfl, hbg, hg, hnc, hcm, hcs, htake⟩
 ·have hx : xs = [] := List.eq_nil_of_length_eq_zero (by simpa using hown.1);subst hx;have hr := run_append_nil (P := P) w t ty e i z ht hi hz a m c news hl hnews (by omega) (by omega) (by have hb := hbytes; simp only [Nat.zero_add] at hb; omega);have hgr := grown 0 (by omega) (Value.ownBlock (.slice none 0 0));simp only [Nat.zero_add, List.nil_append, Array.empty_append] at hgr ⊢;exact ⟨_, _, hr, hgr.1, hgr.2, .inr rfl⟩
 ·by_cases hroom : n + m ≤ cap
  ·have hfit : n * i.size + news.length ≤ cur.size := by rw [hl, ← Nat.add_mul]; exact Nat.le_trans (Nat.mul_le_mul_right _ hroom) hcs
   have hr := run_append_room (P := P) w t ty e i ht hi g n cap cur hg a m c news hl hnews h1 hroom hfit;refine ⟨_, _, hr, ⟨hlen, .inr ⟨g, cap, _, rfl, hbg, setRow_heap w g cur _ e _ hg, hroom, hcm, ?_, ?_⟩⟩, ⟨rfl, rfl, rfl, by simp, fun k _ hk => setRow_other w g k _ (fun e => hk (by simp [Value.ownBlock, e]))⟩, .inl rfl⟩
   ·simp only [List.size_toArray, List.length_append, List.length_take, List.length_drop, Array.length_toList]
    omega
   ·rw [htake, ← hlen];exact List.take_left
  ·have holds : ∀ j u, xs[j]? = some u → w.cell? ((⟨g, 0, none⟩ : Addr).add j) = some u := fun j u hu => by
    have hadd : (⟨g, 0, none⟩ : Addr).add j = ⟨g, j, none⟩ := by unfold Addr.add; split <;> simp_all
    rw [hadd];exact hown.cells (g := g) rfl j u hu
   have hr := run_append_grow (P := P) w t ty e i z ht hi hz ⟨g, 0, none⟩ n cap xs hown.1 holds a m c news hl hnews (by omega) (by omega) (growslice_fits (by omega) hbytes);have hgr := grown cap (by omega) (Value.ownBlock (.slice (some ⟨g, 0, none⟩) n cap));exact ⟨_, _, hr, hgr.1, hgr.2, .inr rfl⟩
theorem Zdc {ops : Array Oper} {rest : List Oper} {o : Oper} {a : Act} {Q : Exit → Act → World → Prop} (hgd : o.guard = none) (s x : Operand) (t : TypeId)
  (ho : o.op = .call { callee := .builtin .append, args := #[s, x], argTypes := #[t, t] })
  (base : Nat) (e : TypeId) (i : TypeInfo) (z : Value) (size bytes : Nat) (ht : P.underlying t = some (.slice e)) (hi : P.info? e = some i) (hz : i.zero = some z)
  (hsize : i.size = size) (hby : i.bytes = bytes) (hzs : z.cells.size = size)
  (v : Value) (n : Nat) (xs : List Value) (hs : a.eval s = v) (hown : Zcr w base e size v n xs)
  (ad : Addr) (m c : Nat) (news : List Value) (hx : a.eval x = .slice (some ad) m c) (hl : news.length = m * size) (hnews : ∀ j u, news[j]? = some u → w.cell? (ad.add j) = some u) (h1 : ∀ u ∈ news, u.oneCell' = true) (hm : 0 < m)
  (h63 : n + m ≤ maxLen) (hbytes : (n + m) * bytes ≤ 140737488355328) (hbase : base ≤ w.heap.size)
  (h : ∀ v' w', Zcr w' base e size v' (n + m) (xs ++ news) → w.grownBy w' v.ownBlock → (v'.ownBlock = v.ownBlock ∨ v'.ownBlock = some w.heap.size) → wpList P ops Q rest (a.put o.dst v') w') : wpList P ops Q (o :: rest) a w := by
 refine wpList_plain hgd fun _ hK => ?_;obtain ⟨v', w', hr, h2, h3, h4⟩ := Zjw (P := P) w base t o.type e i z size bytes ht hi hz hsize hby hzs v n xs hown ad m c news hl hnews h1 hm h63 hbytes hbase;unfold Oper.wp execOp;simp only [ho, resolve, invoke, builtin, Sem.run_bind, Sem.run_pure, Result.andThen_ok, List.map_toArray, List.map_cons, List.map_nil, hs, hx, hr];exact hK _ _ (h v' w' h2 h3 h4)
end
end Go.Proofs.YtpmhelkiicigfaaGreatDoor
namespace Go.Proofs.YtpmhelkiicigfaaGreatDoor
open Go.RowKit
/-- Things without rows in them, each cell of one value. -/
structure Zn3 {α : Type} (El : Zc0 α) (size : Nat) : Prop where
 is : Zea El size
 any : ∀ {F G : Nat → Prop} {w x a cs}, El F w a cs → El G x a cs
 one : ∀ {F w a cs}, El F w a cs → ∀ u ∈ cs, u.oneCell' = true
theorem Zn3.sp {α : Type} {El : Zc0 α} {size : Nat} (h : Zn3 El size) : Zhd El El size := Zjr h.is fun h' => h.any h'
theorem Zqp (b o i : Nat) : (⟨b, o, none⟩ : Addr).add i = ⟨b, o + i, none⟩ := by unfold Addr.add; split <;> simp_all
section
variable {P : Program} {α : Type} {El : Zc0 α} {size : Nat} {F : Nat → Prop} {l : List α} {v : Value}
/-- The cells of a row, one after the other. -/
theorem Zu.flat {w : World} (hE : Zea El size) (hone : ∀ {F w a cs}, El F w a cs → ∀ u ∈ cs, u.oneCell' = true) (h : Zu El size F w l v) (hp : 0 < l.length) (hs : 0 < size) :
  ∃ (b o c : Nat) (ys : List Value), v = .slice (some ⟨b, o, none⟩) l.length c ∧ ys.length = l.length * size ∧ (∀ j u, ys[j]? = some u → w.cell? ((⟨b, o, none⟩ : Addr).add j) = some u) ∧ (∀ u ∈ ys, u.oneCell' = true) ∧
   ∀ i (hi : i < l.length), ∃ cs, El F w l[i] cs ∧ ∀ q x, cs[q]? = some x → ys[i * size + q]? = some x := by
 obtain ⟨A, c, rfl, h1, h2, h3⟩ := h;obtain ⟨b, o, cs0, rfl, _⟩ := h3 0 hp;have hat : ∀ i (hi : i < l.length), ∃ cs, El F w l[i] cs ∧ ∀ q x, cs[q]? = some x → w.cell? ⟨b, o + i * size + q, none⟩ = some x := fun i hi => by
  obtain ⟨b', o', cs, e, _, _, hel, hc⟩ := h3 i hi;cases e;exact ⟨cs, hel, hc⟩
 have hcell : ∀ j, j < l.length * size → ∃ i, ∃ hi : i < l.length, ∃ cs q x, El F w l[i] cs ∧ j = i * size + q ∧ cs[q]? = some x ∧ w.cell? ⟨b, o + j, none⟩ = some x := fun j hj => by
  have hi : j / size < l.length := (Nat.div_lt_iff_lt_mul hs).2 hj;obtain ⟨cs, hel, hc⟩ := hat (j / size) hi;have hq : j % size < cs.length := by rw [hE.len hel]; exact Nat.mod_lt _ hs
  have hjj : j = j / size * size + j % size := by rw [Nat.mul_comm]; exact (Nat.div_add_mod j size).symm
  refine ⟨j / size, hi, cs, j % size, cs[j % size], hel, hjj, List.getElem?_eq_getElem hq, ?_⟩;have := hc _ _ (List.getElem?_eq_getElem hq)
  rwa [Nat.add_assoc, ← hjj] at this
 refine ⟨b, o, c, List.ofFn (n := l.length * size) fun j => (w.cell? ⟨b, o + j.1, none⟩).getD (.bool false), rfl, by simp, fun j u hu => ?_, fun u hu => ?_, fun i hi => ?_⟩
 ·have hj : j < l.length * size := by have := (List.getElem?_eq_some_iff.1 hu).1; simpa using this
  obtain ⟨_, _, _, _, x, _, _, _, hx⟩ := hcell j hj;rw [List.getElem?_ofFn] at hu;simp only [hj, dite_true, Option.some.injEq] at hu;rw [Zqp, hx, ← hu, hx]
  rfl
 ·obtain ⟨j, rfl⟩ := (List.mem_ofFn ..).1 hu;obtain ⟨i, hi, cs, q, x, hel, _, hq, hx⟩ := hcell j.1 j.2;rw [hx];exact hone hel x (List.mem_of_getElem? hq)
 ·obtain ⟨cs, hel, hc⟩ := hat i hi;refine ⟨cs, hel, fun q x hq => ?_⟩;have hql : q < size := by have := (List.getElem?_eq_some_iff.1 hq).1; rw [hE.len hel] at this; exact this
  have hj : i * size + q < l.length * size := by
   have : (i + 1) * size ≤ l.length * size := Nat.mul_le_mul_right _ hi;rw [Nat.add_mul, Nat.one_mul] at this
   omega
  rw [List.getElem?_ofFn];simp only [hj, dite_true];rw [← Nat.add_assoc, hc q x hq]
  rfl
/-- append([]T{}, row...): a copy. -/
theorem Zje (w : World) (hE : Zn3 El size) (hs0 : 0 < size) (t ty e : TypeId) (i : TypeInfo) (z : Value) (bytes : Nat) (ht : P.underlying t = some (.slice e)) (hi : P.info? e = some i) (hz : i.zero = some z)
  (hsize : i.size = size) (hby : i.bytes = bytes) (hzs : z.cells.size = size) {B : Nat} (hB : w.heap[B]? = some (.cells #[] e (0, 0)))
  (hsrc : Zu El size F w l v) (hm : l.length ≤ 2097152) (hbytes : bytes ≤ 1000) :
  ∃ v' w', (Builtin.append_ #[t, t] ty #[.slice (some ⟨B, 0, none⟩) 0 0, v]).run P w = .ok v' w' ∧ Zbo El size e (fun b => B ≤ b) w' l v' ∧ Za w w' := by
 subst hsize;subst hby;have hBlt := Zd hB
 by_cases h0 : l.length = 0
 ·obtain rfl : l = [] := List.eq_nil_of_length_eq_zero h0;refine ⟨.slice (some ⟨B, 0, none⟩) 0 0, w, ?_, ⟨_, 0, rfl, Nat.le_refl _, Nat.zero_le _, fun h => by simp at h⟩, Za.refl w⟩;obtain ⟨A, c, rfl, _, _⟩ := hsrc
  cases A <;> simp [Builtin.append_, run_underlying ht, sizeOf, typeInfo, hi, Builtin.lenOf, Builtin.firstCells, loadCells, loadCellsFrom, storeCells]
 ·obtain ⟨b, o, c, ys, rfl, hys, hnews, hone, hat⟩ := hsrc.flat hE.is hE.one (by omega) hs0;have hr := run_append_grow (P := P) w t ty e i z ht hi hz ⟨B, 0, none⟩ 0 0 [] (by simp) (fun j u hu => by simp at hu) ⟨b, o, none⟩ l.length c ys hys hnews (by omega) (by omega)
   (growslice_fits (by omega) (by have := Nat.mul_le_mul (show 0 + l.length ≤ 2097152 by omega) hbytes; omega))
  have hge := grownCap_ge w (0 + l.length) 0 e;have hcm : grownCap w (0 + l.length) 0 e ≤ maxLen := grownCap_le_maxLen w (0 + l.length) 0 e (by simp only [maxLen]; omega);refine ⟨_, _, hr, ⟨_, _, by rw [Nat.zero_add], by omega, hcm, fun _ => ⟨w.heap.size, 0, _, fun y => if h : y < 0 then 0 else 0, rfl, by omega, heap_alloc_new w.drew _, ⟨rfl, ?_⟩, fun k hk => ?_⟩⟩, (Za.refl w).drew.alloc _⟩
  ·simp only [Array.size_append, List.size_toArray, List.length_nil, size_zeroCells, hzs, hys];simp only [Nat.zero_add];rw [← Nat.add_mul];exact Nat.mul_le_mul_right _ (by simp only [Nat.zero_add] at hge; omega)
  obtain ⟨cs, hel, hc⟩ := hat k hk;refine ⟨cs, hE.any hel, fun q x hq => ?_⟩;have hyq := hc q x hq;have hlt := (List.getElem?_eq_some_iff.1 hyq).1;rw [Nat.zero_add]
  try simp only [List.nil_append]
  rw [Array.getElem?_append_left (by simpa using hlt)]
  simpa using hyq
theorem Zao {w : World} (hE : Zn3 El size) (hs0 : 0 < size) {ops : Array Oper} {rest : List Oper} {o : Oper} {a : Act} {Q : Exit → Act → World → Prop} (hgd : o.guard = none) (s x : Operand) (t : TypeId)
  (ho : o.op = .call { callee := .builtin .append, args := #[s, x], argTypes := #[t, t] })
  (e : TypeId) (i : TypeInfo) (z : Value) (bytes : Nat) (ht : P.underlying t = some (.slice e)) (hi : P.info? e = some i) (hz : i.zero = some z)
  (hsize : i.size = size) (hby : i.bytes = bytes) (hzs : z.cells.size = size) {B : Nat} (hs : a.eval s = .slice (some ⟨B, 0, none⟩) 0 0) (hB : w.heap[B]? = some (.cells #[] e (0, 0)))
  (hx : a.eval x = v) (hsrc : Zu El size F w l v) (hm : l.length ≤ 2097152) (hbytes : bytes ≤ 1000)
  (h : ∀ v' w', Zbo El size e (fun b => B ≤ b) w' l v' → Za w w' → wpList P ops Q rest (a.put o.dst v') w') : wpList P ops Q (o :: rest) a w := by
 refine wpList_plain hgd fun _ hK => ?_;obtain ⟨v', w', hr, h2, h3⟩ := Zje (P := P) w hE hs0 t o.type e i z bytes ht hi hz hsize hby hzs hB hsrc hm hbytes;unfold Oper.wp execOp;simp only [ho, resolve, invoke, builtin, Sem.run_bind, Sem.run_pure, Result.andThen_ok, List.map_toArray, List.map_cons, List.map_nil, hs, hx, hr];exact hK _ _ (h v' w' h2 h3)
end
/-! ### A row that grows thing by thing -/
structure Zgm {α : Type} (S : Zc0 α) (size : Nat) (T : TypeId) (base : Nat) (l : List α) (v : Value) (w : World) (xs : List Value) (tag : Nat → Nat) : Prop where
 row : Zcr w base T size v l.length xs
 el : ∀ i (h : i < l.length), ∃ cs, S (fun y => (base ≤ y ∧ y < w.heap.size ∧ v.ownBlock ≠ some y) ∧ tag y = i) w l[i] cs ∧ ∀ q x, cs[q]? = some x → xs[i * size + q]? = some x
def Zev {α : Type} (S : Zc0 α) (size : Nat) (T : TypeId) (base : Nat) (l : List α) (v : Value) (w : World) : Prop := ∃ xs tag, Zgm S size T base l v w xs tag
section
variable {α : Type} {S El : Zc0 α} {size : Nat} {T : TypeId} {base : Nat} {l : List α} {v : Value} {w x : World} {xs : List Value} {tag : Nat → Nat}
theorem Zev.nil (w : World) : Zev S size T base ([] : List α) (.slice none 0 0) w := ⟨[], fun _ => 0, ⟨Zcr.nil _ _ _ _, fun i h => by simp at h⟩⟩
theorem Zev.fresh {B : Nat} (hB : w.heap[B]? = some (.cells #[] T (0, 0))) (hb : base ≤ B) : Zev S size T base ([] : List α) (.slice (some ⟨B, 0, none⟩) 0 0) w :=
 ⟨[], fun _ => 0, ⟨⟨by simp, .inr ⟨B, 0, #[], rfl, hb, hB, Nat.le_refl _, Nat.zero_le _, by simp, by simp⟩⟩, fun i h => by simp at h⟩⟩
theorem Zgm.keep (hE : Zea S size) (h : Zgm S size T base l v w xs tag) (hk : Zc (fun y => base ≤ y ∧ y < w.heap.size) w x) : Zgm S size T base l v x xs tag := by
 refine ⟨h.row.same fun k hk' => hk.same k ⟨(h.row.lt k hk').1, (h.row.lt k hk').2.1⟩ (h.row.lt k hk').2.1, fun i hi => ?_⟩;obtain ⟨cs, hs, hc⟩ := h.el i hi;exact ⟨cs, hE.keep hs (fun y hy => ⟨⟨hy.1.1, Nat.lt_of_lt_of_le hy.1.2.1 hk.size, hy.1.2.2⟩, hy.2⟩) (hk.mono fun y hy => ⟨hy.1.1, hy.1.2.1⟩), hc⟩
theorem Zev.keep (hE : Zea S size) (h : Zev S size T base l v w) (hk : Zc (fun y => base ≤ y ∧ y < w.heap.size) w x) : Zev S size T base l v x := by
 obtain ⟨xs, tag, h⟩ := h;exact ⟨xs, tag, h.keep hE hk⟩
theorem Zev.later (hE : Zea S size) (h : Zev S size T base l v w) (hl : Za w x) : Zev S size T base l v x := h.keep hE (Zc.later hl)
/-- One more: wr the world when the thing was begun, w the world ahead of append, x behind it. -/
theorem Zgm.push {wr : World} (hE : Zhd S El size) (h : Zgm S size T base l v wr xs tag) (hk : Zc (fun y => base ≤ y ∧ y < wr.heap.size) wr w) (hb : base ≤ wr.heap.size) {a : α} {cs : List Value}
  (he : S (fun y => wr.heap.size ≤ y) w a cs) {v' : Value} (hown : Zcr x base T size v' (l.length + 1) (xs ++ cs)) (hg : w.grownBy x v.ownBlock) (hn : v'.ownBlock = v.ownBlock ∨ v'.ownBlock = some w.heap.size) :
  Zev S size T base (l ++ [a]) v' x := by
 have hsz := hk.size;have hvb : ∀ k, v.ownBlock = some k → base ≤ k ∧ k < wr.heap.size := fun k e => ⟨(h.row.lt k e).1, (h.row.lt k e).2.1⟩;have hkeep : ∀ {F : Nat → Prop}, (∀ y, F y → v.ownBlock ≠ some y) → Zc F w x := fun hF => ⟨hg.size, fun b hf hl => hg.block b hl (fun e => hF b hf e.symm)⟩;refine ⟨xs ++ cs, fun y => if wr.heap.size ≤ y then l.length else tag y, by simpa using hown, fun i hi => ?_⟩
 by_cases e : i < l.length
 ·obtain ⟨cs0, hs, hc⟩ := h.el i e;rw [List.getElem_append_left e];refine ⟨cs0, hE.is.keep hs (fun y hy => ⟨⟨hy.1.1, by have := hg.size; omega, ?_⟩, ?_⟩) ((hk.mono fun y hy => ⟨hy.1.1, hy.1.2.1⟩).trans (hkeep fun y hy => hy.1.2.2)), fun q z hq => ?_⟩
  ·intro h2
   rcases hn with h3 | h3
   ·exact hy.1.2.2 (h3.symm.trans h2)
   ·rw [h3] at h2; cases h2; have := hy.1.2.1; omega
  ·show (if wr.heap.size ≤ y then l.length else tag y) = i;rw [if_neg (by omega)]; exact hy.2
  ·have := hc q z hq;rw [List.getElem?_append_left (List.getElem?_eq_some_iff.1 this).1];exact this
 ·have hil : i = l.length := by simp at hi; omega
  subst hil;rw [List.getElem_append_right (Nat.le_refl _)];simp only [Nat.sub_self, List.getElem_cons_zero];refine ⟨cs, hE.is.keep (hE.trim he) (fun y hy => ⟨⟨by omega, by have := hg.size; omega, ?_⟩, ?_⟩) (hkeep fun y hy h2 => by have := (hvb y h2).2; omega), fun q z hq => ?_⟩
  ·intro h2
   rcases hn with h3 | h3
   ·have := (hvb y (h3.symm.trans h2)).2; omega
   ·rw [h3] at h2; cases h2; omega
  ·show (if wr.heap.size ≤ y then l.length else tag y) = l.length;rw [if_pos hy.1]
  ·rw [← h.row.1, List.getElem?_append_right (by omega)]
   simpa using hq
theorem Zev.row (hE : Zhd S El size) (h : Zev S size T base l v w) : Zbo S size T (fun b => base ≤ b) w l v := by
 obtain ⟨xs, tag, h⟩ := h
 rcases h.row.2 with ⟨rfl, h0⟩ | ⟨g, cap, cur, rfl, hb, hg, h1, h2, h3, h4⟩
 ·exact ⟨none, 0, by rw [h0], by omega, Nat.zero_le _, fun hp => by omega⟩
 ·refine ⟨_, cap, rfl, h1, h2, fun _ => ⟨g, 0, cur, tag, rfl, hb, hg, ⟨rfl, by omega⟩, fun i hi => ?_⟩⟩;obtain ⟨cs, hs, hc⟩ := h.el i hi;refine ⟨cs, hE.is.keep hs (fun y hy => ⟨⟨hy.1.1, fun e => hy.1.2.2 (by rw [e]; rfl)⟩, hy.2⟩) (Zc.refl _ _), fun q x hq => ?_⟩;have := hc q x hq;rw [← h4, List.getElem?_take] at this
  split at this
  ·rw [Nat.zero_add]; simpa using this
  ·cases this
end
end Go.Proofs.YtpmhelkiicigfaaGreatDoor
namespace Go.Proofs.YtpmhelkiicigfaaGreatDoor
open Go.RowKit
section
variable {P : Program} {α : Type} {S El : Zc0 α} {size : Nat} {F G : Nat → Prop} {l : List α} {v : Value}
theorem Zkm (w : World) (hE : Zhd S El size) (t ty e : TypeId) (i : TypeInfo) (z : Value) (bytes : Nat) (ht : P.underlying t = some (.slice e)) (hi : P.info? e = some i) (hz : i.zero = some z)
  (hsize : i.size = size) (hby : i.bytes = bytes) (hzs : z.cells.size = size) (hrow : Zbo S size e F w l v)
  (ad : Addr) (c : Nat) (a : α) (cs : List Value) (hnews : ∀ j u, cs[j]? = some u → w.cell? (ad.add j) = some u) (hone : ∀ u ∈ cs, u.oneCell' = true) (hel : S G w a cs) (hFG : ∀ y, G y → ¬ F y)
  (hm : l.length ≤ 2097152) (hbytes : bytes ≤ 1000) :
  ∃ v' w', (Builtin.append_ #[t, t] ty #[v, .slice (some ad) 1 c]).run P w = .ok v' w' ∧ Zbo S size e (fun y => F y ∨ G y ∨ y = w.heap.size) w' (l ++ [a]) v' ∧ Zc (fun y => ¬ F y) w w' ∧ Below 0 w w' := by
 subst hsize;subst hby;have hcl : cs.length = 1 * i.size := by rw [hE.is.len hel, Nat.one_mul]
 have hby2 : (l.length + 1) * i.bytes ≤ 140737488355328 := by have := Nat.mul_le_mul (show l.length + 1 ≤ 2097153 by omega) hbytes; omega
 have mk : ∀ (w' : World) (g c' : Nat) (cur : Array Value) (tag : Nat → Nat), w'.heap[g]? = some (.cells cur e (0, 0)) → (F g ∨ g = w.heap.size) → (∀ y, y < w.heap.size → y ≠ g → w'.heap[y]? = w.heap[y]?) → w.heap.size ≤ w'.heap.size →
   l.length + 1 ≤ c' → c' ≤ maxLen → c' * i.size ≤ cur.size →
   (∀ k (h : k < l.length), ∃ cs, S (fun x => ((F x ∧ x < w.heap.size) ∧ x ≠ g) ∧ tag x = k) w l[k] cs ∧ ∀ j x, cs[j]? = some x → cur[k * i.size + j]? = some x) → (∀ j x, cs[j]? = some x → cur[l.length * i.size + j]? = some x) →
   Zbo S i.size e (fun y => F y ∨ G y ∨ y = w.heap.size) w' (l ++ [a]) (.slice (some ⟨g, 0, none⟩) (l.length + 1) c') := by
  intro w' g c' cur tag hg hgF hkeep hsz h1 h2 h3 hold hnew
  classical
  refine ⟨_, c', by simp, by simpa using h1, h2, fun _ => ⟨g, 0, cur, fun y => if G y then l.length else tag y, rfl, ?_, hg, ⟨rfl, by omega⟩, fun k hk => ?_⟩⟩
  ·rcases hgF with h | h
   ·exact .inl h
   ·exact .inr (.inr h)
  ·by_cases hkl : k < l.length
   ·obtain ⟨cs0, hs, hc⟩ := hold k hkl;rw [List.getElem_append_left hkl];refine ⟨cs0, hE.is.keep hs (fun y hy => ⟨⟨.inl hy.1.1.1, hy.1.2⟩, ?_⟩) ⟨hsz, fun b hb hl => hkeep b hl hb.1.2⟩, fun j x hj => by rw [Nat.zero_add]; exact hc j x hj⟩;show (if G y then l.length else tag y) = k;rw [if_neg (fun hg => hFG y hg hy.1.1.1)];exact hy.2
   ·obtain rfl : k = l.length := by simp at hk; omega
    rw [List.getElem_append_right (Nat.le_refl _)];simp only [Nat.sub_self, List.getElem_cons_zero];have hng : ∀ y, G y ∧ y < w.heap.size → y ≠ g := fun y hy e => by
     rcases hgF with h | h
     ·exact hFG y hy.1 (e ▸ h)
     ·omega
    refine ⟨cs, hE.is.keep (hE.trim hel) (fun y hy => ⟨⟨.inr (.inl hy.1), hng y hy⟩, ?_⟩) ⟨hsz, fun b hb hl => hkeep b hl (hng b hb)⟩, fun j x hj => by rw [Nat.zero_add]; exact hnew j x hj⟩;show (if G y then l.length else tag y) = l.length;rw [if_pos hy.1]
 obtain ⟨A, cp, rfl, hc, hcm, h3⟩ := hrow;have hadd : ∀ g j, ((⟨g, 0, none⟩ : Addr).add j) = ⟨g, j, none⟩ := fun g j => by unfold Addr.add; split <;> simp_all
 by_cases h0 : cp = 0
 ·obtain rfl : l = [] := List.eq_nil_of_length_eq_zero (by omega);subst h0;have grown : ∀ old : Nat, old < 1 → Zbo S i.size e (fun y => F y ∨ G y ∨ y = w.heap.size) (w.drew.alloc (.cells ((#[] : Array Value) ++ cs.toArray ++ Builtin.zeroCells z.cells (grownCap w (0 + 1) old e - (0 + 1))) e)) ([] ++ [a]) (.slice (some ⟨w.heap.size, 0, none⟩) (0 + 1) (grownCap w (0 + 1) old e)) := fun old ho => by
   have hge := grownCap_ge w (0 + 1) old e;have hgm : grownCap w (0 + 1) old e ≤ maxLen := grownCap_le_maxLen w (0 + 1) old e (by simp only [maxLen]; omega);refine mk _ _ _ _ (fun _ => 0) (heap_alloc_new w.drew _) (.inr rfl) (fun y hy _ => Below.heap_alloc w.drew _ y hy) (by simp) hge hgm ?_ (fun k hk => by simp at hk) (fun j x hj => ?_)
   ·simp only [Array.size_append, List.size_toArray, size_zeroCells, hzs, hcl, Array.size_empty];simp only [List.length_nil, Nat.zero_add] at hge ⊢;rw [← Nat.add_mul];exact Nat.mul_le_mul_right _ (by omega)
   ·have hlt := (List.getElem?_eq_some_iff.1 hj).1;rw [Array.getElem?_append_left (by simp; omega)]
    simpa using hj
  have keeps : ∀ o : Obj, Zc (fun y => ¬ F y) w (w.drew.alloc o) := fun o => ⟨by simp, fun b _ hb => Below.heap_alloc w.drew _ b hb⟩
  cases A with
  | none =>
   have hr := run_append_nil (P := P) w t ty e i z ht hi hz ad 1 c cs hcl hnews (by omega) (by omega) (by omega);have hgr := grown 0 (by omega);simp only [Nat.zero_add, List.nil_append, Array.empty_append, List.length_nil] at hgr hr ⊢;exact ⟨_, _, hr, hgr, keeps _, (Below.refl 0 w).drew.alloc (Nat.zero_le _) _⟩
  | some a0 =>
   have hr := run_append_grow (P := P) w t ty e i z ht hi hz a0 0 0 [] (by simp) (fun j u hu => by simp at hu) ad 1 c cs hcl hnews (by omega) (by omega) (growslice_fits (by omega) (by simpa using hby2));have hgr := grown 0 (by omega);exact ⟨_, _, hr, hgr, keeps _, (Below.refl 0 w).drew.alloc (Nat.zero_le _) _⟩
 ·obtain ⟨b, o, cur, tag, rfl, hF, hb, ⟨rfl, hcap⟩, hall⟩ := h3 (by omega);have hbw := Zd hb;have hcurl : cur.toList.length = cur.size := Array.length_toList;rw [Nat.zero_add] at hcap;have hold : ∀ g, (g = b ∨ g = w.heap.size) → ∀ k (h : k < l.length), ∃ cs, S (fun x => ((F x ∧ x < w.heap.size) ∧ x ≠ g) ∧ tag x = k) w l[k] cs ∧ ∀ j x, cs[j]? = some x → cur[k * i.size + j]? = some x := fun g hg k hk => by
   obtain ⟨cs0, hs, hc0⟩ := hall k hk;refine ⟨cs0, hE.is.keep (hE.trim hs) (fun y hy => ⟨⟨⟨hy.1.1.1, hy.2⟩, ?_⟩, hy.1.2⟩) (Zc.refl _ _), fun j x hj => by have := hc0 j x hj; rwa [Nat.zero_add] at this⟩
   rcases hg with rfl | rfl
   ·exact hy.1.1.2
   ·have := hy.2; omega
  have hlc : l.length * i.size ≤ cur.size := Nat.le_trans (Nat.mul_le_mul_right _ hc) hcap
  by_cases hroom : l.length + 1 ≤ cp
  ·have hfit : l.length * i.size + cs.length ≤ cur.size := by rw [hcl, ← Nat.add_mul]; exact Nat.le_trans (Nat.mul_le_mul_right _ hroom) hcap
   have hr := run_append_room (P := P) w t ty e i ht hi b l.length cp cur hb ad 1 c cs hcl hnews hone hroom hfit;refine ⟨_, _, hr, mk _ b cp _ tag (setRow_heap w b cur _ e _ hb) (.inl hF) (fun y hy hyb => setRow_other w b y _ hyb) (by simp) hroom hcm ?_ (fun k hk => ?_) (fun j x hj => ?_), ⟨by simp, fun y hy hl => setRow_other w b y _ (fun e => hy (e ▸ hF))⟩, ⟨rfl, rfl, rfl, by simp, fun k h => absurd h (Nat.not_lt_zero _)⟩⟩
   ·simp only [List.size_toArray, List.length_append, List.length_take, List.length_drop, Array.length_toList]
    omega
   ·obtain ⟨cs0, hs, hc0⟩ := hold b (.inl rfl) k hk;refine ⟨cs0, hs, fun j x hj => ?_⟩;have hx := hc0 j x hj;have hjs : j < i.size := by have := hE.is.len hs; have := (List.getElem?_eq_some_iff.1 hj).1; omega
    have hlt : k * i.size + j < l.length * i.size := by
     have : (k + 1) * i.size ≤ l.length * i.size := Nat.mul_le_mul_right _ hk;rw [Nat.add_mul, Nat.one_mul] at this
     omega
    rw [List.getElem?_toArray, List.append_assoc, List.getElem?_append_left (by rw [List.length_take, hcurl]; omega), List.getElem?_take, if_pos hlt]
    simpa using hx
   ·have hlt := (List.getElem?_eq_some_iff.1 hj).1;rw [List.getElem?_toArray, List.append_assoc, List.getElem?_append_right (by rw [List.length_take, hcurl]; omega), List.length_take, hcurl, Nat.min_eq_left hlc, Nat.add_sub_cancel_left, List.getElem?_append_left hlt];exact hj
  ·have hxs : (cur.toList.take (l.length * i.size)).length = l.length * i.size := by rw [List.length_take, hcurl]; omega
   have holds : ∀ j u, (cur.toList.take (l.length * i.size))[j]? = some u → w.cell? ((⟨b, 0, none⟩ : Addr).add j) = some u := fun j u hu => by
    rw [hadd, cell_of_row w b j cur e (0, 0) hb];rw [List.getElem?_take] at hu
    split at hu
    ·simpa using hu
    ·cases hu
   have hr := run_append_grow (P := P) w t ty e i z ht hi hz ⟨b, 0, none⟩ l.length cp (cur.toList.take (l.length * i.size)) hxs holds ad 1 c cs hcl hnews (by omega) (by omega) (growslice_fits (by omega) hby2);have hge := grownCap_ge w (l.length + 1) cp e;have hgm : grownCap w (l.length + 1) cp e ≤ maxLen := grownCap_le_maxLen w (l.length + 1) cp e (by simp only [maxLen]; omega);refine ⟨_, _, hr, mk _ _ _ _ tag (heap_alloc_new w.drew _) (.inr rfl) (fun y hy _ => Below.heap_alloc w.drew _ y hy) (by simp) hge hgm ?_ (fun k hk => ?_) (fun j x hj => ?_), ⟨by simp, fun b _ hb => Below.heap_alloc w.drew _ b hb⟩, (Below.refl 0 w).drew.alloc (Nat.zero_le _) _⟩
   ·simp only [Array.size_append, List.size_toArray, size_zeroCells, hzs, hxs, hcl, ← Nat.add_mul];exact Nat.mul_le_mul_right _ (by omega)
   ·obtain ⟨cs0, hs, hc0⟩ := hold w.heap.size (.inr rfl) k hk;refine ⟨cs0, hs, fun j x hj => ?_⟩;have hx := hc0 j x hj;have hjs : j < i.size := by have := hE.is.len hs; have := (List.getElem?_eq_some_iff.1 hj).1; omega
    have hlt : k * i.size + j < l.length * i.size := by
     have : (k + 1) * i.size ≤ l.length * i.size := Nat.mul_le_mul_right _ hk;rw [Nat.add_mul, Nat.one_mul] at this
     omega
    rw [Array.getElem?_append_left (by simp only [Array.size_append, List.size_toArray, hxs]; omega), Array.getElem?_append_left (by rw [List.size_toArray, hxs]; exact hlt), List.getElem?_toArray, List.getElem?_take, if_pos hlt]
    simpa using hx
   ·have hlt := (List.getElem?_eq_some_iff.1 hj).1;rw [Array.getElem?_append_left (by simp only [Array.size_append, List.size_toArray, hxs]; omega), Array.getElem?_append_right (by rw [List.size_toArray, hxs]; omega), List.size_toArray, hxs, Nat.add_sub_cancel_left, List.getElem?_toArray];exact hj
theorem Zfu {w : World} (hE : Zhd S El size) {ops : Array Oper} {rest : List Oper} {o : Oper} {ac : Act} {Q : Exit → Act → World → Prop} (hgd : o.guard = none) (s x : Operand) (t : TypeId)
  (ho : o.op = .call { callee := .builtin .append, args := #[s, x], argTypes := #[t, t] })
  (e : TypeId) (i : TypeInfo) (z : Value) (bytes : Nat) (ht : P.underlying t = some (.slice e)) (hi : P.info? e = some i) (hz : i.zero = some z)
  (hsize : i.size = size) (hby : i.bytes = bytes) (hzs : z.cells.size = size) (hs : ac.eval s = v) (hrow : Zbo S size e F w l v)
  (ad : Addr) (c : Nat) (hx : ac.eval x = .slice (some ad) 1 c) (a : α) (cs : List Value) (hnews : ∀ j u, cs[j]? = some u → w.cell? (ad.add j) = some u) (hone : ∀ u ∈ cs, u.oneCell' = true) (hel : S G w a cs) (hFG : ∀ y, G y → ¬ F y)
  (hm : l.length ≤ 2097152) (hbytes : bytes ≤ 1000)
  (h : ∀ v' w', Zbo S size e (fun y => F y ∨ G y ∨ y = w.heap.size) w' (l ++ [a]) v' → Zc (fun y => ¬ F y) w w' → Below 0 w w' → wpList P ops Q rest (ac.put o.dst v') w') : wpList P ops Q (o :: rest) ac w := by
 refine wpList_plain hgd fun _ hK => ?_;obtain ⟨v', w', hr, h2, h3, h4⟩ := Zkm (P := P) w hE t o.type e i z bytes ht hi hz hsize hby hzs hrow ad c a cs hnews hone hel hFG hm hbytes;unfold Oper.wp execOp;simp only [ho, resolve, invoke, builtin, Sem.run_bind, Sem.run_pure, Result.andThen_ok, List.map_toArray, List.map_cons, List.map_nil, hs, hx, hr];exact hK _ _ (h v' w' h2 h3 h4)
end
end Go.Proofs.YtpmhelkiicigfaaGreatDoor
namespace Go.Proofs.YtpmhelkiicigfaaGreatDoor
open Go.RowKit
structure Zi6 where
 low : Int
 high : Int
def Zf5 : Zc0 Zi6 := fun _ _ r cs => cs = [.int .i64 r.low, .int .i64 r.high] ∧ Zac r.low ∧ Zac r.high
theorem Zfv : Zea Zf5 2 where
 len := fun ⟨e, _⟩ => by rw [e]; rfl
 keep := fun ⟨e, h0, h1⟩ _ _ => ⟨e, h0, h1⟩
structure Zaw where
 name : ByteArray
 fields : List ByteArray
 line : Int
def Zaz : Zc0 Zaw := fun F w r cs => ∃ aU, cs = [.string r.name, aU, .int .i64 r.line] ∧ r.name.size ≤ maxLen ∧ Zu Zbp 1 F w r.fields aU ∧ Zac r.line
theorem Zak : Zea Zaz 3 where
 len := fun ⟨_, e, _⟩ => by rw [e]; rfl
 keep := fun ⟨aU, e, h0, h1, h2⟩ hFG hk => ⟨aU, e, h0, h1.keep Z4 hFG hk, h2⟩
def Zo (r : Zaw) : Nat := r.name.size + (Zk ByteArray.size r.fields)
def Za0 : Zc0 Zaw := fun F w r cs => ∃ (tag : Nat → Nat) (aU : Value), cs = [.string r.name, aU, .int .i64 r.line] ∧ r.name.size ≤ maxLen ∧ Zbo Zbp 1 9 (fun y => F y ∧ tag y = 0) w r.fields aU ∧ Zac r.line
theorem Zf : Zhd Za0 Zaz 3 where
 is := {
  len := fun ⟨_, _, e, _⟩ => by rw [e]; rfl
  keep := fun ⟨tag, aU, e, h0, h1, h2⟩ hFG hk => ⟨tag, aU, e, h0, h1.keep Zg.is (fun y hy => ⟨hFG y hy.1, hy.2⟩) (hk.mono fun y hy => hy.1), h2⟩ }
 el := fun ⟨tag, aU, e, h0, h1, h2⟩ => ⟨aU, e, h0, (h1.el Zg).keep Z4 (fun y hy => hy.1) (Zc.refl _ _), h2⟩
 trim := fun ⟨tag, aU, e, h0, h1, h2⟩ => ⟨tag, aU, e, h0, (h1.trim Zg).keep Zg.is (fun y hy => ⟨⟨hy.1.1, hy.2⟩, hy.1.2⟩) (Zc.refl _ _), h2⟩
structure Zj where
 kind : Int
 aH : Int
 index : Int
 text : ByteArray
 set_ : Zi6
def Ze : Zc0 Zj := fun _ _ r cs => cs = [.int .i64 r.kind, .int .i64 r.aH, .int .i64 r.index, .string r.text, .int .i64 r.set_.low, .int .i64 r.set_.high] ∧ Zac r.kind ∧ Zac r.aH ∧ Zac r.index ∧ r.text.size ≤ maxLen ∧ Zac r.set_.low ∧ Zac r.set_.high
theorem Zb : Zea Ze 6 where
 len := fun ⟨e, _⟩ => by rw [e]; rfl
 keep := fun ⟨e, h0, h1, h2, h3, h4, h5⟩ _ _ => ⟨e, h0, h1, h2, h3, h4, h5⟩
def Zs (r : Zj) : Nat := r.text.size
theorem Zn : Zhd Ze Ze 6 := Zjr Zb fun h => h
structure Zay where
 kind : Int
 tag : Int
 aI : Int
 aJ : List Zj
 aK : List Zj
def Zbq : Zc0 Zay := fun F w r cs => ∃ aS aT, cs = [.int .i64 r.kind, .int .i64 r.tag, .int .i64 r.aI, aS, aT] ∧ Zac r.kind ∧ Zac r.tag ∧ Zac r.aI ∧ Zu Ze 6 F w r.aJ aS ∧ Zu Ze 6 F w r.aK aT
theorem Za9 : Zea Zbq 5 where
 len := fun ⟨_, _, e, _⟩ => by rw [e]; rfl
 keep := fun ⟨aS, aT, e, h0, h1, h2, h3, h4⟩ hFG hk => ⟨aS, aT, e, h0, h1, h2, h3.keep Zb hFG hk, h4.keep Zb hFG hk⟩
def Zr (r : Zay) : Nat := Zk Zs r.aJ + (Zk Zs r.aK)
def Zbx : Zc0 Zay := fun F w r cs => ∃ (tag : Nat → Nat) (aS : Value) (aT : Value), cs = [.int .i64 r.kind, .int .i64 r.tag, .int .i64 r.aI, aS, aT] ∧ Zac r.kind ∧ Zac r.tag ∧ Zac r.aI ∧ Zbo Ze 6 34 (fun y => F y ∧ tag y = 0) w r.aJ aS ∧ Zbo Ze 6 34 (fun y => F y ∧ tag y = 1) w r.aK aT
theorem Zq : Zhd Zbx Zbq 5 where
 is := {
  len := fun ⟨_, _, _, e, _⟩ => by rw [e]; rfl
  keep := fun ⟨tag, aS, aT, e, h0, h1, h2, h3, h4⟩ hFG hk => ⟨tag, aS, aT, e, h0, h1, h2, h3.keep Zn.is (fun y hy => ⟨hFG y hy.1, hy.2⟩) (hk.mono fun y hy => hy.1), h4.keep Zn.is (fun y hy => ⟨hFG y hy.1, hy.2⟩) (hk.mono fun y hy => hy.1)⟩ }
 el := fun ⟨tag, aS, aT, e, h0, h1, h2, h3, h4⟩ => ⟨aS, aT, e, h0, h1, h2, (h3.el Zn).keep Zb (fun y hy => hy.1) (Zc.refl _ _), (h4.el Zn).keep Zb (fun y hy => hy.1) (Zc.refl _ _)⟩
 trim := fun ⟨tag, aS, aT, e, h0, h1, h2, h3, h4⟩ => ⟨tag, aS, aT, e, h0, h1, h2, (h3.trim Zn).keep Zn.is (fun y hy => ⟨⟨hy.1.1, hy.2⟩, hy.1.2⟩) (Zc.refl _ _), (h4.trim Zn).keep Zn.is (fun y hy => ⟨⟨hy.1.1, hy.2⟩, hy.1.2⟩) (Zc.refl _ _)⟩
structure Zdd where
 routine : Int
 frame : Int
def Zbf : Zc0 Zdd := fun _ _ r cs => cs = [.int .i64 r.routine, .int .i64 r.frame] ∧ Zac r.routine ∧ Zac r.frame
theorem Zba : Zea Zbf 2 where
 len := fun ⟨e, _⟩ => by rw [e]; rfl
 keep := fun ⟨e, h0, h1⟩ _ _ => ⟨e, h0, h1⟩
theorem Zah : Zhd Zbf Zbf 2 := Zjr Zba fun h => h
structure Zh where
 names : List ByteArray
 aB : List Zaw
 aA : List Zay
 globals : List Zj
 aC : ByteArray
 aD : Int
 output : List ByteArray
 trace : List ByteArray
 aE : List Zdd
 aF : Bool
 ticks : Int
 aG : Int
 made : Int
def Zb6 : Zc0 Zh := fun F w r cs => ∃ aL aM aN aO aP aQ aR, cs = [aL, aM, aN, aO, .string r.aC, .int .i64 r.aD, aP, aQ, aR, .bool r.aF, .int .i64 r.ticks, .int .i64 r.aG, .int .i64 r.made] ∧ Zu Zbp 1 F w r.names aL ∧ Zu Zaz 3 F w r.aB aM ∧ Zu Zbq 5 F w r.aA aN ∧ Zu Ze 6 F w r.globals aO ∧ r.aC.size ≤ maxLen ∧ Zac r.aD ∧ Zu Zbp 1 F w r.output aP ∧ Zu Zbp 1 F w r.trace aQ ∧ Zu Zbf 2 F w r.aE aR ∧ Zac r.ticks ∧ Zac r.aG ∧ Zac r.made
theorem Z7 : Zea Zb6 13 where
 len := fun ⟨_, _, _, _, _, _, _, e, _⟩ => by rw [e]; rfl
 keep := fun ⟨aL, aM, aN, aO, aP, aQ, aR, e, h0, h1, h2, h3, h4, h5, h6, h7, h8, h9, h10, h11⟩ hFG hk => ⟨aL, aM, aN, aO, aP, aQ, aR, e, h0.keep Z4 hFG hk, h1.keep Zak hFG hk, h2.keep Za9 hFG hk, h3.keep Zb hFG hk, h4, h5, h6.keep Z4 hFG hk, h7.keep Z4 hFG hk, h8.keep Zba hFG hk, h9, h10, h11⟩
def Zad (r : Zh) : Nat := Zk ByteArray.size r.names + (Zk Zo r.aB + (Zk Zr r.aA + (Zk Zs r.globals + (r.aC.size + (Zk ByteArray.size r.output + (Zk ByteArray.size r.trace + (Zk (fun _ => 0) r.aE)))))))
def Zcz : Zc0 Zh := fun F w r cs => ∃ (tag : Nat → Nat) (aL : Value) (aM : Value) (aN : Value) (aO : Value) (aP : Value) (aQ : Value) (aR : Value), cs = [aL, aM, aN, aO, .string r.aC, .int .i64 r.aD, aP, aQ, aR, .bool r.aF, .int .i64 r.ticks, .int .i64 r.aG, .int .i64 r.made] ∧ Zbo Zbp 1 9 (fun y => F y ∧ tag y = 0) w r.names aL ∧ Zbo Za0 3 136 (fun y => F y ∧ tag y = 1) w r.aB aM ∧ Zbo Zbx 5 94 (fun y => F y ∧ tag y = 2) w r.aA aN ∧ Zbo Ze 6 34 (fun y => F y ∧ tag y = 3) w r.globals aO ∧ r.aC.size ≤ maxLen ∧ Zac r.aD ∧ Zbo Zbp 1 9 (fun y => F y ∧ tag y = 4) w r.output aP ∧ Zbo Zbp 1 9 (fun y => F y ∧ tag y = 5) w r.trace aQ ∧ Zbo Zbf 2 89 (fun y => F y ∧ tag y = 6) w r.aE aR ∧ Zac r.ticks ∧ Zac r.aG ∧ Zac r.made
theorem Zv : Zhd Zcz Zb6 13 where
 is := {
  len := fun ⟨_, _, _, _, _, _, _, _, e, _⟩ => by rw [e]; rfl
  keep := fun ⟨tag, aL, aM, aN, aO, aP, aQ, aR, e, h0, h1, h2, h3, h4, h5, h6, h7, h8, h9, h10, h11⟩ hFG hk => ⟨tag, aL, aM, aN, aO, aP, aQ, aR, e, h0.keep Zg.is (fun y hy => ⟨hFG y hy.1, hy.2⟩) (hk.mono fun y hy => hy.1), h1.keep Zf.is (fun y hy => ⟨hFG y hy.1, hy.2⟩) (hk.mono fun y hy => hy.1), h2.keep Zq.is (fun y hy => ⟨hFG y hy.1, hy.2⟩) (hk.mono fun y hy => hy.1), h3.keep Zn.is (fun y hy => ⟨hFG y hy.1, hy.2⟩) (hk.mono fun y hy => hy.1), h4, h5, h6.keep Zg.is (fun y hy => ⟨hFG y hy.1, hy.2⟩) (hk.mono fun y hy => hy.1), h7.keep Zg.is (fun y hy => ⟨hFG y hy.1, hy.2⟩) (hk.mono fun y hy => hy.1), h8.keep Zah.is (fun y hy => ⟨hFG y hy.1, hy.2⟩) (hk.mono fun y hy => hy.1), h9, h10, h11⟩ }
 el := fun ⟨tag, aL, aM, aN, aO, aP, aQ, aR, e, h0, h1, h2, h3, h4, h5, h6, h7, h8, h9, h10, h11⟩ => ⟨aL, aM, aN, aO, aP, aQ, aR, e, (h0.el Zg).keep Z4 (fun y hy => hy.1) (Zc.refl _ _), (h1.el Zf).keep Zak (fun y hy => hy.1) (Zc.refl _ _), (h2.el Zq).keep Za9 (fun y hy => hy.1) (Zc.refl _ _), (h3.el Zn).keep Zb (fun y hy => hy.1) (Zc.refl _ _), h4, h5, (h6.el Zg).keep Z4 (fun y hy => hy.1) (Zc.refl _ _), (h7.el Zg).keep Z4 (fun y hy => hy.1) (Zc.refl _ _), (h8.el Zah).keep Zba (fun y hy => hy.1) (Zc.refl _ _), h9, h10, h11⟩
 trim := fun ⟨tag, aL, aM, aN, aO, aP, aQ, aR, e, h0, h1, h2, h3, h4, h5, h6, h7, h8, h9, h10, h11⟩ => ⟨tag, aL, aM, aN, aO, aP, aQ, aR, e, (h0.trim Zg).keep Zg.is (fun y hy => ⟨⟨hy.1.1, hy.2⟩, hy.1.2⟩) (Zc.refl _ _), (h1.trim Zf).keep Zf.is (fun y hy => ⟨⟨hy.1.1, hy.2⟩, hy.1.2⟩) (Zc.refl _ _), (h2.trim Zq).keep Zq.is (fun y hy => ⟨⟨hy.1.1, hy.2⟩, hy.1.2⟩) (Zc.refl _ _), (h3.trim Zn).keep Zn.is (fun y hy => ⟨⟨hy.1.1, hy.2⟩, hy.1.2⟩) (Zc.refl _ _), h4, h5, (h6.trim Zg).keep Zg.is (fun y hy => ⟨⟨hy.1.1, hy.2⟩, hy.1.2⟩) (Zc.refl _ _), (h7.trim Zg).keep Zg.is (fun y hy => ⟨⟨hy.1.1, hy.2⟩, hy.1.2⟩) (Zc.refl _ _), (h8.trim Zah).keep Zah.is (fun y hy => ⟨⟨hy.1.1, hy.2⟩, hy.1.2⟩) (Zc.refl _ _), h9, h10, h11⟩
end Go.Proofs.YtpmhelkiicigfaaGreatDoor
namespace Go.Proofs.YtpmhelkiicigfaaGreatDoor
/-- What a value that stands by itself is. -/
def Zw (v : Zj) : Bool :=
 if v.kind = 0 then (v.text.toList == []) && (v.set_.low == 0 && v.set_.high == 0) && (v.aH == 0) && (v.index == 0)
 else if v.kind = 1 then (v.text.toList == []) && (v.set_.low == 0 && v.set_.high == 0) && (v.index == 0) && decide (-999999999999 ≤ v.aH) && decide (v.aH ≤ 999999999999)
 else if v.kind = 2 then (v.set_.low == 0 && v.set_.high == 0) && (v.aH == 0) && (v.index == 0) && decide ((v.text.size : Int) ≤ 120)
 else if v.kind = 3 then (v.text.toList == []) && (v.aH == 0) && (v.index == 0)
 else if v.kind = 13 ∨ v.kind = 15 ∨ v.kind = 16 then (v.text.toList == []) && (v.set_.low == 0 && v.set_.high == 0) && decide (0 ≤ v.aH) && decide (0 ≤ v.index)
 else if v.kind = 14 then (v.text.toList == []) && (v.set_.low == 0 && v.set_.high == 0) && (v.aH == 0) && decide (0 ≤ v.index)
 else if v.kind = 18 then (v.text.toList == []) && (v.set_.low == 0 && v.set_.high == 0) && (v.aH == 0) && (v.index == 1 || v.index == 2)
 else if 4 ≤ v.kind ∧ v.kind ≤ 20 then (v.text.toList == []) && (v.set_.low == 0 && v.set_.high == 0) && (v.index == 0) && decide (0 ≤ v.aH)
 else false
theorem Z0 {t : ByteArray} (h : t.toList = []) : t.size = 0 := by
 rw [ByteArray.toList_eq] at h;show t.data.size = 0;rw [← Array.length_toList, h]; rfl
end Go.Proofs.YtpmhelkiicigfaaGreatDoor
namespace Go.Proofs.YtpmhelkiicigfaaGreatDoor
open Go.RowKit
/-- The Store r lies in the block B. -/
structure Zai (F : Nat → Prop) (w : World) (B : Nat) (r : Zh) (cs : List Value) : Prop where
 blk : w.heap[B]? = some (.cells cs.toArray 30 (0, 0))
 el : Zb6 F w r cs
theorem Zai.later {F : Nat → Prop} {w x : World} {B : Nat} {r : Zh} {cs : List Value} (h : Zai F w B r cs) (hl : Za w x) : Zai F x B r cs :=
 ⟨(hl.block B (Zd h.blk)).trans h.blk, Z7.keep h.el (fun _ h => h) (Zc.later hl)⟩
theorem Zai.lt {F : Nat → Prop} {w : World} {B : Nat} {r : Zh} {cs : List Value} (h : Zai F w B r cs) : B < w.heap.size := Zd h.blk
theorem Zai.names {F : Nat → Prop} {w : World} {B : Nat} {r : Zh} {cs : List Value} (h : Zai F w B r cs) : ∃ A c, w.cell? ⟨B, 0, none⟩ = some (.slice A r.names.length c) ∧ r.names.length ≤ c ∧ c ≤ maxLen ∧ Zu Zbp 1 F w r.names (.slice A r.names.length c) := by
 obtain ⟨aL, aM, aN, aO, aP, aQ, aR, rfl, aV, aW, aX, aY, aZ, bA, bB, bC, bD, bE, bF, bG⟩ := h.el;obtain ⟨A, c, rfl, h1, h2, h3⟩ := id aV;refine ⟨A, c, ?_, h1, h2, aV⟩;rw [cell_of_row _ B 0 _ _ _ h.blk]
 rfl
theorem Zai.aB {F : Nat → Prop} {w : World} {B : Nat} {r : Zh} {cs : List Value} (h : Zai F w B r cs) : ∃ A c, w.cell? ⟨B, 1, none⟩ = some (.slice A r.aB.length c) ∧ r.aB.length ≤ c ∧ c ≤ maxLen ∧ Zu Zaz 3 F w r.aB (.slice A r.aB.length c) := by
 obtain ⟨aL, aM, aN, aO, aP, aQ, aR, rfl, aV, aW, aX, aY, aZ, bA, bB, bC, bD, bE, bF, bG⟩ := h.el;obtain ⟨A, c, rfl, h1, h2, h3⟩ := id aW;refine ⟨A, c, ?_, h1, h2, aW⟩;rw [cell_of_row _ B 1 _ _ _ h.blk]
 rfl
theorem Zai.aA {F : Nat → Prop} {w : World} {B : Nat} {r : Zh} {cs : List Value} (h : Zai F w B r cs) : ∃ A c, w.cell? ⟨B, 2, none⟩ = some (.slice A r.aA.length c) ∧ r.aA.length ≤ c ∧ c ≤ maxLen ∧ Zu Zbq 5 F w r.aA (.slice A r.aA.length c) := by
 obtain ⟨aL, aM, aN, aO, aP, aQ, aR, rfl, aV, aW, aX, aY, aZ, bA, bB, bC, bD, bE, bF, bG⟩ := h.el;obtain ⟨A, c, rfl, h1, h2, h3⟩ := id aX;refine ⟨A, c, ?_, h1, h2, aX⟩;rw [cell_of_row _ B 2 _ _ _ h.blk]
 rfl
theorem Zai.globals {F : Nat → Prop} {w : World} {B : Nat} {r : Zh} {cs : List Value} (h : Zai F w B r cs) : ∃ A c, w.cell? ⟨B, 3, none⟩ = some (.slice A r.globals.length c) ∧ r.globals.length ≤ c ∧ c ≤ maxLen ∧ Zu Ze 6 F w r.globals (.slice A r.globals.length c) := by
 obtain ⟨aL, aM, aN, aO, aP, aQ, aR, rfl, aV, aW, aX, aY, aZ, bA, bB, bC, bD, bE, bF, bG⟩ := h.el;obtain ⟨A, c, rfl, h1, h2, h3⟩ := id aY;refine ⟨A, c, ?_, h1, h2, aY⟩;rw [cell_of_row _ B 3 _ _ _ h.blk]
 rfl
theorem Zai.output {F : Nat → Prop} {w : World} {B : Nat} {r : Zh} {cs : List Value} (h : Zai F w B r cs) : ∃ A c, w.cell? ⟨B, 6, none⟩ = some (.slice A r.output.length c) ∧ r.output.length ≤ c ∧ c ≤ maxLen ∧ Zu Zbp 1 F w r.output (.slice A r.output.length c) := by
 obtain ⟨aL, aM, aN, aO, aP, aQ, aR, rfl, aV, aW, aX, aY, aZ, bA, bB, bC, bD, bE, bF, bG⟩ := h.el;obtain ⟨A, c, rfl, h1, h2, h3⟩ := id bB;refine ⟨A, c, ?_, h1, h2, bB⟩;rw [cell_of_row _ B 6 _ _ _ h.blk]
 rfl
theorem Zai.trace {F : Nat → Prop} {w : World} {B : Nat} {r : Zh} {cs : List Value} (h : Zai F w B r cs) : ∃ A c, w.cell? ⟨B, 7, none⟩ = some (.slice A r.trace.length c) ∧ r.trace.length ≤ c ∧ c ≤ maxLen ∧ Zu Zbp 1 F w r.trace (.slice A r.trace.length c) := by
 obtain ⟨aL, aM, aN, aO, aP, aQ, aR, rfl, aV, aW, aX, aY, aZ, bA, bB, bC, bD, bE, bF, bG⟩ := h.el;obtain ⟨A, c, rfl, h1, h2, h3⟩ := id bC;refine ⟨A, c, ?_, h1, h2, bC⟩;rw [cell_of_row _ B 7 _ _ _ h.blk]
 rfl
theorem Zai.aE {F : Nat → Prop} {w : World} {B : Nat} {r : Zh} {cs : List Value} (h : Zai F w B r cs) : ∃ A c, w.cell? ⟨B, 8, none⟩ = some (.slice A r.aE.length c) ∧ r.aE.length ≤ c ∧ c ≤ maxLen ∧ Zu Zbf 2 F w r.aE (.slice A r.aE.length c) := by
 obtain ⟨aL, aM, aN, aO, aP, aQ, aR, rfl, aV, aW, aX, aY, aZ, bA, bB, bC, bD, bE, bF, bG⟩ := h.el;obtain ⟨A, c, rfl, h1, h2, h3⟩ := id bD;refine ⟨A, c, ?_, h1, h2, bD⟩;rw [cell_of_row _ B 8 _ _ _ h.blk]
 rfl
theorem Zai.obj {F : Nat → Prop} {w : World} {r : Zh} {A : Option Addr} {c : Nat} (h : Zu Zbq 5 F w r.aA (.slice A r.aA.length c)) {i : Nat} (hi : i < r.aA.length) :
  ∃ b o Ai ci Ak ck, A = some ⟨b, o, none⟩ ∧ b < w.heap.size ∧ w.cell? ⟨b, o + i * 5, none⟩ = some (.int .i64 r.aA[i].kind) ∧ w.cell? ⟨b, o + i * 5 + 1, none⟩ = some (.int .i64 r.aA[i].tag) ∧ w.cell? ⟨b, o + i * 5 + 2, none⟩ = some (.int .i64 r.aA[i].aI) ∧
   w.cell? ⟨b, o + i * 5 + 3, none⟩ = some (.slice Ai r.aA[i].aJ.length ci) ∧ w.cell? ⟨b, o + i * 5 + 4, none⟩ = some (.slice Ak r.aA[i].aK.length ck) ∧
   Zu Ze 6 F w r.aA[i].aJ (.slice Ai r.aA[i].aJ.length ci) ∧ Zu Ze 6 F w r.aA[i].aK (.slice Ak r.aA[i].aK.length ck) ∧ Zac r.aA[i].kind ∧ Zac r.aA[i].tag ∧ Zac r.aA[i].aI := by
 obtain ⟨A', c', e, _, _, hel⟩ := h;cases e;obtain ⟨b, o, cs, rfl, _, hb, hE, hc⟩ := hel i hi;obtain ⟨vi, vk, rfl, h0, h1, h2, h3, h4⟩ := hE;obtain ⟨Ai, ci, rfl, _⟩ := id h3;obtain ⟨Ak, ck, rfl, _⟩ := id h4;exact ⟨b, o, Ai, ci, Ak, ck, rfl, hb, hc 0 _ rfl, hc 1 _ rfl, hc 2 _ rfl, hc 3 _ rfl, hc 4 _ rfl, h3, h4, h0, h1, h2⟩
theorem Z9 {a b : Bool} (h : a = b) : Ending.returned (.bool a) = .returned (.bool b) := by rw [h]
/-! ### What it is to be in a Store -/
def Zb9 (r : Zh) (n k : Int) : Bool := decide (0 ≤ n) && (match r.aA[n.toNat]? with | some o => o.kind == k | none => false)
theorem Zjx {r : Zh} {n k : Int} (h : ¬ 0 ≤ n) : Zb9 r n k = false := by unfold Zb9; rw [decide_eq_false h]; rfl
theorem Zeb {r : Zh} {n k : Int} (h : ¬ n < r.aA.length) : Zb9 r n k = false := by
 unfold Zb9
 by_cases h0 : 0 ≤ n
 ·rw [List.getElem?_eq_none (by omega)]; simp
 ·rw [decide_eq_false h0]; rfl
theorem Ziq {r : Zh} {i : Nat} {k : Int} (h : i < r.aA.length) : Zb9 r (i : Int) k = (r.aA[i].kind == k) := by
 unfold Zb9;rw [Int.toNat_natCast, List.getElem?_eq_getElem h];simp
/-- The aH of aJ of an object. -/
def Zfj (r : Zh) (n : Int) : Nat := match r.aA[n.toNat]? with | some o => o.aJ.length | none => 0
theorem Zck {r : Zh} {i : Nat} (h : i < r.aA.length) : Zfj r (i : Int) = r.aA[i].aJ.length := by
 unfold Zfj;rw [Int.toNat_natCast, List.getElem?_eq_getElem h]
def Zcf (k : Int) : Int :=
 if k = 4 ∨ k = 15 then 2 else if k = 5 then 3 else if k = 6 then 4 else if k = 7 ∨ k = 16 then 5 else if k = 11 then 6 else if k = 12 then 7 else if k = 13 ∨ k = 19 then 1 else if k = 17 then 8 else if k = 20 then 9 else 0
def Zcb (r : Zh) (v : Zj) : Bool :=
 if Zcf v.kind ≠ 0 then Zb9 r v.aH (Zcf v.kind) && (if v.kind = 13 ∨ v.kind = 16 then decide (v.index < (Zfj r v.aH : Int)) else true)
 else if v.kind = 8 then decide (v.aH < (r.names.length : Int)) else if v.kind = 9 then decide (v.aH ≤ 54) else if v.kind = 10 then decide (v.aH < (r.aB.length : Int))
 else if v.kind = 14 then decide (v.index < (r.globals.length : Int)) else true
def Zz (r : Zh) (v : Zj) : Bool := Zw v && Zcb r v
def Zb5 (r : Zh) (v : Zj) : Bool := decide (v.kind ≤ 12) && Zz r v
theorem Zk2 {v : Zj} (h : Zw v = true) : 0 ≤ v.kind ∧ v.kind ≤ 20 := by
 unfold Zw at h
 (repeat' split at h) <;> first | omega | cases h
theorem Zfk {v : Zj} (h : Zw v = true) (hk : Zcf v.kind ≠ 0 ∨ v.kind = 8 ∨ v.kind = 9 ∨ v.kind = 10) : 0 ≤ v.aH := by
 unfold Zcf at hk;unfold Zw at h
 (repeat' split at h) <;> first | (simp at h; omega) | cases h | skip
theorem Zjy {v : Zj} (h : Zw v = true) : 0 ≤ v.index := by
 unfold Zw at h
 (repeat' split at h) <;> first | (simp at h; omega) | cases h
end Go.Proofs.YtpmhelkiicigfaaGreatDoor
namespace Go.Proofs.YtpmhelkiicigfaaGreatDoor
open Go
/-- The decimal digits of u, none for 0. -/
def dg (u : Nat) : List UInt8 := if u = 0 then [] else Lib.decDigits u
theorem Zo9 (u : Nat) (h : u ≠ 0) : dg u = dg (u / 10) ++ [UInt8.ofNat (48 + u % 10)] := by
 unfold dg;rw [if_neg h, Lib.decDigits]
 by_cases h10 : u < 10
 ·rw [dif_pos h10, if_pos (by omega)];simp [Nat.mod_eq_of_lt h10]
 ·rw [dif_neg h10, if_neg (by omega)]
/-- The digit's byte as spec's FormatInt makes it. -/
theorem Zjz (n : Int) (h : n ≠ 0) : Lib.itoa n = if n < 0 then 45 :: dg n.natAbs else dg n.natAbs := by
 unfold Lib.itoa dg;have h0 : n.natAbs ≠ 0 := by omega
 rw [if_neg h0]
 by_cases hn : n < 0
 ·rw [if_pos hn, if_pos hn]
 ·rw [if_neg hn, if_neg hn];have : n.toNat = n.natAbs := by omega
  rw [this]
theorem Zk3 : Lib.itoa 0 = [48] := by
 unfold Lib.itoa;rw [if_neg (by omega), Lib.decDigits, dif_pos (by decide)]
 rfl
theorem Zlg (k : Nat) : ∀ u, u < 10 ^ k → (dg u).length ≤ k := by
 induction k with
 | zero => intro u hu; have : u = 0 := by omega
           subst this; simp [dg]
 | succ k ih =>
  intro u hu
  by_cases h0 : u = 0
  ·subst h0; simp [dg]
  ·rw [Zo9 u h0];have : u / 10 < 10 ^ k := by rw [Nat.pow_succ] at hu; omega
   have := ih _ this;simp; omega
theorem Zqq (n : Int) (h0 : -9223372036854775808 ≤ n) (h1 : n ≤ 9223372036854775807) : (dg n.natAbs).length ≤ 20 :=
 Zlg 20 _ (by omega)
theorem Zqr (n : Int) (h0 : -9223372036854775808 ≤ n) (h1 : n ≤ 9223372036854775807) : (Lib.itoa n).length ≤ 21 := by
 by_cases h : n = 0
 ·subst h; rw [Zk3]; decide
 ·rw [Zjz n h];have := Zqq n h0 h1
  split <;> simp <;> omega
/-- One round of the loop that reckons a numeral. -/
theorem Zqs (N : Nat) (m : Int) (s : List UInt8) (hm : m ≠ 0) (h : dg N = dg m.natAbs ++ s) :
  dg N = dg (m.tdiv 10).natAbs ++ (UInt8.ofNat (48 + m.natAbs % 10) :: s) := by
 rw [h, Zo9 m.natAbs (by omega)];have : (m.tdiv 10).natAbs = m.natAbs / 10 := by rw [Int.natAbs_tdiv]; rfl
 rw [this];simp
/-- A hexadecimal digit's byte. -/
def Zt0 (x : Int) : Int := if x < 10 then 48 + x else 87 + x
/-- What one byte c becomes inside quotes q. -/
def qb (q c : Int) : List Int :=
 if c = q ∨ c = 92 then [92, c]
 else if c = 10 then [92, 110]
 else if c = 9 then [92, 116]
 else if c < 32 ∨ 126 < c then [92, 120, Zt0 (c / 16), Zt0 (c % 16)]
 else [c]
/-- The bytes of a text as integers. -/
def Zkn (l : List UInt8) : List Int := l.map fun b => (b.toNat : Int)
theorem Zl9 (a b : List UInt8) : Zkn (a ++ b) = Zkn a ++ Zkn b := by simp [Zkn]
/-- The opening quote and the first bytes Zn4. -/
def Zt9 (q : Int) (l : List Int) : List Int := q :: l.flatMap (qb q)
/-- The text in quotes. -/
def Zn4 (q : Int) (l : List Int) : List Int := Zt9 q l ++ [q]
/-- The string that a list of byte values makes. -/
def Zhh (ns : List Int) : ByteArray := ⟨(ns.map fun n => UInt8.ofNat n.toNat).toArray⟩
theorem Zn5 (ns : List Int) (r : ByteArray) : ns.foldl (fun r n => r.push (UInt8.ofNat n.toNat)) r = ⟨r.data ++ (ns.map fun n => UInt8.ofNat n.toNat).toArray⟩ := by
 induction ns generalizing r with
 | nil => simp
 | cons a l ih =>
  simp only [List.foldl_cons, ih]
  congr 1
  simp [ByteArray.push]
theorem Zma (ns : List Int) : ns.foldl (fun r n => r.push (UInt8.ofNat n.toNat)) ByteArray.empty = Zhh ns := by
 rw [Zn5];show (⟨#[] ++ _⟩ : ByteArray) = _;unfold Zhh; congr 1; simp
end Go.Proofs.YtpmhelkiicigfaaGreatDoor
namespace Go.Proofs.YtpmhelkiicigfaaGreatDoor
open Go
end Go.Proofs.YtpmhelkiicigfaaGreatDoor
namespace Go.Proofs.YtpmhelkiicigfaaGreatDoor
open Go
/-- A hexadecimal digit's value, or -1. -/
def Zmb (c : UInt8) : Int := if 48 ≤ c.toNat ∧ c.toNat ≤ 57 then (c.toNat : Int) - 48 else if 97 ≤ c.toNat ∧ c.toNat ≤ 102 then (c.toNat : Int) - 97 + 10 else -1
def Zua (a b : UInt8) : UInt8 := UInt8.ofNat ((Zmb a).toNat * 16 + (Zmb b).toNat)
/-- The text between the quotes, read. strict: bytes that do not print are refused. -/
def unq (strict : Bool) (q : UInt8) : Nat → List UInt8 → Option (List UInt8)
 | 0, _ => none
 | _ + 1, [] => some []
 | n + 1, b :: r =>
  if b ≠ 92 then (if strict && (decide (b.toNat < 32) || decide (126 < b.toNat) || b == q) then none else (unq strict q n r).map (b :: ·))
  else match r with
   | [] => none
   | e :: r' =>
    if e = 110 then (unq strict q n r').map (10 :: ·)
    else if e = 116 then (unq strict q n r').map (9 :: ·)
    else if e = 92 ∨ e = 34 ∨ e = 39 then (unq strict q n r').map (e :: ·)
    else if e = 120 then match r' with
     | h1 :: h2 :: r'' => if 0 ≤ Zmb h1 ∧ 0 ≤ Zmb h2 then (unq strict q n r'').map (Zua h1 h2 :: ·) else none
     | _ => none
    else none
/-- spec's l4End: the first quote that is not escaped is the last byte. -/
def Zir (q : UInt8) : Nat → List UInt8 → Bool
 | 0, _ => false
 | _ + 1, [] => false
 | n + 1, b :: r => if b = q then r.isEmpty else if b.toNat < 32 ∨ 126 < b.toNat then false else if b = 92 then Zir q n (r.drop 1) else Zir q n r
theorem Zg2 {q : UInt8} {n : Nat} {b : UInt8} {r : List UInt8} : Zir q (n + 1) (b :: r) = if b = q then r.isEmpty else if b.toNat < 32 ∨ 126 < b.toNat then false else if b = 92 then Zir q n (r.drop 1) else Zir q n r := rfl
theorem Zj0 {c : UInt8} (h : 0 ≤ Zmb c) : c ≠ 34 ∧ c ≠ 39 ∧ c ≠ 92 ∧ ¬ (c.toNat < 32 ∨ 126 < c.toNat) := by
 have hb : (48 ≤ c.toNat ∧ c.toNat ≤ 57) ∨ (97 ≤ c.toNat ∧ c.toNat ≤ 102) := by
  unfold Zmb at h
  split at h
  ·exact .inl ‹_›
  ·split at h
   ·exact .inr ‹_›
   ·omega
 refine ⟨?_, ?_, ?_, by omega⟩ <;> (rintro rfl; simp at hb)
/-- Both ways of reading agree. -/
theorem Zj1 (q : UInt8) (hq : q = 34 ∨ q = 39) (z : UInt8) : ∀ (k : Nat) (m : List UInt8) (n n' : Nat), m.length < k → m.length < n → m.length + 1 < n' → (Zir q n' (m ++ [z]) = true → z = q ∧ unq false q n m = unq true q n m) ∧ (Zir q n' (m ++ [z]) = false → z = q → unq true q n m = none)
 | 0, m, _, _, h, _, _ => by omega
 | k + 1, m, 0, _, _, h, _ => by omega
 | k + 1, m, n + 1, 0, _, _, h => by omega
 | k + 1, [], n + 1, n' + 1, _, _, _ => by
  have hq92 : q ≠ 92 := by rcases hq with rfl | rfl <;> decide
  simp only [List.nil_append, Zg2, List.isEmpty_nil]
  by_cases hz : z = q
  ·simp [hz, unq]
  ·simp only [hz, if_false]
   constructor
   ·intro h
    exfalso
    split at h
    ·cases h
    ·split at h <;> cases n' <;> simp [Zir] at h
   ·intro _ h; exact absurd h (by simp)
 | k + 1, b :: m, n + 1, n' + 1, hk, hm, hn' => by
  have hk' : m.length < k := by simpa using hk
  have hm' : m.length < n := by simpa using hm
  have hn2 : m.length + 1 < n' := by simpa using hn'
  have hq92 : q ≠ 92 := by rcases hq with rfl | rfl <;> decide
  rw [List.cons_append, Zg2]
  by_cases hbq : b = q
  ·subst hbq;rw [if_pos rfl];have hb92 : b ≠ 92 := hq92;simp [unq, hb92]
  rw [if_neg hbq]
  by_cases hctl : b.toNat < 32 ∨ 126 < b.toNat
  ·rw [if_pos hctl];have hb92 : b ≠ 92 := by rintro rfl; simp at hctl
   refine ⟨fun h => (by cases h), fun _ _ => ?_⟩;simp only [unq, if_pos hb92];rw [if_pos (by simp; omega)]
  rw [if_neg hctl]
  by_cases hb : b = 92
  ·subst hb;rw [if_pos rfl]
   cases m with
   | nil =>
    refine ⟨fun h => ?_, fun _ _ => by simp [unq]⟩
    exfalso
    cases n' <;> simp [Zir] at h
   | cons e m =>
    rw [List.cons_append, List.drop_succ_cons, List.drop_zero];have ih := Zj1 q hq z k m n n' (by simp at hk'; omega) (by simp at hm'; omega) (by simp at hn2; omega);have cell : ∀ (x : UInt8), (Zir q n' (m ++ [z]) = true → z = q ∧ (unq false q n m).map (x :: ·) = (unq true q n m).map (x :: ·)) ∧ (Zir q n' (m ++ [z]) = false → z = q → (unq true q n m).map (x :: ·) = none) := fun x =>
     ⟨fun h => ⟨(ih.1 h).1, by rw [(ih.1 h).2]⟩, fun h hz => by rw [ih.2 h hz]; rfl⟩
    simp only [unq, show ¬ ((92 : UInt8) ≠ 92) from fun h => h rfl, if_false]
    by_cases h1 : e = 110
    ·simp only [h1, if_true]; exact cell 10
    simp only [h1, if_false]
    by_cases h2 : e = 116
    ·simp only [h2, if_true]; exact cell 9
    simp only [h2, if_false]
    by_cases h3 : e = 92 ∨ e = 34 ∨ e = 39
    ·simp only [h3, if_true]; exact cell e
    simp only [h3, if_false]
    by_cases h4 : e = 120
    ·simp only [h4, if_true]
     match m, hm', hn2, hk', ih with
     | [], _, _, _, ih =>
      refine ⟨fun h => ⟨(ih.1 h).1, rfl⟩, fun _ _ => rfl⟩
     | [x], _, _, _, ih => exact ⟨fun h => ⟨(ih.1 h).1, rfl⟩, fun _ _ => rfl⟩
     | x :: y :: r, hm', hn2, hk', ih =>
      simp only
      by_cases hx : 0 ≤ Zmb x ∧ 0 ≤ Zmb y
      ·simp only [if_pos hx];obtain ⟨n2, rfl⟩ : ∃ n2, n' = n2 + 2 := ⟨n' - 2, by simp at hn2; omega⟩;have px := Zj0 hx.1;have py := Zj0 hx.2;have qx : x ≠ q := by rcases hq with rfl | rfl; exact px.1; exact px.2.1
       have qy : y ≠ q := by rcases hq with rfl | rfl; exact py.1; exact py.2.1
       have e1 : Zir q (n2 + 2) (x :: y :: r ++ [z]) = Zir q n2 (r ++ [z]) := by
        rw [List.cons_append, Zg2, if_neg qx, if_neg px.2.2.2, if_neg px.2.2.1, List.cons_append, Zg2, if_neg qy, if_neg py.2.2.2, if_neg py.2.2.1]
       rw [e1];have ih2 := Zj1 q hq z k r n n2 (by simp at hk'; omega) (by simp at hm'; omega) (by simp at hn2; omega);exact ⟨fun h => ⟨(ih2.1 h).1, by rw [(ih2.1 h).2]⟩, fun h hz => by rw [ih2.2 h hz]; rfl⟩
      ·simp only [if_neg hx];exact ⟨fun h => ⟨(ih.1 h).1, trivial⟩, fun _ _ => trivial⟩
    ·simp only [h4, if_false];exact ⟨fun h => ⟨(ih.1 h).1, trivial⟩, fun _ _ => trivial⟩
  ·rw [if_neg hb];have ih := Zj1 q hq z k m n n' hk' hm' hn2;simp only [unq, if_pos (show b ≠ 92 from hb)];have hc : (true && (decide (b.toNat < 32) || decide (126 < b.toNat) || b == q)) = false := by simp [hbq]; omega
   rw [hc];simp only [Bool.false_and, Bool.false_eq_true, if_false];exact ⟨fun h => ⟨(ih.1 h).1, by rw [(ih.1 h).2]⟩, fun h hz => by rw [ih.2 h hz]; rfl⟩
/-- The fuel does not matter. -/
theorem Zqt (st : Bool) (q : UInt8) : ∀ (k : Nat) (m : List UInt8) (n n' : Nat), m.length < k → m.length < n → m.length < n' → unq st q n m = unq st q n' m
 | 0, m, _, _, h, _, _ => by omega
 | k + 1, m, 0, _, _, h, _ => by omega
 | k + 1, m, n + 1, 0, _, _, h => by omega
 | k + 1, [], n + 1, n' + 1, _, _, _ => rfl
 | k + 1, b :: m, n + 1, n' + 1, hk, hm, hn => by
  have hk' : m.length < k := by simpa using hk
  have hm' : m.length < n := by simpa using hm
  have hn' : m.length < n' := by simpa using hn
  have ih := fun m h1 h2 h3 => Zqt st q k m n n' h1 h2 h3;simp only [unq]
  split
  ·rw [ih m hk' hm' hn']
  ·match m, hk', hm', hn' with
   | [], _, _, _ => rfl
   | e :: m, hk', hm', hn' =>
    have e1 := ih m (by simp at hk'; omega) (by simp at hm'; omega) (by simp at hn'; omega);simp only [e1]
    match m, hk', hm', hn' with
    | [], _, _, _ => rfl
    | [x], _, _, _ => rfl
    | x :: y :: r, hk', hm', hn' =>
     have e2 := ih r (by simp at hk'; omega) (by simp at hm'; omega) (by simp at hn'; omega);simp only [e2]
end Go.Proofs.YtpmhelkiicigfaaGreatDoor
namespace Go.Proofs.YtpmhelkiicigfaaGreatDoor
open Go
/-- The pieces between the spaces. -/
def spl : List UInt8 → List (List UInt8)
 | [] => [[]]
 | c :: r => if c = 32 then [] :: spl r else match spl r with
  | [] => [[c]]
  | p :: ps => (c :: p) :: ps
/-- The pieces with spaces between them. -/
def jn : List (List UInt8) → List UInt8
 | [] => []
 | [p] => p
 | p :: q :: ps => p ++ 32 :: jn (q :: ps)
theorem Zn6 (l : List UInt8) : spl l ≠ [] := by
 cases l with
 | nil => simp [spl]
 | cons c r =>
  simp only [spl]
  split
  ·simp
  ·split <;> simp
theorem Zis (r : List UInt8) : spl (32 :: r) = [] :: spl r := by simp [spl]
theorem Zg3 (c : UInt8) (r : List UInt8) (h : c ≠ 32) : ∃ p ps, spl r = p :: ps ∧ spl (c :: r) = (c :: p) :: ps := by
 cases hr : spl r with
 | nil => exact absurd hr (Zn6 r)
 | cons p ps => exact ⟨p, ps, rfl, by simp [spl, h, hr]⟩
theorem Zsm (p : List UInt8) (ps : List (List UInt8)) (h : ps ≠ []) : jn (p :: ps) = p ++ 32 :: jn ps := by
 cases ps with
 | nil => exact absurd rfl h
 | cons q ps => rfl
theorem Zlh : ∀ (l : List UInt8), jn (spl l) = l
 | [] => rfl
 | c :: r => by
  by_cases h : c = 32
  ·subst h;rw [Zis, Zsm _ _ (Zn6 r), Zlh r]; rfl
  ·obtain ⟨p, ps, h1, h2⟩ := Zg3 c r h;have ih := Zlh r;rw [h1] at ih;rw [h2]
   cases ps with
   | nil => simp only [jn] at ih ⊢; rw [ih]
   | cons q ps => simp only [jn] at ih ⊢; rw [List.cons_append, ih]
/-- A piece without a space, at the text's head. -/
theorem Zqu : ∀ (w r : List UInt8), (∀ c ∈ w, c ≠ 32) → spl (w ++ 32 :: r) = w :: spl r
 | [], r, _ => Zis r
 | c :: w, r, h => by
  have ih := Zqu w r (fun d hd => h d (List.mem_cons_of_mem _ hd));obtain ⟨p, ps, h1, h2⟩ := Zg3 c (w ++ 32 :: r) (h c List.mem_cons_self);rw [ih] at h1
  cases h1
  rw [List.cons_append, h2]
theorem Zqv : ∀ (w : List UInt8), (∀ c ∈ w, c ≠ 32) → spl w = [w]
 | [], _ => rfl
 | c :: w, h => by
  have ih := Zqv w (fun d hd => h d (List.mem_cons_of_mem _ hd));obtain ⟨p, ps, h1, h2⟩ := Zg3 c w (h c List.mem_cons_self);rw [ih] at h1
  cases h1
  rw [h2]
theorem Zgn : ∀ (l : List UInt8), (Lib.index l [32] = -1 → spl l = [l]) ∧ (∀ i : Nat, Lib.index l [32] = i → i < l.length ∧ spl l = l.take i :: spl (l.drop (i + 1)))
 | [] => by
  refine ⟨fun _ => rfl, fun i h => ?_⟩;simp [Lib.index] at h
 | c :: r => by
  have ih := Zgn r
  by_cases h : c = 32
  ·subst h;have h0 : Lib.index (32 :: r) [32] = 0 := by simp [Lib.index, List.isPrefixOf]
   rw [h0];refine ⟨fun e => by omega, fun i e => ?_⟩;obtain rfl : i = 0 := by omega
   exact ⟨by simp, by simp [Zis]⟩
  ·have hp : List.isPrefixOf [32] (c :: r) = false := by simp [List.isPrefixOf, Ne.symm h]
   obtain ⟨p, ps, h1, h2⟩ := Zg3 c r h;simp only [Lib.index, hp, Bool.false_eq_true, if_false]
   by_cases hm : Lib.index r [32] = -1
   ·rw [if_pos (by simp [hm])];refine ⟨fun _ => ?_, fun i e => by omega⟩;have := ih.1 hm;rw [this] at h1
    cases h1
    exact h2
   ·rw [if_neg (by simpa using hm)];have hge := Lib.index_ge r [32];refine ⟨fun e => by omega, fun i e => ?_⟩;obtain ⟨j, rfl⟩ : ∃ j, i = j + 1 := ⟨i - 1, by omega⟩;obtain ⟨h3, h4⟩ := ih.2 j (by omega);rw [h4] at h1
    cases h1
    exact ⟨by simpa using h3, by rw [h2]; simp⟩
/-- strings.SplitN's pieces. -/
theorem Zn7 : ∀ (k : Nat) (l : List UInt8), Lib.splitK [32] 0 k l = if (spl l).length ≤ k + 1 then spl l else (spl l).take k ++ [jn ((spl l).drop k)]
 | 0, l => by
  simp only [Lib.splitK]
  split
  ·rename_i h;have hj := Zlh l
   cases hs : spl l with
   | nil => exact absurd hs (Zn6 l)
   | cons p ps =>
    rw [hs] at h hj
    cases ps with
    | nil => simp only [jn] at hj; rw [hj]
    | cons => simp at h
  ·simp [Zlh]
 | k + 1, l => by
  simp only [Lib.splitK]
  by_cases hm : Lib.index l [32] = -1
  ·rw [if_pos (by simp [hm]), (Zgn l).1 hm, if_pos (by simp)]
  ·rw [if_neg (by simpa using hm)];have hge := Lib.index_ge l [32];obtain ⟨i, hi⟩ : ∃ i : Nat, Lib.index l [32] = i := ⟨(Lib.index l [32]).toNat, by omega⟩;obtain ⟨h1, h2⟩ := (Zgn l).2 i hi;rw [hi, Int.toNat_natCast, h2];have ih := Zn7 k (l.drop (i + 1));simp only [List.length_singleton, Nat.add_zero];rw [ih]
   by_cases hl : (spl (l.drop (i + 1))).length ≤ k + 1
   ·rw [if_pos hl, if_pos (by simpa using hl)]
   ·rw [if_neg hl, if_neg (by simpa using hl)];simp
end Go.Proofs.YtpmhelkiicigfaaGreatDoor
namespace Go.Proofs.YtpmhelkiicigfaaGreatDoor
open Go
/-! ### Numbers -/
/-! ### Quoted texts -/
theorem Zsn (st : Bool) (q : UInt8) : ∀ (n : Nat) (m l : List UInt8), unq st q n m = some l → l.length ≤ m.length
 | 0, m, l, h => by simp [unq] at h
 | n + 1, [], l, h => by simp [unq] at h; subst h; simp
 | n + 1, b :: r, l, h => by
  have ih := fun m l => Zsn st q n m l;have one : ∀ (x : UInt8) (m : List UInt8), (unq st q n m).map (x :: ·) = some l → l.length ≤ m.length + 1 := fun x m h => by
   cases hm : unq st q n m with
   | none => rw [hm] at h; cases h
   | some l' => rw [hm] at h; cases h; have := ih m l' hm; simp; omega
  simp only [unq] at h
  split at h
  ·split at h
   ·cases h
   ·have := one _ _ h; simpa using this
  ·match r, h with
   | [], h => cases h
   | e :: r', h =>
    simp only at h
    split at h
    ·have := one _ _ h; simp; omega
    split at h
    ·have := one _ _ h; simp; omega
    split at h
    ·have := one _ _ h; simp; omega
    split at h
    ·match r', h with
     | [], h => cases h
     | [x], h => cases h
     | x :: y :: r'', h =>
      simp only at h
      split at h
      ·have := one _ _ h; simp; omega
      ·cases h
    ·cases h
/-! ### Names -/
/-! ### Cutting -/
end Go.Proofs.YtpmhelkiicigfaaGreatDoor
namespace Go.Proofs.YtpmhelkiicigfaaGreatDoor
open Go.RowKit
/-- The texts' bytes. -/
def bl (s : ByteArray) : List UInt8 := s.data.toList
theorem Zn8 {a b : ByteArray} (h : bl a = bl b) : a = b := by
 cases a; cases b
 simp only [bl, ByteArray.mk.injEq] at h ⊢;exact Array.ext' h
theorem Zhx {a b : ByteArray} (h : a.toList = b.toList) : a = b := by
 have e : ∀ x : ByteArray, x.toList = x.data.toList := fun x => ByteArray.toList_eq x;rw [e, e] at h;exact Zn8 h
theorem Zj2 : ∀ (L : List (List UInt8)) (x : List UInt8) (j : Nat) (h : j < L.length), L[j] = x → L.idxOf x ≤ j
 | a :: L, x, j, h, e => by
  rw [List.idxOf_cons]
  cases hx : a == x with
  | true => simp
  | false =>
   cases j with
   | zero => simp at e; simp [e] at hx
   | succ j =>
    have := Zj2 L x j (by simpa using h) (by simpa using e);simp; omega
def Zec (l : List ByteArray) (s : ByteArray) : Bool := decide (bl s ∈ l.map bl)
def Zfw (l : List ByteArray) (s : ByteArray) : Int := if bl s ∈ l.map bl then ((l.map bl).idxOf (bl s) : Int) else -1
theorem Zhy {l : List ByteArray} {s : ByteArray} : Zec l s = true ↔ s ∈ l := by
 unfold Zec;rw [nJ, List.mem_map];exact ⟨fun ⟨a, h1, h2⟩ => Zn8 h2 ▸ h1, fun h => ⟨s, h, rfl⟩⟩
theorem Zso {l : List ByteArray} {s : ByteArray} {j : Nat} (h : j < l.length) (he : l[j] = s) : Zec l s = true := Zhy.2 (he ▸ List.getElem_mem h)
theorem Zpa {l : List ByteArray} {s : ByteArray} (h : ∀ k (hk : k < l.length), l[k] ≠ s) : Zec l s = false := by
 rw [← Bool.not_eq_true, Zhy];intro hm;obtain ⟨k, hk, e⟩ := List.getElem_of_mem hm;exact h k hk e
theorem Zj3 {l : List ByteArray} {s : ByteArray} {j : Nat} (h : j < l.length) (he : l[j] = s) (hn : ∀ k (hk : k < l.length), k < j → l[k] ≠ s) : Zfw l s = j := by
 have hm : bl s ∈ l.map bl := List.mem_map.2 ⟨s, he ▸ List.getElem_mem h, rfl⟩;rw [Zfw, if_pos hm]
 congr 1
 have hi := List.idxOf_lt_length_iff.2 hm;have hg := List.getElem_idxOf hi;rw [List.getElem_map] at hg;have e2 := Zn8 hg;rw [List.length_map] at hi
 rcases Nat.lt_trichotomy ((l.map bl).idxOf (bl s)) j with h1 | h1 | h1
 ·exact absurd e2 (hn _ hi h1)
 ·exact h1
 ·have := Zj2 (l.map bl) (bl s) j (by simpa using h) (by simp [he])
  omega
theorem Zmc {l : List ByteArray} {s : ByteArray} (h : ∀ k (hk : k < l.length), l[k] ≠ s) : Zfw l s = -1 := by
 have := Zpa h;rw [Zfw, if_neg]
 simpa [Zec] using this
theorem Zqw (l : List ByteArray) (s : ByteArray) : decide (0 ≤ Zfw l s) = Zec l s := by
 unfold Zfw Zec
 split
 ·rename_i h; simp [h]
 ·rename_i h; simp [h]
theorem Zqx {l : List ByteArray} {j : Nat} (h : j < l.length) : decide (Zfw l l[j] < j) = Zec (l.take j) l[j] := by
 by_cases hm : l[j] ∈ l.take j
 ·rw [Zhy.2 hm];have h1 : bl l[j] ∈ l.map bl := List.mem_map.2 ⟨_, List.getElem_mem h, rfl⟩;rw [Zfw, if_pos h1, nJ];obtain ⟨k, hk, e⟩ := List.getElem_of_mem hm;rw [List.length_take] at hk;rw [List.getElem_take] at e
  rcases Nat.lt_or_ge ((l.map bl).idxOf (bl l[j])) j with h2 | h2
  ·omega
  ·have := Zj2 (l.map bl) (bl l[j]) k (by simp; omega) (by simp [e])
   omega
 ·have h0 : Zec (l.take j) l[j] = false := by rw [← Bool.not_eq_true, Zhy]; exact hm
  rw [h0, Zj3 h rfl (fun k hk h1 e => hm (by rw [← e, List.mem_take_iff_getElem]; exact ⟨k, by omega, rfl⟩))];simp
theorem Zn9 (l : List ByteArray) (v : Value) (s : ByteArray) (F : Nat → Prop) (w : World) (hr : Zu Zbp 1 F w l v) :
  Calls Tryz.prog 148 #[v, .string s] w fun e w' => e = .returned (.int .i64 (Zfw l s)) ∧ w' = w := by
 obtain ⟨A, c, rfl, hc, hcm, hel⟩ := hr;unfold maxLen at hcm;have HEL := zh hel;clear hel;obtain ⟨R, hR⟩ : ∃ R, Zfw l s = R := ⟨_, rfl⟩;rw [hR];have HR := zh hR;clear hR;go_enter Tryz.func148, Tryz.ntmps148;go_wp2_with fail
 go_loopw [5] (fun i wr => ∃ j : Nat, i = .int .i64 j ∧ j ≤ l.length ∧ Hd (∀ k (h : k < l.length), k < j → l[k] ≠ s) ∧ wr = w) (fun i _ => l.length - (intOf i).toNat)
 case atStart => exact ⟨0, rfl, Nat.zero_le _, zh (fun k _ h => by omega), rfl⟩
 case round =>
  obtain ⟨j, rfl, hj, HD, hw⟩ := hrel;obtain rfl : w = wr := hw.symm
  by_cases hlt : j < l.length
  ·obtain ⟨b, o, cs, rfl, hF, hbl, hE, hcell⟩ := HEL.o j hlt;obtain ⟨rfl, hsm⟩ := hE;have t1 : decide ((j : Int) < l.length) = true := decide_eq_true (by omega);have e0 := hcell 0 _ rfl;simp only [Nat.mul_one, Nat.add_zero] at e0
   by_cases he : l[j] = s
   ·have hR0 : R = (j : Int) := by rw [← HR.o, Zj3 hlt he HD.o]
    rw [he] at e0;subst hR0;have v2 : (s.toList == s.toList) = true := by simp
    clear hcell hsm he;go_wp2_with fail;go_ret;exact ⟨rfl, rfl⟩
   ·obtain ⟨y, hy⟩ : ∃ y, l[j] = y := ⟨_, rfl⟩;rw [hy] at e0;have v1 : (y.toList == s.toList) = false := by rw [nH]; exact fun h => he (hy.trans (Zhx h))
    have HD2 : Hd (∀ k (h : k < l.length), k < j + 1 → l[k] ≠ s) := zh (fun k hk h => by
     rcases Nat.lt_or_ge k j with h1 | h1
     ·exact HD.o k hk h1
     ·obtain rfl : k = j := by omega
      exact he)
    clear hcell hsm he hy;go_wp2_with fail
    go_roundw
    case rel => exact ⟨j + 1, by go_num, by omega, HD2, trivial⟩
    case measure => simp [intOf]; omega
  ·have t1 : decide ((j : Int) < l.length) = false := decide_eq_false (by omega);have hR0 : R = -1 := by rw [← HR.o, Zmc (fun k hk => HD.o k hk (by omega))]
   subst hR0;go_wp2_with fail;go_ret;exact ⟨rfl, rfl⟩
theorem Zpm (l : List ByteArray) (v : Value) (s : ByteArray) (F : Nat → Prop) (w : World) (hr : Zu Zbp 1 F w l v) :
  Calls Tryz.prog 172 #[v, .string s] w fun e w' => e = .returned (.int .i64 (Zfw l s)) ∧ w' = w := by
 obtain ⟨A, c, rfl, hc, hcm, hel⟩ := hr;unfold maxLen at hcm;have HEL := zh hel;clear hel;obtain ⟨R, hR⟩ : ∃ R, Zfw l s = R := ⟨_, rfl⟩;rw [hR];have HR := zh hR;clear hR;go_enter Tryz.func172, Tryz.ntmps172;go_wp2_with fail
 go_loopw [8] (fun i wr => ∃ j : Nat, i = .int .i64 j ∧ j ≤ l.length ∧ Hd (∀ k (h : k < l.length), k < j → l[k] ≠ s) ∧ wr = w) (fun i _ => l.length - (intOf i).toNat)
 case atStart => exact ⟨0, rfl, Nat.zero_le _, zh (fun k _ h => by omega), rfl⟩
 case round =>
  obtain ⟨j, rfl, hj, HD, hw⟩ := hrel;obtain rfl : w = wr := hw.symm
  by_cases hlt : j < l.length
  ·obtain ⟨b, o, cs, rfl, hF, hbl, hE, hcell⟩ := HEL.o j hlt;obtain ⟨rfl, hsm⟩ := hE;have t1 : decide ((j : Int) < l.length) = true := decide_eq_true (by omega);have e0 := hcell 0 _ rfl;simp only [Nat.mul_one, Nat.add_zero] at e0
   by_cases he : l[j] = s
   ·have hR0 : R = (j : Int) := by rw [← HR.o, Zj3 hlt he HD.o]
    rw [he] at e0;subst hR0;have v2 : (s.toList == s.toList) = true := by simp
    clear hcell hsm he;go_wp2_with fail;go_ret;exact ⟨rfl, rfl⟩
   ·obtain ⟨y, hy⟩ : ∃ y, l[j] = y := ⟨_, rfl⟩;rw [hy] at e0;have v1 : (s.toList == y.toList) = false := by rw [nH]; exact fun h => he (hy.trans (Zhx h.symm))
    have HD2 : Hd (∀ k (h : k < l.length), k < j + 1 → l[k] ≠ s) := zh (fun k hk h => by
     rcases Nat.lt_or_ge k j with h1 | h1
     ·exact HD.o k hk h1
     ·obtain rfl : k = j := by omega
      exact he)
    clear hcell hsm he hy;go_wp2_with fail
    go_roundw
    case rel => exact ⟨j + 1, by go_num, by omega, HD2, trivial⟩
    case measure => simp [intOf]; omega
  ·have t1 : decide ((j : Int) < l.length) = false := decide_eq_false (by omega);have hR0 : R = -1 := by rw [← HR.o, Zmc (fun k hk => HD.o k hk (by omega))]
   subst hR0;go_wp2_with fail;go_ret;exact ⟨rfl, rfl⟩
theorem Zpn (l : List ByteArray) (v : Value) (s : ByteArray) (F : Nat → Prop) (w : World) (hr : Zu Zbp 1 F w l v) :
  Calls Tryz.prog 170 #[v, .string s] w fun e w' => e = .returned (.bool (Zec l s)) ∧ w' = w := by
 obtain ⟨A, c, rfl, hc, hcm, hel⟩ := hr;unfold maxLen at hcm;have HEL := zh hel;clear hel;obtain ⟨R, hR⟩ : ∃ R, Zec l s = R := ⟨_, rfl⟩;rw [hR];have HR := zh hR;clear hR;go_enter Tryz.func170, Tryz.ntmps170;go_wp2_with fail
 go_loopw [5] (fun i wr => ∃ j : Nat, i = .int .i64 j ∧ j ≤ l.length ∧ Hd (∀ k (h : k < l.length), k < j → l[k] ≠ s) ∧ wr = w) (fun i _ => l.length - (intOf i).toNat)
 case atStart => exact ⟨0, rfl, Nat.zero_le _, zh (fun k _ h => by omega), rfl⟩
 case round =>
  obtain ⟨j, rfl, hj, HD, hw⟩ := hrel;obtain rfl : w = wr := hw.symm
  by_cases hlt : j < l.length
  ·obtain ⟨b, o, cs, rfl, hF, hbl, hE, hcell⟩ := HEL.o j hlt;obtain ⟨rfl, hsm⟩ := hE;have t1 : decide ((j : Int) < l.length) = true := decide_eq_true (by omega);have e0 := hcell 0 _ rfl;simp only [Nat.mul_one, Nat.add_zero] at e0
   by_cases he : l[j] = s
   ·have hR0 : R = true := by rw [← HR.o, Zso hlt he]
    rw [he] at e0;subst hR0;have v2 : (s.toList == s.toList) = true := by simp
    clear hcell hsm he;go_wp2_with fail;go_ret;exact ⟨rfl, rfl⟩
   ·obtain ⟨y, hy⟩ : ∃ y, l[j] = y := ⟨_, rfl⟩;rw [hy] at e0;have v1 : (y.toList == s.toList) = false := by rw [nH]; exact fun h => he (hy.trans (Zhx h))
    have HD2 : Hd (∀ k (h : k < l.length), k < j + 1 → l[k] ≠ s) := zh (fun k hk h => by
     rcases Nat.lt_or_ge k j with h1 | h1
     ·exact HD.o k hk h1
     ·obtain rfl : k = j := by omega
      exact he)
    clear hcell hsm he hy;go_wp2_with fail
    go_roundw
    case rel => exact ⟨j + 1, by go_num, by omega, HD2, trivial⟩
    case measure => simp [intOf]; omega
  ·have t1 : decide ((j : Int) < l.length) = false := decide_eq_false (by omega);have hR0 : R = false := by rw [← HR.o, Zpa (fun k hk => HD.o k hk (by omega))]
   subst hR0;go_wp2_with fail;go_ret;exact ⟨rfl, rfl⟩
theorem Zhz (l : List ByteArray) (v : Value) (s : ByteArray) (F : Nat → Prop) (w : World) (hr : Zu Zbp 1 F w l v) :
  Calls Tryz.prog 154 #[v, .string s] w fun e w' => e = .returned (.bool (Zec l s)) ∧ w' = w := by
 have HI := zh (Zpm l v s F w hr);have HG := zh (Zqw l s);clear hr;go_enter Tryz.func154, Tryz.ntmps154;go_wp2_with fail;refine HI.o.mono ?_;rintro e w' ⟨rfl, hw⟩;obtain rfl := hw.symm;go_wp2_with fail;go_ret;exact ⟨by rw [← HG.o]; rfl, rfl⟩
def Zcg (x : UInt8) : Bool := decide (48 ≤ x.toNat) && decide (x.toNat ≤ 57)
def Zb2 (x : UInt8) : Bool := (decide (97 ≤ x.toNat) && decide (x.toNat ≤ 122)) || (decide (65 ≤ x.toNat) && decide (x.toNat ≤ 90)) || decide (x.toNat = 95)
theorem Zi8 (x : UInt8) (c : Int) (hc : (x.toNat : Int) = c) (w : World) : Calls Tryz.prog 151 #[.int .u8 c] w fun e w' => e = .returned (.bool (Zcg x)) ∧ w' = w := by
 have hb : 0 ≤ c ∧ c < 256 := by have := x.toNat_lt; omega
 obtain ⟨hb0, hb1⟩ := hb;obtain ⟨R, hR⟩ : ∃ R, Zcg x = R := ⟨_, rfl⟩;rw [hR];have HR := zh hR;have HC := zh hc;clear hR hc;have hcase : (c < 48) ∨ (48 ≤ c ∧ c ≤ 57) ∨ (57 < c) := by omega
 rcases hcase with h | h | h
 ·have hR0 : R = false := by rw [← HR.o]; have := HC.o; unfold Zcg; simp; omega
  subst hR0;have : decide ((48 : Int) ≤ c) = false := decide_eq_false (by omega);have : decide (c ≤ (57 : Int)) = true := decide_eq_true (by omega);clear HC HR;go_enter Tryz.func151, Tryz.ntmps151;go_wp2_with fail;go_ret;exact ⟨rfl, rfl⟩
 ·have hR0 : R = true := by rw [← HR.o]; have := HC.o; unfold Zcg; simp; omega
  subst hR0;have : decide ((48 : Int) ≤ c) = true := decide_eq_true (by omega);have : decide (c ≤ (57 : Int)) = true := decide_eq_true (by omega);clear HC HR;go_enter Tryz.func151, Tryz.ntmps151;go_wp2_with fail;go_ret;exact ⟨rfl, rfl⟩
 ·have hR0 : R = false := by rw [← HR.o]; have := HC.o; unfold Zcg; simp; omega
  subst hR0;have : decide ((48 : Int) ≤ c) = true := decide_eq_true (by omega);have : decide (c ≤ (57 : Int)) = false := decide_eq_false (by omega);clear HC HR;go_enter Tryz.func151, Tryz.ntmps151;go_wp2_with fail;go_ret;exact ⟨rfl, rfl⟩
theorem Zmd (x : UInt8) (c : Int) (hc : (x.toNat : Int) = c) (w : World) : Calls Tryz.prog 147 #[.int .u8 c] w fun e w' => e = .returned (.bool (Zcg x)) ∧ w' = w := by
 have hb : 0 ≤ c ∧ c < 256 := by have := x.toNat_lt; omega
 obtain ⟨hb0, hb1⟩ := hb;obtain ⟨R, hR⟩ : ∃ R, Zcg x = R := ⟨_, rfl⟩;rw [hR];have HR := zh hR;have HC := zh hc;clear hR hc;have hcase : (c < 48) ∨ (48 ≤ c ∧ c ≤ 57) ∨ (57 < c) := by omega
 rcases hcase with h | h | h
 ·have hR0 : R = false := by rw [← HR.o]; have := HC.o; unfold Zcg; simp; omega
  subst hR0;have : decide ((48 : Int) ≤ c) = false := decide_eq_false (by omega);have : decide (c ≤ (57 : Int)) = true := decide_eq_true (by omega);clear HC HR;go_enter Tryz.func147, Tryz.ntmps147;go_wp2_with fail;go_ret;exact ⟨rfl, rfl⟩
 ·have hR0 : R = true := by rw [← HR.o]; have := HC.o; unfold Zcg; simp; omega
  subst hR0;have : decide ((48 : Int) ≤ c) = true := decide_eq_true (by omega);have : decide (c ≤ (57 : Int)) = true := decide_eq_true (by omega);clear HC HR;go_enter Tryz.func147, Tryz.ntmps147;go_wp2_with fail;go_ret;exact ⟨rfl, rfl⟩
 ·have hR0 : R = false := by rw [← HR.o]; have := HC.o; unfold Zcg; simp; omega
  subst hR0;have : decide ((48 : Int) ≤ c) = true := decide_eq_true (by omega);have : decide (c ≤ (57 : Int)) = false := decide_eq_false (by omega);clear HC HR;go_enter Tryz.func147, Tryz.ntmps147;go_wp2_with fail;go_ret;exact ⟨rfl, rfl⟩
theorem Zli (x : UInt8) (c : Int) (hc : (x.toNat : Int) = c) (w : World) : Calls Tryz.prog 153 #[.int .u8 c] w fun e w' => e = .returned (.bool (Zb2 x)) ∧ w' = w := by
 have hb : 0 ≤ c ∧ c < 256 := by have := x.toNat_lt; omega
 obtain ⟨hb0, hb1⟩ := hb;obtain ⟨R, hR⟩ : ∃ R, Zb2 x = R := ⟨_, rfl⟩;rw [hR];have HR := zh hR;have HC := zh hc;clear hR hc;have hcase : (c < 65) ∨ (65 ≤ c ∧ c ≤ 90) ∨ (90 < c ∧ c < 95) ∨ (c = 95) ∨ (c = 96) ∨ (97 ≤ c ∧ c ≤ 122) ∨ (122 < c) := by omega
 rcases hcase with h | h | h | h | h | h | h
 ·have hR0 : R = false := by rw [← HR.o]; have := HC.o; unfold Zb2; simp; omega
  subst hR0;have : decide ((97 : Int) ≤ c) = false := decide_eq_false (by omega);have : decide (c ≤ (122 : Int)) = true := decide_eq_true (by omega);have : decide ((65 : Int) ≤ c) = false := decide_eq_false (by omega);have : decide (c ≤ (90 : Int)) = true := decide_eq_true (by omega);have : (c == (95 : Int)) = false := by rw [nH]; omega
  clear HC HR;go_enter Tryz.func153, Tryz.ntmps153;go_wp2_with fail;go_ret;exact ⟨rfl, rfl⟩
 ·have hR0 : R = true := by rw [← HR.o]; have := HC.o; unfold Zb2; simp; omega
  subst hR0;have : decide ((97 : Int) ≤ c) = false := decide_eq_false (by omega);have : decide (c ≤ (122 : Int)) = true := decide_eq_true (by omega);have : decide ((65 : Int) ≤ c) = true := decide_eq_true (by omega);have : decide (c ≤ (90 : Int)) = true := decide_eq_true (by omega);have : (c == (95 : Int)) = false := by rw [nH]; omega
  clear HC HR;go_enter Tryz.func153, Tryz.ntmps153;go_wp2_with fail;go_ret;exact ⟨rfl, rfl⟩
 ·have hR0 : R = false := by rw [← HR.o]; have := HC.o; unfold Zb2; simp; omega
  subst hR0;have : decide ((97 : Int) ≤ c) = false := decide_eq_false (by omega);have : decide (c ≤ (122 : Int)) = true := decide_eq_true (by omega);have : decide ((65 : Int) ≤ c) = true := decide_eq_true (by omega);have : decide (c ≤ (90 : Int)) = false := decide_eq_false (by omega);have : (c == (95 : Int)) = false := by rw [nH]; omega
  clear HC HR;go_enter Tryz.func153, Tryz.ntmps153;go_wp2_with fail;go_ret;exact ⟨rfl, rfl⟩
 ·have hR0 : R = true := by rw [← HR.o]; have := HC.o; unfold Zb2; simp; omega
  subst hR0;have : decide ((97 : Int) ≤ c) = false := decide_eq_false (by omega);have : decide (c ≤ (122 : Int)) = true := decide_eq_true (by omega);have : decide ((65 : Int) ≤ c) = true := decide_eq_true (by omega);have : decide (c ≤ (90 : Int)) = false := decide_eq_false (by omega);have : (c == (95 : Int)) = true := by rw [beq_iff_eq]; omega
  clear HC HR;go_enter Tryz.func153, Tryz.ntmps153;go_wp2_with fail;go_ret;exact ⟨rfl, rfl⟩
 ·have hR0 : R = false := by rw [← HR.o]; have := HC.o; unfold Zb2; simp; omega
  subst hR0;have : decide ((97 : Int) ≤ c) = false := decide_eq_false (by omega);have : decide (c ≤ (122 : Int)) = true := decide_eq_true (by omega);have : decide ((65 : Int) ≤ c) = true := decide_eq_true (by omega);have : decide (c ≤ (90 : Int)) = false := decide_eq_false (by omega);have : (c == (95 : Int)) = false := by rw [nH]; omega
  clear HC HR;go_enter Tryz.func153, Tryz.ntmps153;go_wp2_with fail;go_ret;exact ⟨rfl, rfl⟩
 ·have hR0 : R = true := by rw [← HR.o]; have := HC.o; unfold Zb2; simp; omega
  subst hR0;have : decide ((97 : Int) ≤ c) = true := decide_eq_true (by omega);have : decide (c ≤ (122 : Int)) = true := decide_eq_true (by omega);have : decide ((65 : Int) ≤ c) = true := decide_eq_true (by omega);have : decide (c ≤ (90 : Int)) = false := decide_eq_false (by omega);have : (c == (95 : Int)) = false := by rw [nH]; omega
  clear HC HR;go_enter Tryz.func153, Tryz.ntmps153;go_wp2_with fail;go_ret;exact ⟨rfl, rfl⟩
 ·have hR0 : R = false := by rw [← HR.o]; have := HC.o; unfold Zb2; simp; omega
  subst hR0;have : decide ((97 : Int) ≤ c) = true := decide_eq_true (by omega);have : decide (c ≤ (122 : Int)) = false := decide_eq_false (by omega);have : decide ((65 : Int) ≤ c) = true := decide_eq_true (by omega);have : decide (c ≤ (90 : Int)) = false := decide_eq_false (by omega);have : (c == (95 : Int)) = false := by rw [nH]; omega
  clear HC HR;go_enter Tryz.func153, Tryz.ntmps153;go_wp2_with fail;go_ret;exact ⟨rfl, rfl⟩
theorem Zh0 (x : UInt8) (c : Int) (hc : (x.toNat : Int) = c) (w : World) : Calls Tryz.prog 145 #[.int .u8 c] w fun e w' => e = .returned (.bool (Zb2 x)) ∧ w' = w := by
 have hb : 0 ≤ c ∧ c < 256 := by have := x.toNat_lt; omega
 obtain ⟨hb0, hb1⟩ := hb;obtain ⟨R, hR⟩ : ∃ R, Zb2 x = R := ⟨_, rfl⟩;rw [hR];have HR := zh hR;have HC := zh hc;clear hR hc;have hcase : (c < 65) ∨ (65 ≤ c ∧ c ≤ 90) ∨ (90 < c ∧ c < 95) ∨ (c = 95) ∨ (c = 96) ∨ (97 ≤ c ∧ c ≤ 122) ∨ (122 < c) := by omega
 rcases hcase with h | h | h | h | h | h | h
 ·have hR0 : R = false := by rw [← HR.o]; have := HC.o; unfold Zb2; simp; omega
  subst hR0;have : decide ((97 : Int) ≤ c) = false := decide_eq_false (by omega);have : decide (c ≤ (122 : Int)) = true := decide_eq_true (by omega);have : decide ((65 : Int) ≤ c) = false := decide_eq_false (by omega);have : decide (c ≤ (90 : Int)) = true := decide_eq_true (by omega);have : (c == (95 : Int)) = false := by rw [nH]; omega
  clear HC HR;go_enter Tryz.func145, Tryz.ntmps145;go_wp2_with fail;go_ret;exact ⟨rfl, rfl⟩
 ·have hR0 : R = true := by rw [← HR.o]; have := HC.o; unfold Zb2; simp; omega
  subst hR0;have : decide ((97 : Int) ≤ c) = false := decide_eq_false (by omega);have : decide (c ≤ (122 : Int)) = true := decide_eq_true (by omega);have : decide ((65 : Int) ≤ c) = true := decide_eq_true (by omega);have : decide (c ≤ (90 : Int)) = true := decide_eq_true (by omega);have : (c == (95 : Int)) = false := by rw [nH]; omega
  clear HC HR;go_enter Tryz.func145, Tryz.ntmps145;go_wp2_with fail;go_ret;exact ⟨rfl, rfl⟩
 ·have hR0 : R = false := by rw [← HR.o]; have := HC.o; unfold Zb2; simp; omega
  subst hR0;have : decide ((97 : Int) ≤ c) = false := decide_eq_false (by omega);have : decide (c ≤ (122 : Int)) = true := decide_eq_true (by omega);have : decide ((65 : Int) ≤ c) = true := decide_eq_true (by omega);have : decide (c ≤ (90 : Int)) = false := decide_eq_false (by omega);have : (c == (95 : Int)) = false := by rw [nH]; omega
  clear HC HR;go_enter Tryz.func145, Tryz.ntmps145;go_wp2_with fail;go_ret;exact ⟨rfl, rfl⟩
 ·have hR0 : R = true := by rw [← HR.o]; have := HC.o; unfold Zb2; simp; omega
  subst hR0;have : decide ((97 : Int) ≤ c) = false := decide_eq_false (by omega);have : decide (c ≤ (122 : Int)) = true := decide_eq_true (by omega);have : decide ((65 : Int) ≤ c) = true := decide_eq_true (by omega);have : decide (c ≤ (90 : Int)) = false := decide_eq_false (by omega);have : (c == (95 : Int)) = true := by rw [beq_iff_eq]; omega
  clear HC HR;go_enter Tryz.func145, Tryz.ntmps145;go_wp2_with fail;go_ret;exact ⟨rfl, rfl⟩
 ·have hR0 : R = false := by rw [← HR.o]; have := HC.o; unfold Zb2; simp; omega
  subst hR0;have : decide ((97 : Int) ≤ c) = false := decide_eq_false (by omega);have : decide (c ≤ (122 : Int)) = true := decide_eq_true (by omega);have : decide ((65 : Int) ≤ c) = true := decide_eq_true (by omega);have : decide (c ≤ (90 : Int)) = false := decide_eq_false (by omega);have : (c == (95 : Int)) = false := by rw [nH]; omega
  clear HC HR;go_enter Tryz.func145, Tryz.ntmps145;go_wp2_with fail;go_ret;exact ⟨rfl, rfl⟩
 ·have hR0 : R = true := by rw [← HR.o]; have := HC.o; unfold Zb2; simp; omega
  subst hR0;have : decide ((97 : Int) ≤ c) = true := decide_eq_true (by omega);have : decide (c ≤ (122 : Int)) = true := decide_eq_true (by omega);have : decide ((65 : Int) ≤ c) = true := decide_eq_true (by omega);have : decide (c ≤ (90 : Int)) = false := decide_eq_false (by omega);have : (c == (95 : Int)) = false := by rw [nH]; omega
  clear HC HR;go_enter Tryz.func145, Tryz.ntmps145;go_wp2_with fail;go_ret;exact ⟨rfl, rfl⟩
 ·have hR0 : R = false := by rw [← HR.o]; have := HC.o; unfold Zb2; simp; omega
  subst hR0;have : decide ((97 : Int) ≤ c) = true := decide_eq_true (by omega);have : decide (c ≤ (122 : Int)) = false := decide_eq_false (by omega);have : decide ((65 : Int) ≤ c) = true := decide_eq_true (by omega);have : decide (c ≤ (90 : Int)) = false := decide_eq_false (by omega);have : (c == (95 : Int)) = false := by rw [nH]; omega
  clear HC HR;go_enter Tryz.func145, Tryz.ntmps145;go_wp2_with fail;go_ret;exact ⟨rfl, rfl⟩
/-- The library's table of spaces. -/
def Spc (w : World) : Prop := Lib.TabIs Tryz.prog w "strings.asciiSpace" .u8 Lib.asciiSpaceTab
theorem Zlj : Tryz.prog.globalNamed "strings.asciiSpace" = some 0 := by kernel_rfl
theorem Spc.below {w w' : World} (h : Spc w) (hb : Below w.heap.size w w') : Spc w' :=
 var?_below hb Zlj (World.block_lt_of_cell? w _ (h.cell Zlj 0 (by decide +kernel))) h
def Zjs (l : List (List UInt8)) : Obj := .cells (l.map fun l => Value.string ⟨l.toArray⟩).toArray 9
/-- Texts out of bytes. -/
def Zjg (l : List (List UInt8)) : List ByteArray := l.map fun x => ⟨x.toArray⟩
theorem Zme (w : World) (l : List (List UInt8)) (h1 : l.length ≤ 1000) (h2 : ∀ x ∈ l, x.length ≤ 1000) : Zu Zbp 1 (fun b => w.heap.size ≤ b) (w.alloc (Zjs l)) (Zjg l) (.slice (some ⟨w.heap.size, 0, none⟩) l.length l.length) := by
 refine ⟨some ⟨w.heap.size, 0, none⟩, l.length, by simp [Zjg], by simp [Zjg], by unfold maxLen; omega, fun i hi => ?_⟩;have hi' : i < l.length := by simpa [Zjg] using hi
 refine ⟨w.heap.size, 0, [.string (Zjg l)[i]], rfl, Nat.le_refl _, by simp, ⟨rfl, ?_⟩, fun j x hj => ?_⟩
 ·have := h2 l[i] (List.getElem_mem hi');simp only [Zjg, List.getElem_map];show l[i].length ≤ maxLen;unfold maxLen
  omega
 ·cases j with
  | zero =>
   obtain rfl : Value.string (Zjg l)[i] = x := by simpa using hj
   rw [cell_of_row _ w.heap.size _ _ _ _ (heap_alloc_new w (Zjs l))];simp [Zjg, hi']
  | succ j => simp at hj
theorem Zk4 (l : List (List UInt8)) (s : ByteArray) : Zec (Zjg l) s = decide (bl s ∈ l) := by
 unfold Zec Zjg;rw [List.map_map];have : (bl ∘ fun x : List UInt8 => (⟨x.toArray⟩ : ByteArray)) = id := by funext x; rfl
 rw [this, List.map_id]
def Zds : List (List UInt8) := [[112, 114, 111, 99, 101, 100, 117, 114, 101], [101, 110, 100], [103, 108, 111, 98, 97, 108], [108, 111, 99, 97, 108], [114, 101, 99, 111, 114, 100], [105, 102], [116, 104, 101, 110], [101, 108, 115, 101], [119, 104, 105, 108, 101], [117, 110, 116, 105, 108], [101, 118, 101, 114, 121], [100, 111], [114, 101, 112, 101, 97, 116], [99, 97, 115, 101], [111, 102], [100, 101, 102, 97, 117, 108, 116], [114, 101, 116, 117, 114, 110], [115, 117, 115, 112, 101, 110, 100], [102, 97, 105, 108], [98, 114, 101, 97, 107], [110, 101, 120, 116], [99, 114, 101, 97, 116, 101], [116, 111], [98, 121], [110, 111, 116], [100, 101, 102, 101, 114]]
theorem Zko : Lib.fields (ByteArray.mk #[112, 114, 111, 99, 101, 100, 117, 114, 101, 32, 101, 110, 100, 32, 103, 108, 111, 98, 97, 108, 32, 108, 111, 99, 97, 108, 32, 114, 101, 99, 111, 114, 100, 32, 105, 102, 32, 116, 104, 101, 110, 32, 101, 108, 115, 101, 32, 119, 104, 105, 108, 101, 32, 117, 110, 116, 105, 108, 32, 101, 118, 101, 114, 121, 32, 100, 111, 32, 114, 101, 112, 101, 97, 116, 32, 99, 97, 115, 101, 32, 111, 102, 32, 100, 101, 102, 97, 117, 108, 116, 32, 114, 101, 116, 117, 114, 110, 32, 115, 117, 115, 112, 101, 110, 100, 32, 102, 97, 105, 108, 32, 98, 114, 101, 97, 107, 32, 110, 101, 120, 116, 32, 99, 114, 101, 97, 116, 101, 32, 116, 111, 32, 98, 121, 32, 110, 111, 116, 32, 100, 101, 102, 101, 114]).data.toList = Zds := by decide +kernel
theorem Zkp : ∀ (j : Nat) b, (ByteArray.mk #[112, 114, 111, 99, 101, 100, 117, 114, 101, 32, 101, 110, 100, 32, 103, 108, 111, 98, 97, 108, 32, 108, 111, 99, 97, 108, 32, 114, 101, 99, 111, 114, 100, 32, 105, 102, 32, 116, 104, 101, 110, 32, 101, 108, 115, 101, 32, 119, 104, 105, 108, 101, 32, 117, 110, 116, 105, 108, 32, 101, 118, 101, 114, 121, 32, 100, 111, 32, 114, 101, 112, 101, 97, 116, 32, 99, 97, 115, 101, 32, 111, 102, 32, 100, 101, 102, 97, 117, 108, 116, 32, 114, 101, 116, 117, 114, 110, 32, 115, 117, 115, 112, 101, 110, 100, 32, 102, 97, 105, 108, 32, 98, 114, 101, 97, 107, 32, 110, 101, 120, 116, 32, 99, 114, 101, 97, 116, 101, 32, 116, 111, 32, 98, 121, 32, 110, 111, 116, 32, 100, 101, 102, 101, 114]).data.toList[j]? = some b → b.toNat < 128 := by
 intro j b hb;have h : ∀ c ∈ (ByteArray.mk #[112, 114, 111, 99, 101, 100, 117, 114, 101, 32, 101, 110, 100, 32, 103, 108, 111, 98, 97, 108, 32, 108, 111, 99, 97, 108, 32, 114, 101, 99, 111, 114, 100, 32, 105, 102, 32, 116, 104, 101, 110, 32, 101, 108, 115, 101, 32, 119, 104, 105, 108, 101, 32, 117, 110, 116, 105, 108, 32, 101, 118, 101, 114, 121, 32, 100, 111, 32, 114, 101, 112, 101, 97, 116, 32, 99, 97, 115, 101, 32, 111, 102, 32, 100, 101, 102, 97, 117, 108, 116, 32, 114, 101, 116, 117, 114, 110, 32, 115, 117, 115, 112, 101, 110, 100, 32, 102, 97, 105, 108, 32, 98, 114, 101, 97, 107, 32, 110, 101, 120, 116, 32, 99, 114, 101, 97, 116, 101, 32, 116, 111, 32, 98, 121, 32, 110, 111, 116, 32, 100, 101, 102, 101, 114]).data.toList, c.toNat < 128 := by decide +kernel
 exact h b (List.mem_of_getElem? hb)
theorem Zj4 (w : World) (ht : Spc w) : Calls Tryz.prog 175 #[.string ⟨#[112, 114, 111, 99, 101, 100, 117, 114, 101, 32, 101, 110, 100, 32, 103, 108, 111, 98, 97, 108, 32, 108, 111, 99, 97, 108, 32, 114, 101, 99, 111, 114, 100, 32, 105, 102, 32, 116, 104, 101, 110, 32, 101, 108, 115, 101, 32, 119, 104, 105, 108, 101, 32, 117, 110, 116, 105, 108, 32, 101, 118, 101, 114, 121, 32, 100, 111, 32, 114, 101, 112, 101, 97, 116, 32, 99, 97, 115, 101, 32, 111, 102, 32, 100, 101, 102, 97, 117, 108, 116, 32, 114, 101, 116, 117, 114, 110, 32, 115, 117, 115, 112, 101, 110, 100, 32, 102, 97, 105, 108, 32, 98, 114, 101, 97, 107, 32, 110, 101, 120, 116, 32, 99, 114, 101, 97, 116, 101, 32, 116, 111, 32, 98, 121, 32, 110, 111, 116, 32, 100, 101, 102, 101, 114]⟩] w fun e w' => e = .returned (.slice (some ⟨w.heap.size, 0, none⟩) 26 26) ∧ w' = w.alloc (Zjs Zds) := by
 have h := Tryz.strings_Fields_laid ⟨#[112, 114, 111, 99, 101, 100, 117, 114, 101, 32, 101, 110, 100, 32, 103, 108, 111, 98, 97, 108, 32, 108, 111, 99, 97, 108, 32, 114, 101, 99, 111, 114, 100, 32, 105, 102, 32, 116, 104, 101, 110, 32, 101, 108, 115, 101, 32, 119, 104, 105, 108, 101, 32, 117, 110, 116, 105, 108, 32, 101, 118, 101, 114, 121, 32, 100, 111, 32, 114, 101, 112, 101, 97, 116, 32, 99, 97, 115, 101, 32, 111, 102, 32, 100, 101, 102, 97, 117, 108, 116, 32, 114, 101, 116, 117, 114, 110, 32, 115, 117, 115, 112, 101, 110, 100, 32, 102, 97, 105, 108, 32, 98, 114, 101, 97, 107, 32, 110, 101, 120, 116, 32, 99, 114, 101, 97, 116, 101, 32, 116, 111, 32, 98, 121, 32, 110, 111, 116, 32, 100, 101, 102, 101, 114]⟩ w (by decide +kernel) Zkp ht;rw [Zko] at h;exact h
/-- Whether it is a reserved word. -/
def Zh1 (s : ByteArray) : Bool := decide (bl s ∈ Zds)
theorem Zh2 (w : World) (ht : Spc w) : Calls Tryz.prog 171 #[] w fun e w' => e = .returned (.slice (some ⟨w.heap.size, 0, none⟩) 26 26) ∧ w' = w.alloc (Zjs Zds) := by
 go_enter Tryz.func171, Tryz.ntmps171;go_wp2_with fail;refine (Zj4 w ht).mono ?_;rintro e w' ⟨rfl, rfl⟩;go_wp2_with fail;go_ret;exact ⟨rfl, rfl⟩
theorem Zhn (s : ByteArray) (w : World) (ht : Spc w) : Calls Tryz.prog 152 #[.string s] w fun e w' => e = .returned (.bool (Zh1 s)) ∧ Below w.heap.size w w' := by
 have HW := zh (Zh2 w ht);have hro := Zhz (Zjg Zds) _ s _ _ (Zme w Zds (by decide) (by decide));rw [Zk4] at hro;have HC := zh hro;clear hro;go_enter Tryz.func152, Tryz.ntmps152;go_wp2_with fail;refine HW.o.mono ?_;rintro e w' ⟨rfl, hw⟩;subst hw;go_wp2_with fail;refine HC.o.mono ?_;rintro e w' ⟨rfl, hw⟩;subst hw;go_wp2_with fail;go_ret;exact ⟨rfl, (Below.refl _ _).alloc (Nat.le_refl _) _⟩
theorem Zho (s : ByteArray) (w : World) : Calls Tryz.prog 146 #[.string s] w fun e w' => e = .returned (.bool (Zh1 s)) ∧ Below w.heap.size w w' := by
 have hro := Zpn (Zjg Zds) _ s _ _ (Zme w Zds (by decide) (by decide));rw [Zk4] at hro;have HC := zh hro;clear hro;go_enter Tryz.func146, Tryz.ntmps146;go_wp2_with fail;refine HC.o.mono ?_;rintro e w' ⟨rfl, hw⟩;subst hw;go_wp2_with fail;go_ret;exact ⟨rfl, (Below.refl _ _).alloc (Nat.le_refl _) _⟩
theorem Zmf {x : UInt8} (h : Zb2 x = true) : Zcg x = false := by
 unfold Zb2 at h;unfold Zcg;simp at h ⊢
 omega
/-- Whether it is a name. -/
def Zcj (s : ByteArray) : Bool := decide (1 ≤ s.size) && decide (s.size ≤ 12) && !((bl s).head?.any Zcg) && !Zh1 s && (bl s).all fun x => Zb2 x || Zcg x
theorem Zlk (s : ByteArray) : (bl s).length = s.size := by simp [bl]
theorem Zqy (s : ByteArray) (j : Nat) (h : j < s.size) : (bl s)[j]'(by rw [Zlk]; exact h) = s[j] := rfl
theorem Zj5 {s : ByteArray} (hp : 0 < s.size) : (bl s).head? = some s[0] := by
 rw [List.head?_eq_getElem?, List.getElem?_eq_getElem (by rw [Zlk]; exact hp), Zqy]
theorem Zj6 {s : ByteArray} (h : s.size < 1) : Zcj s = false := by
 unfold Zcj; rw [show decide (1 ≤ s.size) = false from decide_eq_false (by omega)]; rfl
theorem Zk5 {s : ByteArray} (h : 12 < s.size) : Zcj s = false := by
 unfold Zcj; rw [show decide (s.size ≤ 12) = false from decide_eq_false (by omega), Bool.and_false]; rfl
theorem Zmg {s : ByteArray} (hp : 0 < s.size) (h : Zcg s[0] = true) : Zcj s = false := by
 unfold Zcj; rw [Zj5 hp]; simp [h]
theorem Zmh {s : ByteArray} (h : Zh1 s = true) : Zcj s = false := by
 unfold Zcj; rw [h]; simp
theorem Zll {s : ByteArray} {j : Nat} (hj : j < s.size) (h : (Zb2 s[j] || Zcg s[j]) = false) : Zcj s = false := by
 unfold Zcj;have : (bl s).all (fun x => Zb2 x || Zcg x) = false := by
  rw [List.all_eq_false];exact ⟨s[j], by rw [← Zqy s j hj]; exact List.getElem_mem _, by rw [h]; decide⟩
 rw [this, Bool.and_false]
theorem Zoa {s : ByteArray} (hp : 0 < s.size) (h : Zb2 s[0] = false) : Zcj s = false := by
 cases hd : Zcg s[0] with
 | true => exact Zmg hp hd
 | false => exact Zll hp (by rw [h, hd]; rfl)
theorem Zmi {s : ByteArray} (h1 : 1 ≤ s.size) (h2 : s.size ≤ 12) (h3 : (∃ hp : 0 < s.size, Zcg s[0] = false) ∨ (∃ hp : 0 < s.size, Zb2 s[0] = true)) (h4 : Zh1 s = false) (h5 : ∀ k (h : k < s.size), (Zb2 s[k] || Zcg s[k]) = true) : Zcj s = true := by
 have hd : Zcg s[0] = false := by
  rcases h3 with ⟨_, h⟩ | ⟨_, h⟩
  ·exact h
  ·exact Zmf h
 unfold Zcj;rw [Zj5 h1, h4];simp only [Option.any_some, hd, h1, h2, decide_true, Bool.not_false, Bool.and_true, Bool.true_and];rw [List.all_eq_true];intro x hx;obtain ⟨k, hk, rfl⟩ := List.getElem_of_mem hx;rw [Zlk] at hk;rw [Zqy s k hk];exact h5 k hk
theorem Zgo (s : ByteArray) (w : World) (hs : s.size ≤ maxLen) (ht : Spc w) : Calls Tryz.prog 104 #[.string s] w fun e w' => e = .returned (.bool (Zcj s)) ∧ Below w.heap.size w w' := by
 unfold maxLen at hs;obtain ⟨R, hR⟩ : ∃ R, Zcj s = R := ⟨_, rfl⟩;rw [hR];have HR := zh hR;clear hR;have HX := zh (Zhn s w ht);clear ht
 by_cases h1 : s.size < 1
 ·have hR0 : R = false := by rw [← HR.o, Zj6 h1]
  have t1 : decide ((s.size : Int) < 1) = true := decide_eq_true (by omega);subst hR0;go_enter Tryz.func104, Tryz.ntmps104;go_wp2_with fail;go_ret;exact ⟨rfl, Below.refl _ _⟩
 have t1 : decide ((s.size : Int) < 1) = false := decide_eq_false (by omega)
 by_cases h12 : 12 < s.size
 ·have hR0 : R = false := by rw [← HR.o, Zk5 h12]
  have t2 : decide ((12 : Int) < s.size) = true := decide_eq_true (by omega);subst hR0;go_enter Tryz.func104, Tryz.ntmps104;go_wp2_with fail;go_ret;exact ⟨rfl, Below.refl _ _⟩
 have t2 : decide ((12 : Int) < s.size) = false := decide_eq_false (by omega);have hp : 0 < s.size := by omega
 have hp' : (0 : Int) < s.size := by omega
 obtain ⟨c0, hc0⟩ : ∃ c : Int, (s[0].toNat : Int) = c := ⟨_, rfl⟩;have HF := zh (fun w => Zi8 s[0] c0 hc0 w);go_enter Tryz.func104, Tryz.ntmps104;go_wp2_with fail;refine (HF.o _).mono ?_;rintro e w' ⟨rfl, hw⟩;obtain rfl := hw.symm
 by_cases hf : Zcg s[0] = true
 ·have hR0 : R = false := by rw [← HR.o, Zmg hp hf]
  rw [hf];subst hR0;go_wp2_with fail;go_ret;exact ⟨rfl, Below.refl _ _⟩
 have hf2 : Zcg s[0] = false := by simpa using hf
 rw [hf2];have HF2 := zh hf2;clear hf hf2 HF;go_wp2_with fail;refine HX.o.mono ?_;rintro e w1 ⟨rfl, hb1⟩
 by_cases hx : Zh1 s = true
 ·have hR0 : R = false := by rw [← HR.o, Zmh hx]
  rw [hx];subst hR0;go_wp2_with fail;go_ret;exact ⟨rfl, hb1⟩
 have hx2 : Zh1 s = false := by simpa using hx
 rw [hx2];have HX2 := zh hx2;clear hx hx2 HX;go_wp2_with fail
 go_loopw [3] (fun i wr => ∃ j : Nat, i = .int .i64 j ∧ j ≤ s.size ∧ Hd (∀ k (h : k < s.size), k < j → (Zb2 s[k] || Zcg s[k]) = true) ∧ wr = w1) (fun i _ => s.size - (intOf i).toNat)
 case atStart => exact ⟨0, rfl, Nat.zero_le _, zh (fun k _ h => by omega), rfl⟩
 case round =>
  obtain ⟨j, rfl, hj, HD, hw⟩ := hrel;obtain rfl : w1 = wr := hw.symm
  by_cases hlt : j < s.size
  ·have t3 : decide ((j : Int) < s.size) = true := decide_eq_true (by omega);obtain ⟨c, hc⟩ : ∃ c : Int, (s[j].toNat : Int) = c := ⟨_, rfl⟩;have HL := zh (fun w => Zli s[j] c hc w);have HG := zh (fun w => Zi8 s[j] c hc w);have HJ := zh (fun h => Zll (s := s) hlt h);have HD2 := zh (fun (h : (Zb2 s[j] || Zcg s[j]) = true) => show ∀ k (h : k < s.size), k < j + 1 → (Zb2 s[k] || Zcg s[k]) = true from fun k hk h1 => by
    rcases Nat.lt_or_ge k j with h2 | h2
    ·exact HD.o k hk h2
    ·obtain rfl : k = j := by omega
     exact h)
   go_wp2_with fail;refine (HL.o _).mono ?_;rintro e w' ⟨rfl, hw⟩;obtain rfl := hw.symm
   by_cases hl : Zb2 s[j] = true
   ·rw [hl];have HD3 := zh (HD2.o (by rw [hl]; rfl));clear HD2 HJ HG HL hl;go_wp2_with fail
    go_roundw
    case rel => exact ⟨j + 1, by go_num, by omega, HD3, trivial⟩
    case measure => simp [intOf]; omega
   ·have hl2 : Zb2 s[j] = false := by simpa using hl
    rw [hl2];have HL2 := zh hl2;clear hl hl2 HL;go_wp2_with fail;refine (HG.o _).mono ?_;rintro e w' ⟨rfl, hw⟩;obtain rfl := hw.symm
    by_cases hg : Zcg s[j] = true
    ·rw [hg];have HD3 := zh (HD2.o (by rw [hg]; simp));clear HD2 HJ HG hg HL2;go_wp2_with fail
     go_roundw
     case rel => exact ⟨j + 1, by go_num, by omega, HD3, trivial⟩
     case measure => simp [intOf]; omega
    ·have hg2 : Zcg s[j] = false := by simpa using hg
     have hR0 : R = false := by rw [← HR.o, HJ.o (by rw [HL2.o, hg2]; rfl)]
     rw [hg2];subst hR0;clear hg hg2 HG HJ HD2;go_wp2_with fail;go_ret;exact ⟨rfl, hb1⟩
  ·have t3 : decide ((j : Int) < s.size) = false := decide_eq_false (by omega);have hR0 : R = true := by rw [← HR.o, Zmi (by omega) (by omega) (.inl ⟨hp, HF2.o⟩) HX2.o (fun k hk => HD.o k hk (by omega))]
   subst hR0;go_wp2_with fail;go_ret;exact ⟨rfl, hb1⟩
theorem Zgp (s : ByteArray) (w : World) (hs : s.size ≤ maxLen) : Calls Tryz.prog 98 #[.string s] w fun e w' => e = .returned (.bool (Zcj s)) ∧ Below w.heap.size w w' := by
 unfold maxLen at hs;obtain ⟨R, hR⟩ : ∃ R, Zcj s = R := ⟨_, rfl⟩;rw [hR];have HR := zh hR;clear hR;have HX := zh (Zho s w)
 skip
 by_cases h1 : s.size < 1
 ·have hR0 : R = false := by rw [← HR.o, Zj6 h1]
  have t1 : decide ((s.size : Int) < 1) = true := decide_eq_true (by omega);subst hR0;go_enter Tryz.func98, Tryz.ntmps98;go_wp2_with fail;go_ret;exact ⟨rfl, Below.refl _ _⟩
 have t1 : decide ((s.size : Int) < 1) = false := decide_eq_false (by omega)
 by_cases h12 : 12 < s.size
 ·have hR0 : R = false := by rw [← HR.o, Zk5 h12]
  have t2 : decide ((12 : Int) < s.size) = true := decide_eq_true (by omega);subst hR0;go_enter Tryz.func98, Tryz.ntmps98;go_wp2_with fail;go_ret;exact ⟨rfl, Below.refl _ _⟩
 have t2 : decide ((12 : Int) < s.size) = false := decide_eq_false (by omega);have hp : 0 < s.size := by omega
 have hp' : (0 : Int) < s.size := by omega
 obtain ⟨c0, hc0⟩ : ∃ c : Int, (s[0].toNat : Int) = c := ⟨_, rfl⟩;have HF := zh (fun w => Zh0 s[0] c0 hc0 w);go_enter Tryz.func98, Tryz.ntmps98;go_wp2_with fail;refine (HF.o _).mono ?_;rintro e w' ⟨rfl, hw⟩;obtain rfl := hw.symm
 by_cases hf : Zb2 s[0] = false
 ·have hR0 : R = false := by rw [← HR.o, Zoa hp hf]
  rw [hf];subst hR0;go_wp2_with fail;go_ret;exact ⟨rfl, Below.refl _ _⟩
 have hf2 : Zb2 s[0] = true := by simpa using hf
 rw [hf2];have HF2 := zh hf2;clear hf hf2 HF;go_wp2_with fail;refine HX.o.mono ?_;rintro e w1 ⟨rfl, hb1⟩
 by_cases hx : Zh1 s = true
 ·have hR0 : R = false := by rw [← HR.o, Zmh hx]
  rw [hx];subst hR0;go_wp2_with fail;go_ret;exact ⟨rfl, hb1⟩
 have hx2 : Zh1 s = false := by simpa using hx
 rw [hx2];have HX2 := zh hx2;clear hx hx2 HX;go_wp2_with fail
 go_loopw [3] (fun i wr => ∃ j : Nat, i = .int .i64 j ∧ j ≤ s.size ∧ Hd (∀ k (h : k < s.size), k < j → (Zb2 s[k] || Zcg s[k]) = true) ∧ wr = w1) (fun i _ => s.size - (intOf i).toNat)
 case atStart => exact ⟨0, rfl, Nat.zero_le _, zh (fun k _ h => by omega), rfl⟩
 case round =>
  obtain ⟨j, rfl, hj, HD, hw⟩ := hrel;obtain rfl : w1 = wr := hw.symm
  by_cases hlt : j < s.size
  ·have t3 : decide ((j : Int) < s.size) = true := decide_eq_true (by omega);obtain ⟨c, hc⟩ : ∃ c : Int, (s[j].toNat : Int) = c := ⟨_, rfl⟩;have HL := zh (fun w => Zh0 s[j] c hc w);have HG := zh (fun w => Zmd s[j] c hc w);have HJ := zh (fun h => Zll (s := s) hlt h);have HD2 := zh (fun (h : (Zb2 s[j] || Zcg s[j]) = true) => show ∀ k (h : k < s.size), k < j + 1 → (Zb2 s[k] || Zcg s[k]) = true from fun k hk h1 => by
    rcases Nat.lt_or_ge k j with h2 | h2
    ·exact HD.o k hk h2
    ·obtain rfl : k = j := by omega
     exact h)
   go_wp2_with fail;refine (HL.o _).mono ?_;rintro e w' ⟨rfl, hw⟩;obtain rfl := hw.symm
   by_cases hl : Zb2 s[j] = true
   ·rw [hl];have HD3 := zh (HD2.o (by rw [hl]; rfl));clear HD2 HJ HG HL hl;go_wp2_with fail
    go_roundw
    case rel => exact ⟨j + 1, by go_num, by omega, HD3, trivial⟩
    case measure => simp [intOf]; omega
   ·have hl2 : Zb2 s[j] = false := by simpa using hl
    rw [hl2];have HL2 := zh hl2;clear hl hl2 HL;go_wp2_with fail;refine (HG.o _).mono ?_;rintro e w' ⟨rfl, hw⟩;obtain rfl := hw.symm
    by_cases hg : Zcg s[j] = true
    ·rw [hg];have HD3 := zh (HD2.o (by rw [hg]; simp));clear HD2 HJ HG hg HL2;go_wp2_with fail
     go_roundw
     case rel => exact ⟨j + 1, by go_num, by omega, HD3, trivial⟩
     case measure => simp [intOf]; omega
    ·have hg2 : Zcg s[j] = false := by simpa using hg
     have hR0 : R = false := by rw [← HR.o, HJ.o (by rw [HL2.o, hg2]; rfl)]
     rw [hg2];subst hR0;clear hg hg2 HG HJ HD2;go_wp2_with fail;go_ret;exact ⟨rfl, hb1⟩
  ·have t3 : decide ((j : Int) < s.size) = false := decide_eq_false (by omega);have hR0 : R = true := by rw [← HR.o, Zmi (by omega) (by omega) (.inr ⟨hp, HF2.o⟩) HX2.o (fun k hk => HD.o k hk (by omega))]
   subst hR0;go_wp2_with fail;go_ret;exact ⟨rfl, hb1⟩
theorem Zk6 {l : List ByteArray} (h : ∀ k (hk : k < l.length), Zcj l[k] = true) : l.all Zcj = true := by
 rw [List.all_eq_true];intro x hx;obtain ⟨k, hk, rfl⟩ := List.getElem_of_mem hx;exact h k hk
theorem Zmj {l : List ByteArray} {j : Nat} (hj : j < l.length) (h : Zcj l[j] = false) : l.all Zcj = false := by
 rw [List.all_eq_false];exact ⟨_, List.getElem_mem hj, by rw [h]; decide⟩
/-- Whether a text stands there twice. -/
def twB (l : List ByteArray) : Bool := (List.range l.length).any fun j => Zec (l.take j) (l.getD j ⟨#[]⟩)
theorem Zpb {l : List ByteArray} {j : Nat} (hj : j < l.length) (d : ByteArray) : l.getD j d = l[j] := by
 rw [List.getD_eq_getElem?_getD, List.getElem?_eq_getElem hj]; rfl
theorem Zpc {l : List ByteArray} {j : Nat} (hj : j < l.length) (h : Zec (l.take j) l[j] = true) : twB l = true := by
 unfold twB;rw [List.any_eq_true];exact ⟨j, List.mem_range.2 hj, by rw [Zpb hj]; exact h⟩
theorem Zqz {l : List ByteArray} (h : ∀ k (hk : k < l.length), Zec (l.take k) l[k] = false) : twB l = false := by
 unfold twB;rw [List.any_eq_false];intro j hj;rw [List.mem_range] at hj;rw [Zpb hj, h j hj]
 decide
theorem Zu.take {α : Type} {El : Zc0 α} {size : Nat} {F : Nat → Prop} {w : World} {l : List α} {A : Option Addr} {n c j : Nat} (hj : j ≤ l.length) (h : Zu El size F w l (.slice A n c)) : Zu El size F w (l.take j) (.slice A j c) := by
 obtain ⟨A', c', e, h1, h2, h3⟩ := h;cases e;have hlen : (l.take j).length = j := by rw [List.length_take]; omega
 refine ⟨A, c, by rw [hlen], by omega, h2, fun i hi => ?_⟩;obtain ⟨b, o, cs, e, hF, hb, hel, hc⟩ := h3 i (by omega);exact ⟨b, o, cs, e, hF, hb, by rw [List.getElem_take]; exact hel, hc⟩
theorem Zh3 (l : List ByteArray) (v : Value) (F : Nat → Prop) (w : World) (hr : Zu Zbp 1 F w l v) (ht : Spc w) : Calls Tryz.prog 47 #[v] w fun e w' => e = .returned (.bool (l.all Zcj)) ∧ Below w.heap.size w w' := by
 obtain ⟨A, c, rfl, hc, hcm, hel⟩ := hr;unfold maxLen at hcm;have HEL := zh hel;obtain ⟨R, hR⟩ : ∃ R, (l.all Zcj) = R := ⟨_, rfl⟩;rw [hR];have HR := zh hR;have HT := zh ht;clear hR hel ht;go_enter Tryz.func47, Tryz.ntmps47;go_wp2_with fail
 go_loopw [7] (fun i wr => ∃ j : Nat, i = .int .i64 j ∧ j ≤ l.length ∧ Hd (∀ k (h : k < l.length), k < j → Zcj l[k] = true) ∧ Below w.heap.size w wr) (fun i _ => l.length - (intOf i).toNat)
 case atStart => exact ⟨0, rfl, Nat.zero_le _, zh (fun k _ h => by omega), Below.refl _ _⟩
 case round =>
  obtain ⟨j, rfl, hj, HD, hbel⟩ := hrel;have hsz := hbel.size
  by_cases hlt : j < l.length
  ·obtain ⟨b, o, cs, rfl, hF, hbl, hE, hcell⟩ := HEL.o j hlt;obtain ⟨rfl, hsm⟩ := hE;have t1 : decide ((j : Int) < l.length) = true := decide_eq_true (by omega);have hlt' : (j : Int) < l.length := by omega
   have e0 := (hbel.cell (p := ⟨b, o + j * 1 + 0, none⟩) hbl).trans (hcell 0 _ rfl);simp only [Nat.mul_one, Nat.add_zero] at e0;obtain ⟨s, hs⟩ : ∃ s, l[j] = s := ⟨_, rfl⟩;rw [hs] at e0 hsm;have HN := zh (Zgo s wr hsm (HT.o.below hbel));have HD2 := zh (fun (h : Zcj s = true) => show ∀ k (h : k < l.length), k < j + 1 → Zcj l[k] = true from fun k hk h1 => by
    rcases Nat.lt_or_ge k j with h2 | h2
    ·exact HD.o k hk h2
    ·obtain rfl : k = j := by omega
     rw [hs]; exact h)
   have HNO := zh (fun (h : Zcj s = false) => Zmj hlt (by rw [hs]; exact h));clear hcell hsm hs;go_wp2_with fail;refine HN.o.mono ?_;rintro e w1 ⟨rfl, hb1⟩;have hbel1 := hbel.trans (Below.mono hb1 hsz);clear e0 hb1
   by_cases hn : Zcj s = true
   ·have HD3 := zh (HD2.o hn);rw [hn];clear HD2 HNO HN hn;go_wp2_with fail
    go_roundw
    case rel => exact ⟨j + 1, by go_num, by omega, HD3, hbel1⟩
    case measure => simp [intOf]; omega
   ·have hn2 : Zcj s = false := by simpa using hn
    have hR0 : R = false := by rw [← HR.o, HNO.o hn2]
    rw [hn2];subst hR0;clear hn hn2 HNO HD2 HN;go_wp2_with fail;go_ret;exact ⟨rfl, hbel1⟩
  ·have t1 : decide ((j : Int) < l.length) = false := decide_eq_false (by omega);have hR0 : R = true := by rw [← HR.o, Zk6 (fun k hk => HD.o k hk (by omega))]
   subst hR0;go_wp2_with fail;go_ret;exact ⟨rfl, hbel⟩
theorem Zhi (l : List ByteArray) (v : Value) (most : Int) (F : Nat → Prop) (w : World) (hr : Zu Zbp 1 F w l v) : Calls Tryz.prog 97 #[v, .int .i64 most] w fun e w' => e = .returned (.bool (l.all Zcj && decide ((l.length : Int) ≤ most))) ∧ Below w.heap.size w w' := by
 obtain ⟨A, c, rfl, hc, hcm, hel⟩ := hr;unfold maxLen at hcm;have HEL := zh hel;obtain ⟨R, hR⟩ : ∃ R, (l.all Zcj && decide ((l.length : Int) ≤ most)) = R := ⟨_, rfl⟩;rw [hR];have HR := zh hR
 skip
 clear hR hel;go_enter Tryz.func97, Tryz.ntmps97;go_wp2_with fail
 go_loopw [5] (fun i wr => ∃ j : Nat, i = .int .i64 j ∧ j ≤ l.length ∧ Hd (∀ k (h : k < l.length), k < j → Zcj l[k] = true) ∧ Below w.heap.size w wr) (fun i _ => l.length - (intOf i).toNat)
 case atStart => exact ⟨0, rfl, Nat.zero_le _, zh (fun k _ h => by omega), Below.refl _ _⟩
 case round =>
  obtain ⟨j, rfl, hj, HD, hbel⟩ := hrel;have hsz := hbel.size
  by_cases hlt : j < l.length
  ·obtain ⟨b, o, cs, rfl, hF, hbl, hE, hcell⟩ := HEL.o j hlt;obtain ⟨rfl, hsm⟩ := hE;have t1 : decide ((j : Int) < l.length) = true := decide_eq_true (by omega);have hlt' : (j : Int) < l.length := by omega
   have e0 := (hbel.cell (p := ⟨b, o + j * 1 + 0, none⟩) hbl).trans (hcell 0 _ rfl);simp only [Nat.mul_one, Nat.add_zero] at e0;obtain ⟨s, hs⟩ : ∃ s, l[j] = s := ⟨_, rfl⟩;rw [hs] at e0 hsm;have HN := zh (Zgp s wr hsm);have HD2 := zh (fun (h : Zcj s = true) => show ∀ k (h : k < l.length), k < j + 1 → Zcj l[k] = true from fun k hk h1 => by
    rcases Nat.lt_or_ge k j with h2 | h2
    ·exact HD.o k hk h2
    ·obtain rfl : k = j := by omega
     rw [hs]; exact h)
   have HNO := zh (fun (h : Zcj s = false) => Zmj hlt (by rw [hs]; exact h));clear hcell hsm hs;go_wp2_with fail;refine HN.o.mono ?_;rintro e w1 ⟨rfl, hb1⟩;have hbel1 := hbel.trans (Below.mono hb1 hsz);clear e0 hb1
   by_cases hn : Zcj s = true
   ·have HD3 := zh (HD2.o hn);rw [hn];clear HD2 HNO HN hn;go_wp2_with fail
    go_roundw
    case rel => exact ⟨j + 1, by go_num, by omega, HD3, hbel1⟩
    case measure => simp [intOf]; omega
   ·have hn2 : Zcj s = false := by simpa using hn
    have hR0 : R = false := by rw [← HR.o, HNO.o hn2]; rfl
    rw [hn2];subst hR0;clear hn hn2 HNO HD2 HN;go_wp2_with fail;go_ret;exact ⟨rfl, hbel1⟩
  ·have t1 : decide ((j : Int) < l.length) = false := decide_eq_false (by omega);have hR0 : R = decide ((l.length : Int) ≤ most) := by rw [← HR.o, Zk6 (fun k hk => HD.o k hk (by omega)), Bool.true_and]
   subst hR0;go_wp2_with fail;go_ret;exact ⟨rfl, hbel⟩
theorem Zmk (l : List ByteArray) (v : Value) (F : Nat → Prop) (w : World) (hr : Zu Zbp 1 F w l v) : Calls Tryz.prog 99 #[v] w fun e w' => e = .returned (.bool (twB l)) ∧ w' = w := by
 have HROW := zh hr;obtain ⟨A, c, rfl, hc, hcm, hel⟩ := hr;unfold maxLen at hcm;have HEL := zh hel;obtain ⟨R, hR⟩ : ∃ R, twB l = R := ⟨_, rfl⟩;rw [hR];have HR := zh hR;clear hR hel;go_enter Tryz.func99, Tryz.ntmps99;go_wp2_with fail
 go_loopw [3] (fun i wr => ∃ j : Nat, i = .int .i64 j ∧ j ≤ l.length ∧ Hd (∀ k (h : k < l.length), k < j → Zec (l.take k) l[k] = false) ∧ wr = w) (fun i _ => l.length - (intOf i).toNat)
 case atStart => exact ⟨0, rfl, Nat.zero_le _, zh (fun k _ h => by omega), rfl⟩
 case round =>
  obtain ⟨j, rfl, hj, HD, hw⟩ := hrel;obtain rfl : w = wr := hw.symm
  by_cases hlt : j < l.length
  ·obtain ⟨b, o, cs, rfl, hF, hbl, hE, hcell⟩ := HEL.o j hlt;obtain ⟨rfl, hsm⟩ := hE;have t1 : decide ((j : Int) < l.length) = true := decide_eq_true (by omega);have hlt' : (j : Int) < l.length := by omega
   have e0 := hcell 0 _ rfl;simp only [Nat.mul_one, Nat.add_zero] at e0;have hff := Zqx hlt;have HYES := zh (fun h => Zpc hlt h);have HD2 := zh (fun (h : Zec (l.take j) l[j] = false) => show ∀ k (h : k < l.length), k < j + 1 → Zec (l.take k) l[k] = false from fun k hk h1 => by
    rcases Nat.lt_or_ge k j with h2 | h2
    ·exact HD.o k hk h2
    ·obtain rfl : k = j := by omega
     exact h)
   obtain ⟨s, hs⟩ : ∃ s, l[j] = s := ⟨_, rfl⟩;rw [hs] at e0 hff HYES HD2;have HN := zh (Zn9 l _ s F w HROW.o);obtain ⟨z, hz⟩ : ∃ z, Zfw l s = z := ⟨_, rfl⟩;rw [hz] at HN hff;clear hcell hsm hs hz;go_wp2_with fail;refine HN.o.mono ?_;rintro e w1 ⟨rfl, hw1⟩;obtain rfl := hw1.symm;clear e0
   by_cases hn : Zec (l.take j) s = true
   ·have hR0 : R = true := by rw [← HR.o, HYES.o hn]
    rw [hn] at hff;subst hR0;clear hn HYES HD2 HN;go_wp2_with fail;go_ret;exact ⟨rfl, rfl⟩
   ·have hn2 : Zec (l.take j) s = false := by simpa using hn
    have HD3 := zh (HD2.o hn2);rw [hn2] at hff;clear hn hn2 HYES HD2 HN;go_wp2_with fail
    go_roundw
    case rel => exact ⟨j + 1, by go_num, by omega, HD3, trivial⟩
    case measure => simp [intOf]; omega
  ·have t1 : decide ((j : Int) < l.length) = false := decide_eq_false (by omega);have hR0 : R = false := by rw [← HR.o, Zqz (fun k hk => HD.o k hk (by omega))]
   subst hR0;go_wp2_with fail;go_ret;exact ⟨rfl, rfl⟩
theorem Zlm (l : List ByteArray) (v : Value) (F : Nat → Prop) (w : World) (hr : Zu Zbp 1 F w l v) : Calls Tryz.prog 105 #[v] w fun e w' => e = .returned (.bool (twB l)) ∧ Below w.heap.size w w' := by
 have HROW := zh hr;obtain ⟨A, c, rfl, hc, hcm, hel⟩ := hr;unfold maxLen at hcm;have HEL := zh hel;obtain ⟨R, hR⟩ : ∃ R, twB l = R := ⟨_, rfl⟩;rw [hR];have HR := zh hR;clear hR hel;go_enter Tryz.func105, Tryz.ntmps105;go_wp2_with fail
 go_loopw [6] (fun i wr => ∃ j : Nat, i = .int .i64 j ∧ j ≤ l.length ∧ Hd (∀ k (h : k < l.length), k < j → Zec (l.take k) l[k] = false) ∧ Below w.heap.size w wr) (fun i _ => l.length - (intOf i).toNat)
 case atStart => exact ⟨0, rfl, Nat.zero_le _, zh (fun k _ h => by omega), Below.refl _ _⟩
 case round =>
  obtain ⟨j, rfl, hj, HD, hbel⟩ := hrel;have hsz := hbel.size
  by_cases hlt : j < l.length
  ·obtain ⟨b, o, cs, rfl, hF, hbl, hE, hcell⟩ := HEL.o j hlt;obtain ⟨rfl, hsm⟩ := hE;have t1 : decide ((j : Int) < l.length) = true := decide_eq_true (by omega);have hlt' : (j : Int) < l.length := by omega
   have e0 := (hbel.cell (p := ⟨b, o + j * 1 + 0, none⟩) hbl).trans (hcell 0 _ rfl);simp only [Nat.mul_one, Nat.add_zero] at e0;have HYES := zh (fun h => Zpc hlt h);have HD2 := zh (fun (h : Zec (l.take j) l[j] = false) => show ∀ k (h : k < l.length), k < j + 1 → Zec (l.take k) l[k] = false from fun k hk h1 => by
    rcases Nat.lt_or_ge k j with h2 | h2
    ·exact HD.o k hk h2
    ·obtain rfl : k = j := by omega
     exact h)
   obtain ⟨s, hs⟩ : ∃ s, l[j] = s := ⟨_, rfl⟩;rw [hs] at e0 HYES HD2;have hbr : b < wr.heap.size := Nat.lt_of_lt_of_le hbl hsz;have hjc : j ≤ c := by omega
   have hjc' : (j : Int) ≤ c := by omega
   have HTK := zh (Zu.take hj (HROW.o.later Z4 hbel));clear hcell hsm hs;go_upto_region 4 with (fail);refine Zbd [7] [] (by kernel_rfl) (fun W hW => ?_);have hWL : Za wr W := by rw [hW]; exact (Za.refl _).drew
   have eW := (hWL.cell ⟨b, o + j, none⟩ hbr).trans e0;have hbW : b < W.heap.size := Nat.lt_of_lt_of_le hbr hWL.size;clear hW;refine Zdz 0 (some 9) (v := ?_) rfl rfl (by kernel_rfl) (fun _ _ _ h => h) rfl (fun x hx => ?_) ?_;rotate_left
   ·go_simp;first|done|with_reducible rfl|rw[if_neg (by omega)]|rw[if_pos (by omega)]
   simp only [Act.put, nA, nB, nC];refine Zdz 1 (some 10) (v := ?_) rfl rfl (by kernel_rfl) (fun _ _ _ h => h) rfl (fun x hx => ?_) ?_;rotate_left
   ·go_simp;first|done|with_reducible rfl|rw[if_neg (by omega)]|rw[if_pos (by omega)]
   simp only [Act.put, nA, nB, nC];refine Zdz 2 (some 11) (v := ?_) rfl rfl (by kernel_rfl) (fun _ _ _ h => h) rfl (fun x hx => ?_) ?_;rotate_left
   ·go_simp;first|done|with_reducible rfl|rw[if_neg (by omega)]|rw[if_pos (by omega)]
   simp only [Act.put, nA, nB, nC];refine Zdz 3 (some 12) (v := ?_) rfl rfl (by kernel_rfl) (fun _ _ _ h => h) rfl (fun x hx => ?_) ?_;rotate_left
   ·go_simp;first|done|with_reducible rfl|rw[if_neg (by omega)]|rw[if_pos (by omega)]
   simp only [Act.put, nA, nB, nC];refine Zdz 4 (some 13) (v := ?_) rfl rfl (by kernel_rfl) (fun _ _ _ h => h) rfl (fun x hx => ?_) ?_;rotate_left
   ·go_simp;first|done|with_reducible rfl|rw[if_neg (by omega)]|rw[if_pos (by omega)]
   simp only [Act.put, nA, nB, nC];refine Zdz 5 (some 14) (v := ?_) rfl rfl (by kernel_rfl) (fun _ _ _ h => h) rfl (fun x hx => ?_) ?_;rotate_left
   ·go_simp;first|done|with_reducible rfl|rw[if_neg (by omega)]|rw[if_pos (by omega)]
   simp only [Act.put, nA, nB, nC];refine Zdz 6 (some 15) (v := ?_) rfl rfl (by kernel_rfl) (fun _ _ _ h => h) rfl (fun x hx => ?_) ?_;rotate_left
   ·have hx0 := (hx.cell ⟨b, o + j, none⟩ hbW).trans eW; go_simp;first|done|with_reducible rfl|rw[if_neg (by omega)]|rw[if_pos (by omega)]
   simp only [Act.put, nA, nB, nC];refine Zbl [_] (by kernel_rfl) rfl rfl ?_;simp only [List.getElem_toArray, List.getElem_cons_succ, List.getElem_cons_zero];have HN := zh (Zhz (l.take j) _ s F W (HTK.o.later Z4 hWL));have hbel1 := hbel.trans (Below.mono hWL hsz);clear e0 eW hWL hbW hbr;go_wp2_with fail;refine HN.o.mono ?_;rintro e w1 ⟨rfl, hw1⟩;obtain rfl := hw1.symm
   by_cases hn : Zec (l.take j) s = true
   ·have hR0 : R = true := by rw [← HR.o, HYES.o hn]
    rw [hn];subst hR0;clear hn HYES HD2 HN;go_wp2_with fail;go_ret;exact ⟨rfl, hbel1⟩
   ·have hn2 : Zec (l.take j) s = false := by simpa using hn
    have HD3 := zh (HD2.o hn2);rw [hn2];clear hn hn2 HYES HD2 HN;go_wp2_with fail
    go_roundw
    case rel => exact ⟨j + 1, by go_num, by omega, HD3, hbel1⟩
    case measure => simp [intOf]; omega
  ·have t1 : decide ((j : Int) < l.length) = false := decide_eq_false (by omega);have hR0 : R = false := by rw [← HR.o, Zqz (fun k hk => HD.o k hk (by omega))]
   subst hR0;go_wp2_with fail;go_ret;exact ⟨rfl, hbel⟩
def Ze9 (r : Zaw) : Bool := Zcj r.name && (decide (r.fields.length ≤ 6) && (r.fields.all Zcj && (!twB r.fields && decide (0 ≤ r.line))))
theorem Zfo {α : Type} {p : α → Bool} {l : List α} (h : ∀ k (hk : k < l.length), p l[k] = true) : l.all p = true := by
 rw [List.all_eq_true];intro x hx;obtain ⟨k, hk, rfl⟩ := List.getElem_of_mem hx;exact h k hk
theorem Zei {α : Type} {p : α → Bool} {l : List α} {j : Nat} (hj : j < l.length) (h : p l[j] = false) : l.all p = false := by
 rw [List.all_eq_false];exact ⟨_, List.getElem_mem hj, by rw [h]; decide⟩
theorem Zdm {α : Type} {p : α → Bool} {l : List α} {j : Nat} (h : ∀ k (hk : k < l.length), k < j → p l[k] = true) (hj : ∀ hk : j < l.length, p l[j] = true) : ∀ k (hk : k < l.length), k < j + 1 → p l[k] = true := fun k hk h1 => by
 rcases Nat.lt_or_ge k j with h2 | h2
 ·exact h k hk h2
 ·obtain rfl : k = j := by omega
  exact hj hk
theorem Zob {n : Nat} : decide (n ≤ 6) = !decide ((6 : Int) < (n : Int)) := by
 by_cases h : n ≤ 6
 ·rw [decide_eq_true h, decide_eq_false (by omega)]; rfl
 ·rw [decide_eq_false h, decide_eq_true (by omega)]; rfl
theorem Zml {n : Int} : decide (0 ≤ n) = !decide (n < 0) := by
 by_cases h : 0 ≤ n
 ·rw [decide_eq_true h, decide_eq_false (by omega)]; rfl
 ·rw [decide_eq_false h, decide_eq_true (by omega)]; rfl
theorem Zh4 {x : World} {b : Nat} {v0 v1 v2 : Value} {t : TypeId} (h : x.heap[b]? = some (.cells #[v0, v1, v2] t (0, 0))) : x.cell? ⟨b, 0, none⟩ = some v0 ∧ x.cell? ⟨b, 1, none⟩ = some v1 ∧ x.cell? ⟨b, 2, none⟩ = some v2 :=
 ⟨cell_of_row x b 0 _ _ _ h, cell_of_row x b 1 _ _ _ h, cell_of_row x b 2 _ _ _ h⟩
theorem Zit (l : List Zaw) (v : Value) (F : Nat → Prop) (w : World) (hr : Zu Zaz 3 F w l v) (ht : Spc w) : Calls Tryz.prog 48 #[v] w fun e w' => e = .returned (.bool (l.all Ze9 && decide (l.length ≤ 8))) ∧ Below w.heap.size w w' := by
 obtain ⟨A, c, rfl, hc, hcm, hel⟩ := hr;unfold maxLen at hcm;have HEL := zh hel;obtain ⟨R, hR⟩ : ∃ R, (l.all Ze9 && decide (l.length ≤ 8)) = R := ⟨_, rfl⟩;rw [hR];have HR := zh hR;have HT := zh ht;clear hR hel ht;go_enter Tryz.func48, Tryz.ntmps48;go_wp2_with fail
 go_loopw [7] (fun i wr => ∃ j : Nat, i = .int .i64 j ∧ j ≤ l.length ∧ Hd (∀ k (h : k < l.length), k < j → Ze9 l[k] = true) ∧ Below w.heap.size w wr) (fun i _ => l.length - (intOf i).toNat)
 case atStart => exact ⟨0, rfl, Nat.zero_le _, zh (fun k _ h => by omega), Below.refl _ _⟩
 case round =>
  obtain ⟨j, rfl, hj, HD, hbel⟩ := hrel;have hsz := hbel.size
  by_cases hlt : j < l.length
  ·obtain ⟨b, o, cs, rfl, hF, hbl, hE, hcell⟩ := HEL.o j hlt;have hE2 := Zak.keep (G := F) hE (fun _ h => h) (Zc.later hbel);obtain ⟨vf, rfl, hnm, hfl, hln⟩ := hE;obtain ⟨vf', e, hnm', hfl', hln'⟩ := hE2;simp only [List.cons.injEq, true_and, and_true] at e;subst e;obtain ⟨AF, cF, rfl, hfc, hfm, _⟩ := id hfl;unfold maxLen at hfm;have t1 : decide ((j : Int) < l.length) = true := decide_eq_true (by omega);have hlt' : (j : Int) < l.length := by omega
   have e0 := (hbel.cell (p := ⟨b, o + j * 3 + 0, none⟩) hbl).trans (hcell 0 _ rfl);have e1 := (hbel.cell (p := ⟨b, o + j * 3 + 1, none⟩) hbl).trans (hcell 1 _ rfl);have e2 := (hbel.cell (p := ⟨b, o + j * 3 + 2, none⟩) hbl).trans (hcell 2 _ rfl);simp only [Nat.add_zero] at e0;have HNO := zh (fun h => Zei (p := Ze9) hlt h);have HYES := zh (fun (h : Ze9 l[j] = true) => Zdm HD.o (fun _ => h));have HREC := zh (show ∀ r, l[j] = r → Ze9 r = (Zcj r.name && (decide (r.fields.length ≤ 6) && (r.fields.all Zcj && (!twB r.fields && decide (0 ≤ r.line))))) from fun _ _ => rfl);obtain ⟨r, hrj⟩ : ∃ r, l[j] = r := ⟨_, rfl⟩;have hrec := HREC.o r hrj;rw [hrj] at e0 e1 e2 HNO HYES hnm hfl' hfc;clear hcell hnm' hfl hln hln' hrj HREC hfm;have hx := hbel.alloc hsz (.cells #[.string r.name, .slice AF r.fields.length cF, .int .i64 r.line] 136);have hD := heap_alloc_new wr (.cells #[.string r.name, .slice AF r.fields.length cF, .int .i64 r.line] 136);obtain ⟨x, hxw⟩ : ∃ x, x = wr.alloc (.cells #[.string r.name, .slice AF r.fields.length cF, .int .i64 r.line] 136) := ⟨_, rfl⟩;rw [← hxw] at hx hD;have HX := zh hx;have HDB := zh hD;have HFL := zh (hfl'.later Z4 (show Za wr x by rw [hxw]; exact (Za.refl _).alloc _));have HN := zh (Zgo r.name x hnm (HT.o.below hx));obtain ⟨D, hDD⟩ : ∃ D, wr.heap.size = D := ⟨_, rfl⟩;rw [hDD] at HDB;obtain ⟨n0, hn0⟩ : ∃ q : Bool, Zcj r.name = q := ⟨_, rfl⟩;obtain ⟨n1, hn1⟩ : ∃ q : Bool, decide ((6 : Int) < (r.fields.length : Int)) = q := ⟨_, rfl⟩
   obtain ⟨n2, hn2⟩ : ∃ q : Bool, r.fields.all Zcj = q := ⟨_, rfl⟩;obtain ⟨n3, hn3⟩ : ∃ q : Bool, twB r.fields = q := ⟨_, rfl⟩;obtain ⟨n4, hn4⟩ : ∃ q : Bool, decide (r.line < 0) = q := ⟨_, rfl⟩;rw [hn0, hn2, hn3, show decide (r.fields.length ≤ 6) = !n1 by rw [← hn1]; exact Zob, show decide (0 ≤ r.line) = !n4 by rw [← hn4]; exact Zml] at hrec;rw [hn0] at HN;have HREC := zh hrec;clear hx hD hnm hfl' hrec;go_upto_region 4 with (fail);rw [← hxw]
   try rw [hDD]
   clear e0 e1 e2 hxw hDD;obtain ⟨d0, d1, d2⟩ := Zh4 HDB.o;go_wp2_with fail;refine HN.o.mono ?_;rintro e x1 ⟨rfl, hb1⟩;have HX1 := zh (HX.o.trans (Below.mono hb1 HX.o.size));have HD1 := zC hb1 HDB;have HF1 := zh (HFL.o.later Z4 hb1);clear hb1 d0 d1 d2;obtain ⟨d0, d1, d2⟩ := Zh4 HD1.o
   cases n0
   ·have hR0 : R = false := by rw [← HR.o, HNO.o (by rw [HREC.o]; rfl)]; rfl
    subst hR0;go_wp2_with fail;go_ret;exact ⟨rfl, HX1.o⟩
   cases n1
   rotate_left
   ·have hR0 : R = false := by rw [← HR.o, HNO.o (by rw [HREC.o]; rfl)]; rfl
    subst hR0;go_wp2_with fail;go_ret;exact ⟨rfl, HX1.o⟩
   have HA := zh (Zh3 r.fields _ F x1 HF1.o (HT.o.below HX1.o));rw [hn2] at HA;go_wp2_with fail;refine HA.o.mono ?_;rintro e x2 ⟨rfl, hb2⟩;have HX2 := zh (HX1.o.trans (Below.mono hb2 HX1.o.size));have HD2 := zC hb2 HD1;have HF2 := zh (HF1.o.later Z4 hb2);clear hb2 d0 d1 d2 HA;obtain ⟨d0, d1, d2⟩ := Zh4 HD2.o
   cases n2
   ·have hR0 : R = false := by rw [← HR.o, HNO.o (by rw [HREC.o]; rfl)]; rfl
    subst hR0;go_wp2_with fail;go_ret;exact ⟨rfl, HX2.o⟩
   have HA := zh (Zlm r.fields _ F x2 HF2.o);rw [hn3] at HA;go_wp2_with fail;refine HA.o.mono ?_;rintro e x3 ⟨rfl, hb3⟩;have HX3 := zh (HX2.o.trans (Below.mono hb3 HX2.o.size));have HD3 := zC hb3 HD2;clear hb3 d0 d1 d2 HA;obtain ⟨d0, d1, d2⟩ := Zh4 HD3.o
   cases n3
   rotate_left
   ·have hR0 : R = false := by rw [← HR.o, HNO.o (by rw [HREC.o]; rfl)]; rfl
    subst hR0;go_wp2_with fail;go_ret;exact ⟨rfl, HX3.o⟩
   cases n4
   rotate_left
   ·have hR0 : R = false := by rw [← HR.o, HNO.o (by rw [HREC.o]; rfl)]; rfl
    subst hR0;go_wp2_with fail;go_ret;exact ⟨rfl, HX3.o⟩
   have HD4 := zh (HYES.o (by rw [HREC.o]; rfl));have hbel3 := HX3.o;go_wp2_with fail
   go_roundw
   case rel => exact ⟨j + 1, by go_num, by omega, HD4, hbel3⟩
   case measure => simp [intOf]; omega
  ·have t1 : decide ((j : Int) < l.length) = false := decide_eq_false (by omega);have hR0 : R = decide ((l.length : Int) ≤ 8) := by rw [← HR.o, Zfo (fun k hk => HD.o k hk (by omega)), Bool.true_and]; exact decide_eq_decide.2 (by omega)
   subst hR0;go_wp2_with fail;go_ret;exact ⟨rfl, hbel⟩
/-- Equal values. -/
def eqV (a b : Zj) : Bool := a.kind == b.kind && (a.aH == b.aH && (a.index == b.index && (a.text.toList == b.text.toList && (a.set_.low == b.set_.low && a.set_.high == b.set_.high))))
theorem Zg4 {a b : Zj} : eqV a b = true ↔ a = b := by
 obtain ⟨k, n, i, t, l, h⟩ := a;obtain ⟨k', n', i', t', l', h'⟩ := b;simp only [eqV, Bool.and_eq_true, beq_iff_eq, Zj.mk.injEq, Zi6.mk.injEq]
 constructor
 ·rintro ⟨rfl, rfl, rfl, ht, rfl, rfl⟩;exact ⟨rfl, rfl, rfl, Zhx ht, rfl, rfl⟩
 ·rintro ⟨rfl, rfl, rfl, rfl, rfl, rfl⟩;exact ⟨rfl, rfl, rfl, rfl, rfl, rfl⟩
theorem Zh5 (a : Zj) : eqV a a = true := Zg4.2 rfl
/-- The first place of a value in a row, or the row's length. -/
def Zkq : List Zj → Zj → Nat
 | [], _ => 0
 | a :: l, v => if eqV a v = true then 0 else Zkq l v + 1
def Zfx (l : List Zj) (v : Zj) : Bool := l.any fun a => eqV a v
theorem Zsp : ∀ (l : List Zj) (v : Zj), Zkq l v ≤ l.length
 | [], _ => Nat.le_refl _
 | a :: l, v => by
  unfold Zkq
  split
  ·omega
  ·have := Zsp l v; simp; omega
theorem Zsq : ∀ {l : List Zj} {v : Zj}, Zfx l v = true ↔ Zkq l v < l.length
 | [], v => by simp [Zfx, Zkq]
 | a :: l, v => by
  have := @Zsq l v;unfold Zfx at this ⊢;rw [List.any_cons];unfold Zkq
  cases h : eqV a v with
  | true => simp
  | false => simpa using this
theorem Zj7 {l : List Zj} {v : Zj} : Zfx l v = true ↔ v ∈ l := by
 unfold Zfx;rw [List.any_eq_true];exact ⟨fun ⟨a, h1, h2⟩ => by rw [Zg4] at h2; exact h2 ▸ h1, fun h => ⟨v, h, Zh5 v⟩⟩
theorem Zsr {l : List Zj} {v : Zj} {j : Nat} (h : j < l.length) (he : eqV l[j] v = true) : Zfx l v = true := Zj7.2 (by rw [Zg4] at he; rw [← he]; exact List.getElem_mem h)
theorem Zpd {l : List Zj} {v : Zj} (h : ∀ k (hk : k < l.length), eqV l[k] v = false) : Zfx l v = false := by
 rw [← Bool.not_eq_true, Zj7];intro hm;obtain ⟨k, hk, rfl⟩ := List.getElem_of_mem hm;have := h k hk;rw [Zh5] at this
 cases this
theorem Zpe : ∀ {l : List Zj} {v : Zj} {j : Nat} (h : j < l.length), eqV l[j] v = true → (∀ k (hk : k < l.length), k < j → eqV l[k] v = false) → Zkq l v = j
 | a :: l, v, 0, _, he, _ => by
  unfold Zkq;rw [if_pos (by simpa using he)]
 | a :: l, v, j + 1, h, he, hn => by
  unfold Zkq;have h0 := hn 0 (by simp) (by omega);simp only [List.getElem_cons_zero] at h0;rw [h0];simp only [Bool.false_eq_true, if_false];rw [Zpe (j := j) (by simpa using h) (by simpa using he) (fun k hk hj => hn (k + 1) (Nat.succ_lt_succ hk) (Nat.succ_lt_succ hj))]
/-- The place, or -1. -/
def Zh6 (l : List Zj) (v : Zj) : Int := if Zfx l v = true then (Zkq l v : Int) else -1
theorem Zq0 {l : List Zj} {v : Zj} {j : Nat} (h : j < l.length) (he : eqV l[j] v = true) (hn : ∀ k (hk : k < l.length), k < j → eqV l[k] v = false) : Zh6 l v = j := by
 unfold Zh6;rw [if_pos (Zsr h he), Zpe h he hn]
theorem Zq1 {l : List Zj} {v : Zj} (h : ∀ k (hk : k < l.length), eqV l[k] v = false) : Zh6 l v = -1 := by
 unfold Zh6;rw [Zpd h]
 rfl
/-- No value twice. -/
def Zca (l : List Zj) : Bool := (List.range l.length).all fun i => match l[i]? with | some v => !Zfx (l.take i) v | none => true
theorem Zhj {l : List Zj} (h : ∀ k (hk : k < l.length), Zfx (l.take k) l[k] = false) : Zca l = true := by
 unfold Zca;rw [List.all_eq_true];intro i hi;rw [List.mem_range] at hi;rw [List.getElem?_eq_getElem hi];simp [h i hi]
theorem Zh7 {l : List Zj} {j : Nat} (hj : j < l.length) (h : Zfx (l.take j) l[j] = true) : Zca l = false := by
 unfold Zca;rw [List.all_eq_false];refine ⟨j, List.mem_range.2 hj, ?_⟩;rw [List.getElem?_eq_getElem hj];simp [h]
/-- What the aJ of a pattern object are: 13 a variable. -/
def Zbe (op : Int) : List Int :=
 if op = 1 then [2] else if 2 ≤ op ∧ op ≤ 6 then [1] else if 7 ≤ op ∧ op ≤ 10 then [3] else if op = 13 then [12] else if op = 18 ∨ op = 20 then [13] else if op = 14 ∨ op = 15 then [12, 12] else if op = 16 ∨ op = 17 then [12, 13] else []
def Zaa (r : Zh) (k : Int) (v : Zj) : Bool := (if k = 13 then v.kind == 13 || v.kind == 14 else v.kind == k) && Zz r v
def Zi (r : Zh) : List Int → List Zj → Bool
 | [], [] => true
 | k :: ks, v :: vs => Zaa r k v && Zi r ks vs
 | _, _ => false
def Zan (r : Zh) (op : Int) (l : List Zj) : Bool := decide (1 ≤ op) && (decide (op ≤ 23) && Zi r (Zbe op) l)
def Zbi (r : Zh) (l : List Zj) : Bool := l.all (Zb5 r)
/-- The aJ and aK of an object fit its kind. -/
def Za1 (r : Zh) (o : Zay) : Bool :=
 if o.kind = 1 then decide (o.aJ.length ≤ 24) && Zbi r o.aJ
 else if o.kind = 2 then decide (o.aJ.length ≤ 40) && Zbi r o.aJ
 else if o.kind = 3 then decide (o.aK.length ≤ 40) && (decide (o.aJ.length = o.aK.length + 1) && (Zbi r o.aJ && (Zbi r o.aK && Zca o.aK)))
 else if o.kind = 4 then decide (o.aK.length ≤ 40) && (decide (o.aJ.length = 0) && (Zbi r o.aK && Zca o.aK))
 else if o.kind = 5 then decide (0 ≤ o.tag) && (match r.aB[o.tag.toNat]? with | some t => decide (o.aJ.length = t.fields.length) && Zbi r o.aJ | none => false)
 else if o.kind = 6 then decide (1 ≤ o.tag) && (match o.aJ with | [a, b, c] => a.kind == 19 && (Zz r a && (b.kind == 19 && (Zz r b && (c.kind == 1 && (Zz r c && decide (0 ≤ c.aH)))))) | _ => false)
 else if o.kind = 7 then Zan r o.tag o.aJ
 else if o.kind = 8 then (match o.aJ with | [a, b] => a.kind == 5 && (Zb5 r a && Zb5 r b) | _ => false)
 else if o.kind = 9 then (match o.aJ with | [a, b] => a.kind == 2 && (b.kind == 1 && (Zb5 r a && (Zb5 r b && (decide (1 ≤ b.aH) && decide (b.aH ≤ (a.text.size : Int) + 1))))) | _ => false)
 else false
def Za5 (r : Zh) (o : Zay) : Bool :=
 (if 2 ≤ o.kind ∧ o.kind ≤ 7 then decide (1 ≤ o.aI) && decide (o.aI ≤ r.made) else o.aI == 0) &&
 ((if o.kind = 5 ∨ o.kind = 6 ∨ o.kind = 7 then true else o.tag == 0) && ((if o.kind = 3 ∨ o.kind = 4 then true else decide (o.aK.length = 0)) && Za1 r o))
/-- No aI aH twice. -/
def Zd0 (l : List Zay) : Bool := (List.range l.length).all fun i => match l[i]? with | some o => o.aI == 0 || !((l.take i).any fun p => p.aI == o.aI) | none => true
theorem Zh8 {l : List Zay} (h : ∀ k (hk : k < l.length), l[k].aI = 0 ∨ ∀ i (hi : i < l.length), i < k → l[i].aI ≠ l[k].aI) : Zd0 l = true := by
 unfold Zd0;rw [List.all_eq_true];intro i hi;rw [List.mem_range] at hi;rw [List.getElem?_eq_getElem hi];simp only [Bool.or_eq_true, beq_iff_eq, Bool.not_eq_true', List.any_eq_false]
 rcases h i hi with h1 | h1
 ·exact .inl h1
 ·refine .inr fun p hp => ?_;obtain ⟨k, hk, rfl⟩ := List.getElem_of_mem hp;rw [List.length_take] at hk;rw [List.getElem_take];exact h1 k (by omega) (by omega)
theorem Zi9 {l : List Zay} {j i : Nat} (hj : j < l.length) (h0 : l[j].aI ≠ 0) (hi : i < j) (h : l[i].aI = l[j].aI) : Zd0 l = false := by
 unfold Zd0;rw [List.all_eq_false];refine ⟨j, List.mem_range.2 hj, ?_⟩;rw [List.getElem?_eq_getElem hj];simp only [Bool.or_eq_true, beq_iff_eq, Bool.not_eq_true', List.any_eq_false, not_or];refine ⟨h0, fun hn => ?_⟩;exact hn l[i] (List.mem_take_iff_getElem.2 ⟨i, by omega, rfl⟩) h
def Zdl (r : Zh) (a : Zdd) : Bool := decide (0 ≤ a.routine) && (decide (a.routine < (r.names.length : Int)) && Zb9 r a.frame 1)
def Zgq (s : ByteArray) : Bool := decide (s.size ≤ 120)
/-- A valid Store. -/
def Zdh (r : Zh) : Bool :=
 decide (r.names.length ≤ 12) && (r.names.all Zcj && (decide (r.aB.length ≤ 8) && (r.aB.all Ze9 && (decide (r.globals.length ≤ 12) && (decide (r.aC.size ≤ 120) && (decide (1 ≤ r.aD) && (decide (r.aD ≤ (r.aC.size : Int) + 1) &&
 (decide (r.aE.length ≤ 40) && (r.aE.all (Zdl r) && (r.output.all Zgq && (decide (0 ≤ r.aG) && (decide (r.aG ≤ 4000) && (decide (0 ≤ r.ticks) && (decide (r.ticks ≤ r.aG) && (decide (0 ≤ r.made) && (Zbi r r.globals &&
 (r.aA.all (Za5 r) && Zd0 r.aA)))))))))))))))))
/-- The six cells of a value. -/
structure VAt (w : World) (b o : Nat) (v : Zj) : Prop where
 c0 : w.cell? ⟨b, o, none⟩ = some (.int .i64 v.kind)
 c1 : w.cell? ⟨b, o + 1, none⟩ = some (.int .i64 v.aH)
 c2 : w.cell? ⟨b, o + 2, none⟩ = some (.int .i64 v.index)
 c3 : w.cell? ⟨b, o + 3, none⟩ = some (.string v.text)
 c4 : w.cell? ⟨b, o + 4, none⟩ = some (.int .i64 v.set_.low)
 c5 : w.cell? ⟨b, o + 5, none⟩ = some (.int .i64 v.set_.high)
theorem Zg5 {w : World} {b o : Nat} {v : Value} (h : w.cell? ⟨b, o, none⟩ = some v) : b < w.heap.size := by
 unfold World.cell? at h
 rcases hh : w.heap[b]? with _ | o
 ·simp [hh] at h
 ·exact (Array.getElem?_eq_some_iff.1 hh).1
theorem VAt.later {w x : World} {b o : Nat} {v : Zj} (h : VAt w b o v) (hl : Za w x) : VAt x b o v :=
 ⟨(hl.cell _ (Zg5 h.c0)).trans h.c0, (hl.cell _ (Zg5 h.c0)).trans h.c1, (hl.cell _ (Zg5 h.c0)).trans h.c2, (hl.cell _ (Zg5 h.c0)).trans h.c3, (hl.cell _ (Zg5 h.c0)).trans h.c4, (hl.cell _ (Zg5 h.c0)).trans h.c5⟩
theorem Zmm (a b : Zj) : eqV a b = eqV b a := by
 cases h : eqV b a with
 | true => rw [Zg4] at h; rw [h]; exact Zh5 _
 | false =>
  cases h2 : eqV a b with
  | false => rfl
  | true => rw [Zg4] at h2; rw [h2, Zh5] at h; cases h
theorem Zmn {β : Type} (a b : Zj) (f : Bool → β) :
  (if a.kind = b.kind then if a.aH = b.aH then if a.index = b.index then if a.text.toList = b.text.toList then if a.set_.low = b.set_.low then if a.set_.high = b.set_.high then f true else f false else f false else f false else f false else f false else f false) = f (eqV a b) := by
 have ht : eqV a b = true ↔ (a.kind = b.kind ∧ a.aH = b.aH ∧ a.index = b.index ∧ a.text.toList = b.text.toList ∧ a.set_.low = b.set_.low ∧ a.set_.high = b.set_.high) := by simp only [eqV, Bool.and_eq_true, beq_iff_eq]
 cases h : eqV a b with
 | true =>
  obtain ⟨h1, h2, h3, h4, h5, h6⟩ := ht.1 h;rw [if_pos h1, if_pos h2, if_pos h3, if_pos h4, if_pos h5, if_pos h6]
 | false =>
  have hn := mt ht.2 (by rw [h]; decide)
  split
  ·split
   ·split
    ·split
     ·split
      ·split
       ·exact absurd ⟨by assumption, by assumption, by assumption, by assumption, by assumption, by assumption⟩ hn
       ·rfl
      ·rfl
     ·rfl
    ·rfl
   ·rfl
  ·rfl
/-- A row of values, thing by thing. -/
theorem Zu.vat {F : Nat → Prop} {w : World} {l : List Zj} {A : Option Addr} {n c : Nat} (h : Zu Ze 6 F w l (.slice A n c)) {j : Nat} (hj : j < l.length) :
  ∃ b o, A = some ⟨b, o, none⟩ ∧ b < w.heap.size ∧ VAt w b (o + j * 6) l[j] ∧ Ze F w l[j] [.int .i64 l[j].kind, .int .i64 l[j].aH, .int .i64 l[j].index, .string l[j].text, .int .i64 l[j].set_.low, .int .i64 l[j].set_.high] := by
 obtain ⟨A', c', e, _, _, hel⟩ := h;cases e;obtain ⟨b, o, cs, rfl, _, hb, hE, hc⟩ := hel j hj;have hE0 := hE;obtain ⟨rfl, _⟩ := hE;exact ⟨b, o, rfl, hb, ⟨hc 0 _ rfl, hc 1 _ rfl, hc 2 _ rfl, hc 3 _ rfl, hc 4 _ rfl, hc 5 _ rfl⟩, hE0⟩
/-- A value that was just laid. -/
theorem VAt.new (w : World) (v : Zj) : VAt (w.alloc (.cells #[.int .i64 v.kind, .int .i64 v.aH, .int .i64 v.index, .string v.text, .int .i64 v.set_.low, .int .i64 v.set_.high] 34)) w.heap.size 0 v := by
 have h := heap_alloc_new w (.cells #[.int .i64 v.kind, .int .i64 v.aH, .int .i64 v.index, .string v.text, .int .i64 v.set_.low, .int .i64 v.set_.high] 34);refine ⟨?_, ?_, ?_, ?_, ?_, ?_⟩ <;> rw [cell_of_row _ _ _ _ _ _ h] <;> rfl
theorem Zoc (l : List Zj) (v : Value) (y : Zj) (F : Nat → Prop) (w : World) (hr : Zu Ze 6 F w l v) :
  Calls Tryz.prog 158 #[v, .agg #[.int .i64 y.kind, .int .i64 y.aH, .int .i64 y.index, .string y.text, .int .i64 y.set_.low, .int .i64 y.set_.high]] w fun e w' => e = .returned (.int .i64 (Zh6 l y)) ∧ Za w w' := by
 obtain ⟨A, c, rfl, hc, hcm, _⟩ := id hr;unfold maxLen at hcm;have HR0 := zh hr;clear hr;obtain ⟨R, hR⟩ : ∃ R, Zh6 l y = R := ⟨_, rfl⟩;rw [hR];have HR := zh hR;clear hR;have HV := zh (VAt.new w y);have HL := zh ((Za.refl w).alloc (.cells #[.int .i64 y.kind, .int .i64 y.aH, .int .i64 y.index, .string y.text, .int .i64 y.set_.low, .int .i64 y.set_.high] 34));go_enter Tryz.func158, Tryz.ntmps158;go_wp2_with fail
 go_loopw [8] (fun i wr => ∃ j : Nat, i = .int .i64 j ∧ j ≤ l.length ∧ Hd (∀ k (h : k < l.length), k < j → eqV l[k] y = false) ∧ Hd (Za w wr) ∧ VAt wr w.heap.size 0 y) (fun i _ => l.length - (intOf i).toNat)
 case atStart => exact ⟨0, rfl, Nat.zero_le _, zh (fun k _ h => by omega), HL, HV.o⟩
 case round =>
  obtain ⟨j, rfl, hj, HD, HLW, hv⟩ := hrel
  by_cases hlt : j < l.length
  ·obtain ⟨b, o, rfl, hb, hat, _⟩ := (HR0.o.later Zb HLW.o).vat hlt;have t1 : decide ((j : Int) < l.length) = true := decide_eq_true (by omega);go_wp2_with fail;refine Zbd [] [] (by kernel_rfl) (fun W hW => ?_);have hWL : Za wr W := by rw [hW]; exact (Za.refl _).drew
   have HAT := zh (hat.later hWL);have HVW := zh (hv.later hWL);have HLW2 := zh (HLW.o.trans hWL);clear hW hWL hat hv;obtain ⟨p, hp⟩ : ∃ p, eqV l[j] y = p := ⟨_, rfl⟩;refine tU 0 11 (v := ?_) rfl rfl (fun x hx => ?_) ?_;rotate_left
   ·obtain ⟨c0, c1, c2, c3, c4, c5⟩ := HAT.o.later hx; obtain ⟨d0, d1, d2, d3, d4, d5⟩ := HVW.o.later hx; go_simp;first|done|with_reducible rfl
   simp only [Act.put, nA, nB, nC];refine tU 1 12 (v := ?_) rfl rfl (fun x hx => ?_) ?_;rotate_left
   ·go_simp;first|done|with_reducible rfl
   simp only [Act.put, nA, nB, nC];refine tU 2 13 (v := ?_) rfl rfl (fun x hx => ?_) ?_;rotate_left
   ·go_simp;first|done|with_reducible rfl
   simp only [Act.put, nA, nB, nC];refine tU 3 14 (v := ?_) rfl rfl (fun x hx => ?_) ?_;rotate_left
   ·go_simp;first|done|with_reducible rfl|rw[if_neg (by omega)]|rw[if_pos (by omega)]
   simp only [Act.put, nA, nB, nC];refine tU 4 15 (v := ?_) rfl rfl (fun x hx => ?_) ?_;rotate_left
   ·obtain ⟨c0, c1, c2, c3, c4, c5⟩ := HAT.o.later hx; obtain ⟨d0, d1, d2, d3, d4, d5⟩ := HVW.o.later hx; go_simp;first|done|with_reducible rfl
   simp only [Act.put, nA, nB, nC];refine tU 5 16 (v := ?_) rfl rfl (fun x hx => ?_) ?_;rotate_left
   ·go_simp; refine (Zmn y l[j] (fun q => Result.ok (Next.value (Value.bool q)) x)).trans ?_; rw [Zmm, hp];first|done|with_reducible rfl|rw[if_neg (by omega)]|rw[if_pos (by omega)]
   simp only [Act.put, nA, nB, nC];refine Zbl [] (by kernel_rfl) rfl rfl ?_;have HP := zh hp;clear hp
   cases p with
   | true =>
    have hR0 : R = (j : Int) := by rw [← HR.o, Zq0 hlt HP.o HD.o]
    subst hR0;go_wp2_with fail;go_ret;exact ⟨rfl, HLW2.o⟩
   | false =>
    have HD2 : Hd (∀ k (h : k < l.length), k < j + 1 → eqV l[k] y = false) := zh (fun k hk h => by
     rcases Nat.lt_or_ge k j with h1 | h1
     ·exact HD.o k hk h1
     ·obtain rfl : k = j := by omega
      exact HP.o)
    go_wp2_with fail
    go_roundw
    case rel => exact ⟨j + 1, by go_num, by omega, HD2, HLW2, HVW.o⟩
    case measure => simp [intOf]; omega
  ·have t1 : decide ((j : Int) < l.length) = false := decide_eq_false (by omega);have hR0 : R = -1 := by rw [← HR.o, Zq1 (fun k hk => HD.o k hk (by omega))]
   subst hR0;clear hv;go_wp2_with fail;go_ret;exact ⟨rfl, HLW.o⟩
/-- The Store r lies in the block B; what it reaches lies in F and shares nothing. -/
structure Zb3 (F : Nat → Prop) (w : World) (B : Nat) (r : Zh) (cs : List Value) : Prop where
 blk : w.heap[B]? = some (.cells cs.toArray 30 (0, 0))
 sp : Zcz F w r cs
 nB : ¬ F B
theorem Zb3.at_ {F : Nat → Prop} {w : World} {B : Nat} {r : Zh} {cs : List Value} (h : Zb3 F w B r cs) : Zai F w B r cs := ⟨h.blk, Zv.el h.sp⟩
theorem Zb3.lt {F : Nat → Prop} {w : World} {B : Nat} {r : Zh} {cs : List Value} (h : Zb3 F w B r cs) : B < w.heap.size := Zd h.blk
theorem Zb3.keep {F G : Nat → Prop} {w x : World} {B : Nat} {r : Zh} {cs : List Value} (h : Zb3 F w B r cs) (hFG : ∀ b, F b → G b) (hG : ¬ G B) (hk : Zc F w x) (hb : x.heap[B]? = w.heap[B]?) : Zb3 G x B r cs :=
 ⟨hb.trans h.blk, Zv.is.keep h.sp hFG hk, hG⟩
theorem Zb3.later {F : Nat → Prop} {w x : World} {B : Nat} {r : Zh} {cs : List Value} (h : Zb3 F w B r cs) (hl : Za w x) : Zb3 F x B r cs := h.keep (fun _ h => h) h.nB (Zc.later hl) (hl.block B h.lt)
theorem Zb3.trim {F : Nat → Prop} {w : World} {B : Nat} {r : Zh} {cs : List Value} (h : Zb3 F w B r cs) : Zb3 (fun b => F b ∧ b < w.heap.size) w B r cs := ⟨h.blk, Zv.trim h.sp, fun hb => h.nB hb.1⟩
def Zct (r : Zh) (o : Zay) : Zh := { r with aA := r.aA ++ [o] }
/-- What has been done to a Store of one's own. -/
structure Zbb (F : Nat → Prop) (w : World) (B : Nat) (w' : World) : Prop where
 keep : Zc (fun y => ¬ F y ∧ y ≠ B) w w'
 below : Below 0 w w'
theorem Zbb.refl (F : Nat → Prop) (w : World) (B : Nat) : Zbb F w B w := ⟨Zc.refl _ _, Below.refl _ _⟩
theorem Zbb.later {F : Nat → Prop} {w x : World} {B : Nat} (hl : Za w x) : Zbb F w B x := ⟨Zc.later hl, Below.mono hl (Nat.zero_le _)⟩
theorem Zbb.trans {F G : Nat → Prop} {w x y : World} {B : Nat} (h : Zbb F w B x) (k : Zbb G x B y) (hG : ∀ b, G b → b < w.heap.size → F b) : Zbb F w B y :=
 ⟨⟨Nat.le_trans h.keep.size k.keep.size, fun b hb hl => (k.keep.same b ⟨fun hg => hb.1 (hG b hg hl), hb.2⟩ (Nat.lt_of_lt_of_le hl h.keep.size)).trans (h.keep.same b hb hl)⟩, h.below.trans (Below.mono k.below (Nat.zero_le _))⟩
/-- All that is outside lies below: then nothing below has turned. -/
theorem Zbb.belowOf {F : Nat → Prop} {w x : World} {B n : Nat} (h : Zbb F w B x) (hF : ∀ b, F b → n ≤ b) (hB : n ≤ B) (hn : n ≤ w.heap.size) : Below n w x :=
 ⟨h.below.os, h.below.tape, h.below.output, h.below.size, fun k hk => h.keep.same k ⟨fun hf => by have := hF k hf; omega, by omega⟩ (by omega)⟩
/-- Two values in a row of their own. -/
theorem Zmo {w : World} {b : Nat} {x y : Zj} {G : Nat → Prop} (hb : w.heap[b]? = some (.cells #[.int .i64 x.kind, .int .i64 x.aH, .int .i64 x.index, .string x.text, .int .i64 x.set_.low, .int .i64 x.set_.high, .int .i64 y.kind, .int .i64 y.aH, .int .i64 y.index, .string y.text, .int .i64 y.set_.low, .int .i64 y.set_.high] 34 (0, 0))) (hG : G b) (hx : Ze G w x [.int .i64 x.kind, .int .i64 x.aH, .int .i64 x.index, .string x.text, .int .i64 x.set_.low, .int .i64 x.set_.high]) (hy : Ze G w y [.int .i64 y.kind, .int .i64 y.aH, .int .i64 y.index, .string y.text, .int .i64 y.set_.low, .int .i64 y.set_.high]) :
  Zbo Ze 6 34 G w [x, y] (.slice (some ⟨b, 0, none⟩) 2 2) := by
 refine ⟨_, 2, rfl, by simp, by unfold maxLen; omega, fun _ => ⟨b, 0, _, fun z => if z = b then 0 else 0, rfl, hG, hb, ⟨rfl, by simp⟩, fun i hi => ?_⟩⟩;simp only [List.length_cons, List.length_nil] at hi
 rcases (show i = 0 ∨ i = 1 by omega) with rfl | rfl
 ·refine ⟨[.int .i64 x.kind, .int .i64 x.aH, .int .i64 x.index, .string x.text, .int .i64 x.set_.low, .int .i64 x.set_.high], hx, ?_⟩;intro j z hj;have hlt := (List.getElem?_eq_some_iff.1 hj).1;simp only [List.length_cons, List.length_nil] at hlt
  rcases (show j = 0 ∨ j = 1 ∨ j = 2 ∨ j = 3 ∨ j = 4 ∨ j = 5 by omega) with rfl | rfl | rfl | rfl | rfl | rfl <;> exact hj
 ·refine ⟨[.int .i64 y.kind, .int .i64 y.aH, .int .i64 y.index, .string y.text, .int .i64 y.set_.low, .int .i64 y.set_.high], hy, ?_⟩;intro j z hj;have hlt := (List.getElem?_eq_some_iff.1 hj).1;simp only [List.length_cons, List.length_nil] at hlt
  rcases (show j = 0 ∨ j = 1 ∨ j = 2 ∨ j = 3 ∨ j = 4 ∨ j = 5 by omega) with rfl | rfl | rfl | rfl | rfl | rfl <;> exact hj
/-- The row of aA has grown by one, in the Store of one's own. -/
theorem Zmp {F G : Nat → Prop} {w X Y : World} {B : Nat} {r : Zh} {o : Zay} {tag : Nat → Nat} {aL aM aN aO aP aQ aR v2 : Value} (hFw : ∀ b, F b → b < w.heap.size)
  (hblk : w.heap[B]? = some (.cells #[aL, aM, aN, aO, .string r.aC, .int .i64 r.aD, aP, aQ, aR, .bool r.aF, .int .i64 r.ticks, .int .i64 r.aG, .int .i64 r.made] 30 (0, 0)))
  (aV : Zbo Zbp 1 9 (fun y => F y ∧ tag y = 0) w r.names aL) (aW : Zbo Za0 3 136 (fun y => F y ∧ tag y = 1) w r.aB aM) (aY : Zbo Ze 6 34 (fun y => F y ∧ tag y = 3) w r.globals aO) (bB : Zbo Zbp 1 9 (fun y => F y ∧ tag y = 4) w r.output aP) (bC : Zbo Zbp 1 9 (fun y => F y ∧ tag y = 5) w r.trace aQ) (bD : Zbo Zbf 2 89 (fun y => F y ∧ tag y = 6) w r.aE aR) (aZ : r.aC.size ≤ maxLen) (bA : Zac r.aD) (bE : Zac r.ticks) (bF : Zac r.aG) (bG : Zac r.made)
  (hFG : ∀ y, G y → ¬ F y) (hFB : ¬ F B) (hGB : ¬ G B) (hl : Za w X)
  (hrow : Zbo Zbx 5 94 (fun y => (F y ∧ tag y = 2) ∨ G y ∨ y = X.heap.size) Y (r.aA ++ [o]) v2) (hk : Zc (fun y => ¬ (F y ∧ tag y = 2)) X Y) (hb0 : Below 0 X Y) :
  Zb3 (fun y => F y ∨ G y ∨ w.heap.size ≤ y) (Y.setCell ⟨B, 2, none⟩ v2) B (Zct r o) [aL, aM, v2, aO, .string r.aC, .int .i64 r.aD, aP, aQ, aR, .bool r.aF, .int .i64 r.ticks, .int .i64 r.aG, .int .i64 r.made] ∧ Zbb F w B (Y.setCell ⟨B, 2, none⟩ v2) ∧ Below 0 w (Y.setCell ⟨B, 2, none⟩ v2) := by
 classical
 have hBw := Zd hblk;have hXs := hl.size;have hYB : Y.heap[B]? = some (.cells #[aL, aM, aN, aO, .string r.aC, .int .i64 r.aD, aP, aQ, aR, .bool r.aF, .int .i64 r.ticks, .int .i64 r.aG, .int .i64 r.made] 30 (0, 0)) := (hk.same B (fun h => hFB h.1) (by omega)).trans ((hl.block B hBw).trans hblk);have hkw : Zc (fun y => ¬ (F y ∧ tag y = 2) ∧ y ≠ B) w (Y.setCell ⟨B, 2, none⟩ v2) := (Zc.trans (Zc.later hl) (hk.mono fun y hy => hy.1)).set (fun h => h.2 rfl) 2 v2;have hkr : ∀ i, i ≠ 2 → Zc (fun y => F y ∧ tag y = i) w (Y.setCell ⟨B, 2, none⟩ v2) := fun i hi => hkw.mono fun y hy => ⟨fun h => hi (hy.2.symm.trans h.2), fun e => hFB (e ▸ hy.1)⟩;have htg : ∀ i y, i ≠ 2 → F y ∧ tag y = i → (F y ∨ G y ∨ w.heap.size ≤ y) ∧ (if G y ∨ y = X.heap.size then 2 else tag y) = i := fun i y hi hy => ⟨.inl hy.1, by
  rw [if_neg]
  ·exact hy.2
  ·rintro (h | h)
   ·exact hFG y h hy.1
   ·have := hFw y hy.1; omega⟩
 refine ⟨⟨?_, ⟨fun y => if G y ∨ y = X.heap.size then 2 else tag y, aL, aM, v2, aO, aP, aQ, aR, rfl, aV.keep Zg.is (fun y hy => htg 0 y (by decide) hy) (hkr 0 (by decide)), aW.keep Zf.is (fun y hy => htg 1 y (by decide) hy) (hkr 1 (by decide)), ?_, aY.keep Zn.is (fun y hy => htg 3 y (by decide) hy) (hkr 3 (by decide)), aZ, bA, bB.keep Zg.is (fun y hy => htg 4 y (by decide) hy) (hkr 4 (by decide)), bC.keep Zg.is (fun y hy => htg 5 y (by decide) hy) (hkr 5 (by decide)), bD.keep Zah.is (fun y hy => htg 6 y (by decide) hy) (hkr 6 (by decide)), bE, bF, bG⟩, ?_⟩, ⟨hkw.mono fun y hy => ⟨fun h => hy.1 h.1, hy.2⟩, ?_⟩, ?_⟩
 ·have := Zax (o := 2) hYB v2
  simpa using this
 ·refine hrow.keep Zq.is (fun y hy => ?_) ((Zc.refl _ _).set ?_ 2 v2)
  ·rcases hy with h | h | h
   ·refine ⟨.inl h.1, ?_⟩;show (if G y ∨ y = X.heap.size then 2 else tag y) = 2
    split
    ·rfl
    ·exact h.2
   ·exact ⟨.inr (.inl h), by show (if G y ∨ y = X.heap.size then 2 else tag y) = 2; rw [if_pos (.inl h)]⟩
   ·exact ⟨.inr (.inr (by omega)), by show (if G y ∨ y = X.heap.size then 2 else tag y) = 2; rw [if_pos (.inr h)]⟩
  ·rintro (h | h | h)
   ·exact hFB h.1
   ·exact hGB h
   ·omega
 ·rintro (h | h | h)
  ·exact hFB h
  ·exact hGB h
  ·omega
 ·exact ((Below.mono hl (Nat.zero_le _)).trans hb0).setCell (Nat.zero_le _) v2
 ·exact ((Below.mono hl (Nat.zero_le _)).trans hb0).setCell (Nat.zero_le _) v2
theorem Zhp {α : Type} : ∀ l : List α, Zaq (fun _ => 0) l = 0
 | [] => rfl
 | _ :: l => by simp [Zaq, Zhp l]
theorem Zej (l : List ByteArray) (v : Value) (F : Nat → Prop) (w : World) (k : Int) (hl0 : 0 ≤ k) (hl1 : k ≤ 1048576) (hr : Zu Zbp 1 F w l v) :
  Calls Tryz.prog 53 #[v, .int .i64 k] w fun e w' => e = .returned (.int .i64 (Zcy (Zk ByteArray.size l) k)) ∧ Below w.heap.size w w' := by
 obtain ⟨A, c, rfl, hc, hcm, hel⟩ := hr;unfold maxLen at hcm;have HEL := zh hel;clear hel;have hb1 : (l.length : Int) ≤ 9223372036854775807 := by omega
 by_cases h0 : k < (l.length : Int)
 ·have HL := zh (Zag (n := Zk ByteArray.size l) (l := k) (by unfold Zk; omega));have t1 : decide (k - (l.length : Int) < 0) = true := by simp; omega
  go_enter Tryz.func53, Tryz.ntmps53;go_wp2_with fail;go_ret;exact ⟨Zat HL.o.symm, Below.refl _ _⟩
 ·have t1 : decide (k - (l.length : Int) < 0) = false := by simp; omega
  go_enter Tryz.func53, Tryz.ntmps53;go_wp2_with fail
  go_loopw [1, 5] (fun lv i wr => ∃ j : Nat, j ≤ l.length ∧ i = .int .i64 j ∧ lv = .int .i64 (k - l.length - Zaq ByteArray.size (l.take j)) ∧ 0 ≤ k - l.length - Zaq ByteArray.size (l.take j) ∧ Below w.heap.size w wr) (fun _ i _ => l.length - (intOf i).toNat)
  case atStart => exact ⟨0, Nat.zero_le _, rfl, by simp [Zaq], by simp [Zaq]; omega, Below.refl _ _⟩
  case round =>
  obtain ⟨j, hj, rfl, rfl, hd, hbel⟩ := hrel;have hsz := hbel.size;have hd1 : k - l.length - Zaq ByteArray.size (l.take j) ≤ 1048576 := by omega
  obtain ⟨d, hde⟩ : ∃ d, k - l.length - Zaq ByteArray.size (l.take j) = d := ⟨_, rfl⟩;rw [hde] at hd hd1 ⊢;have HDE := zh hde;clear hde
  by_cases hlt : j < l.length
  ·obtain ⟨b, o, cs, rfl, hF, hbl, hE, hcell⟩ := HEL.o j hlt;have hE' := hE;obtain ⟨rfl, hsm⟩ := hE;have hlt' : (j : Int) < l.length := by omega
   have HS := zh (Ze8 ByteArray.size l j hlt);have HT := zh (Zgj ByteArray.size l (j + 1));have e0 := (hbel.cell (p := ⟨b, o + j * 1 + 0, none⟩) hbl).trans (hcell 0 _ rfl);simp only [Nat.mul_one, Nat.add_zero] at e0;have hsm' : (l[j].size : Int) ≤ 9223372036854775807 := by unfold maxLen at hsm; omega
   obtain ⟨s, hs⟩ : ∃ s, l[j] = s := ⟨_, rfl⟩;rw [hs] at e0 hsm' HS;clear hcell hsm hs
   by_cases hin : (s.size : Int) ≤ d
   ·have t2 : decide (d - (s.size : Int) < 0) = false := by simp; omega
    go_wp2_with fail
    go_roundw
    case rel => exact ⟨j + 1, by omega, by go_num, by rw [HS.o, ← HDE.o]; congr 1; omega, by rw [HS.o]; have := HDE.o; omega, hbel⟩
    case measure => simp [intOf]; omega
   ·have t2 : decide (d - (s.size : Int) < 0) = true := by simp; omega
    have HL : Hd (Zcy (Zk ByteArray.size l) k = -1) := zh (Zag (by have := HS.o; have := HT.o; have := HDE.o; unfold Zk; omega));go_wp2_with fail;go_ret;exact ⟨Zat HL.o.symm, hbel⟩
  ·have hjl : j = l.length := by omega
   have HL : Hd (Zcy (Zk ByteArray.size l) k = d) := zh (by
    have := HDE.o;rw [hjl, List.take_length] at this;unfold Zk;rw [Zas (by omega)]; omega)
   go_wp2_with fail;go_ret;exact ⟨Zat HL.o.symm, hbel⟩
theorem Ziv (r : Zaw) (cs : List Value) (F : Nat → Prop) (w : World) (k : Int) (hl0 : 0 ≤ k) (hl1 : k ≤ 1048576) (h : Zaz F w r cs) :
  Calls Tryz.prog 109 #[.agg cs.toArray, .int .i64 k] w fun e w' => e = .returned (.int .i64 (Zcy (Zo r) k)) ∧ Below w.heap.size w w' := by
 obtain ⟨aU, rfl, bR, bS, bT⟩ := h;have HE := zh (show Zo r = r.name.size + (Zk ByteArray.size r.fields) from rfl);have hbname : (r.name.size : Int) ≤ 9223372036854775807 := by unfold maxLen at bR; omega
 have Hfields := zh bS;clear bS;have HBA := zh ((Below.refl w.heap.size w).alloc (Nat.le_refl _) (.cells #[.string r.name, aU, .int .i64 r.line] 143));have HWA := zh (heap_alloc_new w (.cells #[.string r.name, aU, .int .i64 r.line] 143));go_enter Tryz.func109, Tryz.ntmps109
 by_cases c0 : k < ((r.name.size : Nat) : Int)
 ·have HL := zh (Zag (n := Zo r) (l := k) (by have := HE.o; omega));have t0 : decide (k - ((r.name.size : Nat) : Int) < 0) = true := by simp; omega
  go_wp2_with fail;go_ret;exact ⟨Zat HL.o.symm, HBA.o⟩
 have t0 : decide (k - ((r.name.size : Nat) : Int) < 0) = false := by simp; omega
 obtain ⟨d0, hd0⟩ : ∃ d, k - ((r.name.size : Nat) : Int) = d := ⟨_, rfl⟩;rw [hd0] at t0;have HD := zh (show d0 = k - (((r.name.size) : Nat) : Int) by omega);have n0 : 0 ≤ d0 := by omega
 have m0 : d0 ≤ 1048576 := by omega
 clear c0;go_wp2_with fail;refine (Zej r.fields aU F _ d0 n0 m0 (Hfields.o.later Z4 HBA.o)).mono ?_;rintro e w1 ⟨rfl, hb1⟩;have HB1 := zh (HBA.o.trans (Below.mono hb1 HBA.o.size));have HW1 := zC hb1 HWA;have q1_0 := cq HW1.o 0;simp only [nD, nE, nF] at q1_0;have q1_1 := cq HW1.o 1;simp only [nD, nE, nF] at q1_1;have q1_2 := cq HW1.o 2;simp only [nD, nE, nF] at q1_2;clear hb1
 by_cases c1 : d0 < ((Zk ByteArray.size r.fields : Nat) : Int)
 ·rw [Zag c1];have HL := zh (Zag (n := Zo r) (l := k) (by have := HE.o; have := HD.o; omega));go_wp2_with fail;go_ret;exact ⟨Zat HL.o.symm, HB1.o⟩
 rw [Zas (by omega)];have t1 : decide (d0 - ((Zk ByteArray.size r.fields : Nat) : Int) < 0) = false := by simp; omega
 obtain ⟨d1, hd1⟩ : ∃ d, d0 - ((Zk ByteArray.size r.fields : Nat) : Int) = d := ⟨_, rfl⟩;rw [hd1] at t1 ⊢;replace HD := zh (show d1 = k - (((r.name.size) + (Zk ByteArray.size r.fields) : Nat) : Int) by have := HD.o; omega);have n1 : 0 ≤ d1 := by omega
 have m1 : d1 ≤ 1048576 := by omega
 clear hd1;clear c1;have HL := zh (Zas (n := Zo r) (l := k) (by have := HE.o; have := HD.o; omega));go_wp2_with fail;go_ret;exact ⟨Zat (by rw [HL.o]; have := HE.o; have := HD.o; omega), HB1.o⟩
theorem Zh9 (l : List Zaw) (v : Value) (F : Nat → Prop) (w : World) (k : Int) (hl0 : 0 ≤ k) (hl1 : k ≤ 1048576) (hr : Zu Zaz 3 F w l v) :
  Calls Tryz.prog 54 #[v, .int .i64 k] w fun e w' => e = .returned (.int .i64 (Zcy (Zk Zo l) k)) ∧ Below w.heap.size w w' := by
 obtain ⟨A, c, rfl, hc, hcm, hel⟩ := hr;unfold maxLen at hcm;have HEL := zh hel;clear hel;have hb1 : (l.length : Int) ≤ 9223372036854775807 := by omega
 by_cases h0 : k < (l.length : Int)
 ·have HL := zh (Zag (n := Zk Zo l) (l := k) (by unfold Zk; omega));have t1 : decide (k - (l.length : Int) < 0) = true := by simp; omega
  go_enter Tryz.func54, Tryz.ntmps54;go_wp2_with fail;go_ret;exact ⟨Zat HL.o.symm, Below.refl _ _⟩
 ·have t1 : decide (k - (l.length : Int) < 0) = false := by simp; omega
  go_enter Tryz.func54, Tryz.ntmps54;go_wp2_with fail
  go_loopw [1, 5] (fun lv i wr => ∃ j : Nat, j ≤ l.length ∧ i = .int .i64 j ∧ lv = .int .i64 (k - l.length - Zaq Zo (l.take j)) ∧ 0 ≤ k - l.length - Zaq Zo (l.take j) ∧ Below w.heap.size w wr) (fun _ i _ => l.length - (intOf i).toNat)
  case atStart => exact ⟨0, Nat.zero_le _, rfl, by simp [Zaq], by simp [Zaq]; omega, Below.refl _ _⟩
  case round =>
  obtain ⟨j, hj, rfl, rfl, hd, hbel⟩ := hrel;have hsz := hbel.size;have hd1 : k - l.length - Zaq Zo (l.take j) ≤ 1048576 := by omega
  obtain ⟨d, hde⟩ : ∃ d, k - l.length - Zaq Zo (l.take j) = d := ⟨_, rfl⟩;rw [hde] at hd hd1 ⊢;have HDE := zh hde;clear hde
  by_cases hlt : j < l.length
  ·obtain ⟨b, o, cs, rfl, hF, hbl, hE, hcell⟩ := HEL.o j hlt;have hE' := hE;obtain ⟨aU, rfl, hfacts⟩ := hE;have hlt' : (j : Int) < l.length := by omega
   have HS := zh (Ze8 Zo l j hlt);have HT := zh (Zgj Zo l (j + 1));have e0 := (hbel.cell (p := ⟨b, o + j * 3 + 0, none⟩) hbl).trans (hcell 0 _ rfl);have e1 := (hbel.cell (p := ⟨b, o + j * 3 + 1, none⟩) hbl).trans (hcell 1 _ rfl);have e2 := (hbel.cell (p := ⟨b, o + j * 3 + 2, none⟩) hbl).trans (hcell 2 _ rfl);simp only [Nat.mul_one, Nat.add_zero] at e0;have hE2 := Zak.keep (G := F) hE' (fun _ h => h) (Zc.later hbel);have HE2 := zh hE2;clear hE2 hE' hcell hfacts;go_wp2_with fail;refine (Ziv l[j] _ F wr d hd hd1 HE2.o).mono ?_;rintro e w4 ⟨rfl, hb4⟩;have hb5 : Below w.heap.size w w4 := hbel.trans (Below.mono hb4 hsz);clear hb4 e0 e1 e2
   by_cases hin : (Zo l[j] : Int) ≤ d
   ·rw [Zas hin];have t2 : decide (d - (Zo l[j] : Int) < 0) = false := by simp; omega
    go_wp2_with fail
    go_roundw
    case rel => exact ⟨j + 1, by omega, by go_num, by rw [HS.o, ← HDE.o]; congr 1; omega, by rw [HS.o]; have := HDE.o; omega, hb5⟩
    case measure => simp [intOf]; omega
   ·rw [Zag (by omega)];have HL : Hd (Zcy (Zk Zo l) k = -1) := zh (Zag (by have := HS.o; have := HT.o; have := HDE.o; unfold Zk; omega));go_wp2_with fail;go_ret;exact ⟨Zat HL.o.symm, hb5⟩
  ·have hjl : j = l.length := by omega
   have HL : Hd (Zcy (Zk Zo l) k = d) := zh (by
    have := HDE.o;rw [hjl, List.take_length] at this;unfold Zk;rw [Zas (by omega)]; omega)
   go_wp2_with fail;go_ret;exact ⟨Zat HL.o.symm, hbel⟩
theorem Zde (r : Zj) (cs : List Value) (F : Nat → Prop) (w : World) (k : Int) (hl0 : 0 ≤ k) (hl1 : k ≤ 1048576) (h : Ze F w r cs) :
  Calls Tryz.prog 16 #[.agg cs.toArray, .int .i64 k] w fun e w' => e = .returned (.int .i64 (Zcy (Zs r) k)) ∧ Below w.heap.size w w' := by
 obtain ⟨rfl, bH, bI, bJ, bK, bL, bM⟩ := h;have HE := zh (show Zs r = r.text.size from rfl);have hbtext : (r.text.size : Int) ≤ 9223372036854775807 := by unfold maxLen at bK; omega
 have HBA := zh ((Below.refl w.heap.size w).alloc (Nat.le_refl _) (.cells #[.int .i64 r.kind, .int .i64 r.aH, .int .i64 r.index, .string r.text, .int .i64 r.set_.low, .int .i64 r.set_.high] 50));have HWA := zh (heap_alloc_new w (.cells #[.int .i64 r.kind, .int .i64 r.aH, .int .i64 r.index, .string r.text, .int .i64 r.set_.low, .int .i64 r.set_.high] 50));go_enter Tryz.func16, Tryz.ntmps16
 by_cases c0 : k < ((r.text.size : Nat) : Int)
 ·have HL := zh (Zag (n := Zs r) (l := k) (by have := HE.o; omega));have t0 : decide (k - ((r.text.size : Nat) : Int) < 0) = true := by simp; omega
  go_wp2_with fail;go_ret;exact ⟨Zat HL.o.symm, HBA.o⟩
 have t0 : decide (k - ((r.text.size : Nat) : Int) < 0) = false := by simp; omega
 obtain ⟨d0, hd0⟩ : ∃ d, k - ((r.text.size : Nat) : Int) = d := ⟨_, rfl⟩;rw [hd0] at t0;have HD := zh (show d0 = k - (((r.text.size) : Nat) : Int) by omega);have n0 : 0 ≤ d0 := by omega
 have m0 : d0 ≤ 1048576 := by omega
 clear c0;have HL := zh (Zas (n := Zs r) (l := k) (by have := HE.o; have := HD.o; omega));go_wp2_with fail;go_ret;exact ⟨Zat (by rw [HL.o]; have := HE.o; have := HD.o; omega), HBA.o⟩
theorem Zf6 (l : List Zj) (v : Value) (F : Nat → Prop) (w : World) (k : Int) (hl0 : 0 ≤ k) (hl1 : k ≤ 1048576) (hr : Zu Ze 6 F w l v) :
  Calls Tryz.prog 56 #[v, .int .i64 k] w fun e w' => e = .returned (.int .i64 (Zcy (Zk Zs l) k)) ∧ Below w.heap.size w w' := by
 obtain ⟨A, c, rfl, hc, hcm, hel⟩ := hr;unfold maxLen at hcm;have HEL := zh hel;clear hel;have hb1 : (l.length : Int) ≤ 9223372036854775807 := by omega
 by_cases h0 : k < (l.length : Int)
 ·have HL := zh (Zag (n := Zk Zs l) (l := k) (by unfold Zk; omega));have t1 : decide (k - (l.length : Int) < 0) = true := by simp; omega
  go_enter Tryz.func56, Tryz.ntmps56;go_wp2_with fail;go_ret;exact ⟨Zat HL.o.symm, Below.refl _ _⟩
 ·have t1 : decide (k - (l.length : Int) < 0) = false := by simp; omega
  go_enter Tryz.func56, Tryz.ntmps56;go_wp2_with fail
  go_loopw [1, 5] (fun lv i wr => ∃ j : Nat, j ≤ l.length ∧ i = .int .i64 j ∧ lv = .int .i64 (k - l.length - Zaq Zs (l.take j)) ∧ 0 ≤ k - l.length - Zaq Zs (l.take j) ∧ Below w.heap.size w wr) (fun _ i _ => l.length - (intOf i).toNat)
  case atStart => exact ⟨0, Nat.zero_le _, rfl, by simp [Zaq], by simp [Zaq]; omega, Below.refl _ _⟩
  case round =>
  obtain ⟨j, hj, rfl, rfl, hd, hbel⟩ := hrel;have hsz := hbel.size;have hd1 : k - l.length - Zaq Zs (l.take j) ≤ 1048576 := by omega
  obtain ⟨d, hde⟩ : ∃ d, k - l.length - Zaq Zs (l.take j) = d := ⟨_, rfl⟩;rw [hde] at hd hd1 ⊢;have HDE := zh hde;clear hde
  by_cases hlt : j < l.length
  ·obtain ⟨b, o, cs, rfl, hF, hbl, hE, hcell⟩ := HEL.o j hlt;have hE' := hE;obtain ⟨rfl, hfacts⟩ := hE;have hlt' : (j : Int) < l.length := by omega
   have HS := zh (Ze8 Zs l j hlt);have HT := zh (Zgj Zs l (j + 1));have e0 := (hbel.cell (p := ⟨b, o + j * 6 + 0, none⟩) hbl).trans (hcell 0 _ rfl);have e1 := (hbel.cell (p := ⟨b, o + j * 6 + 1, none⟩) hbl).trans (hcell 1 _ rfl);have e2 := (hbel.cell (p := ⟨b, o + j * 6 + 2, none⟩) hbl).trans (hcell 2 _ rfl);have e3 := (hbel.cell (p := ⟨b, o + j * 6 + 3, none⟩) hbl).trans (hcell 3 _ rfl);have e4 := (hbel.cell (p := ⟨b, o + j * 6 + 4, none⟩) hbl).trans (hcell 4 _ rfl);have e5 := (hbel.cell (p := ⟨b, o + j * 6 + 5, none⟩) hbl).trans (hcell 5 _ rfl);simp only [Nat.mul_one, Nat.add_zero] at e0;have hE2 := Zb.keep (G := F) hE' (fun _ h => h) (Zc.later hbel);have HE2 := zh hE2;clear hE2 hE' hcell hfacts;go_wp2_with fail;refine (Zde l[j] _ F wr d hd hd1 HE2.o).mono ?_;rintro e w4 ⟨rfl, hb4⟩;have hb5 : Below w.heap.size w w4 := hbel.trans (Below.mono hb4 hsz);clear hb4 e0 e1 e2 e3 e4 e5
   by_cases hin : (Zs l[j] : Int) ≤ d
   ·rw [Zas hin];have t2 : decide (d - (Zs l[j] : Int) < 0) = false := by simp; omega
    go_wp2_with fail
    go_roundw
    case rel => exact ⟨j + 1, by omega, by go_num, by rw [HS.o, ← HDE.o]; congr 1; omega, by rw [HS.o]; have := HDE.o; omega, hb5⟩
    case measure => simp [intOf]; omega
   ·rw [Zag (by omega)];have HL : Hd (Zcy (Zk Zs l) k = -1) := zh (Zag (by have := HS.o; have := HT.o; have := HDE.o; unfold Zk; omega));go_wp2_with fail;go_ret;exact ⟨Zat HL.o.symm, hb5⟩
  ·have hjl : j = l.length := by omega
   have HL : Hd (Zcy (Zk Zs l) k = d) := zh (by
    have := HDE.o;rw [hjl, List.take_length] at this;unfold Zk;rw [Zas (by omega)]; omega)
   go_wp2_with fail;go_ret;exact ⟨Zat HL.o.symm, hbel⟩
theorem Zln (r : Zay) (cs : List Value) (F : Nat → Prop) (w : World) (k : Int) (hl0 : 0 ≤ k) (hl1 : k ≤ 1048576) (h : Zbq F w r cs) :
  Calls Tryz.prog 110 #[.agg cs.toArray, .int .i64 k] w fun e w' => e = .returned (.int .i64 (Zcy (Zr r) k)) ∧ Below w.heap.size w w' := by
 obtain ⟨aS, aT, rfl, bH, bN, bO, bP, bQ⟩ := h;have HE := zh (show Zr r = Zk Zs r.aJ + (Zk Zs r.aK) from rfl);have Hitems := zh bP;clear bP;have Hkeys := zh bQ;clear bQ;have HBA := zh ((Below.refl w.heap.size w).alloc (Nat.le_refl _) (.cells #[.int .i64 r.kind, .int .i64 r.tag, .int .i64 r.aI, aS, aT] 146));have HWA := zh (heap_alloc_new w (.cells #[.int .i64 r.kind, .int .i64 r.tag, .int .i64 r.aI, aS, aT] 146));go_enter Tryz.func110, Tryz.ntmps110;go_wp2_with fail;refine (Zf6 r.aJ aS F _ k hl0 hl1 (Hitems.o.later Zb HBA.o)).mono ?_;rintro e w0 ⟨rfl, hb0⟩;have HB0 := zh (HBA.o.trans (Below.mono hb0 HBA.o.size));have HW0 := zC hb0 HWA;have q0_0 := cq HW0.o 0;simp only [nD, nE, nF] at q0_0;have q0_1 := cq HW0.o 1;simp only [nD, nE, nF] at q0_1;have q0_2 := cq HW0.o 2;simp only [nD, nE, nF] at q0_2;have q0_3 := cq HW0.o 3;simp only [nD, nE, nF] at q0_3;have q0_4 := cq HW0.o 4;simp only [nD, nE, nF] at q0_4;clear hb0
 by_cases c0 : k < ((Zk Zs r.aJ : Nat) : Int)
 ·rw [Zag c0];have HL := zh (Zag (n := Zr r) (l := k) (by have := HE.o; omega));go_wp2_with fail;go_ret;exact ⟨Zat HL.o.symm, HB0.o⟩
 rw [Zas (by omega)];have t0 : decide (k - ((Zk Zs r.aJ : Nat) : Int) < 0) = false := by simp; omega
 obtain ⟨d0, hd0⟩ : ∃ d, k - ((Zk Zs r.aJ : Nat) : Int) = d := ⟨_, rfl⟩;rw [hd0] at t0 ⊢;have HD := zh (show d0 = k - (((Zk Zs r.aJ) : Nat) : Int) by omega);have n0 : 0 ≤ d0 := by omega
 have m0 : d0 ≤ 1048576 := by omega
 clear hd0;clear c0;go_wp2_with fail;refine (Zf6 r.aK aT F _ d0 n0 m0 (Hkeys.o.later Zb HB0.o)).mono ?_;rintro e w1 ⟨rfl, hb1⟩;have HB1 := zh (HB0.o.trans (Below.mono hb1 HB0.o.size));have HW1 := zC hb1 HW0;have q1_0 := cq HW1.o 0;simp only [nD, nE, nF] at q1_0;have q1_1 := cq HW1.o 1;simp only [nD, nE, nF] at q1_1;have q1_2 := cq HW1.o 2;simp only [nD, nE, nF] at q1_2;have q1_3 := cq HW1.o 3;simp only [nD, nE, nF] at q1_3;have q1_4 := cq HW1.o 4;simp only [nD, nE, nF] at q1_4;clear hb1
 by_cases c1 : d0 < ((Zk Zs r.aK : Nat) : Int)
 ·rw [Zag c1];have HL := zh (Zag (n := Zr r) (l := k) (by have := HE.o; have := HD.o; omega));go_wp2_with fail;go_ret;exact ⟨Zat HL.o.symm, HB1.o⟩
 rw [Zas (by omega)];have t1 : decide (d0 - ((Zk Zs r.aK : Nat) : Int) < 0) = false := by simp; omega
 obtain ⟨d1, hd1⟩ : ∃ d, d0 - ((Zk Zs r.aK : Nat) : Int) = d := ⟨_, rfl⟩;rw [hd1] at t1 ⊢;replace HD := zh (show d1 = k - (((Zk Zs r.aJ) + (Zk Zs r.aK) : Nat) : Int) by have := HD.o; omega);have n1 : 0 ≤ d1 := by omega
 have m1 : d1 ≤ 1048576 := by omega
 clear hd1;clear c1;have HL := zh (Zas (n := Zr r) (l := k) (by have := HE.o; have := HD.o; omega));go_wp2_with fail;go_ret;exact ⟨Zat (by rw [HL.o]; have := HE.o; have := HD.o; omega), HB1.o⟩
theorem Zkr (l : List Zay) (v : Value) (F : Nat → Prop) (w : World) (k : Int) (hl0 : 0 ≤ k) (hl1 : k ≤ 1048576) (hr : Zu Zbq 5 F w l v) :
  Calls Tryz.prog 55 #[v, .int .i64 k] w fun e w' => e = .returned (.int .i64 (Zcy (Zk Zr l) k)) ∧ Below w.heap.size w w' := by
 obtain ⟨A, c, rfl, hc, hcm, hel⟩ := hr;unfold maxLen at hcm;have HEL := zh hel;clear hel;have hb1 : (l.length : Int) ≤ 9223372036854775807 := by omega
 by_cases h0 : k < (l.length : Int)
 ·have HL := zh (Zag (n := Zk Zr l) (l := k) (by unfold Zk; omega));have t1 : decide (k - (l.length : Int) < 0) = true := by simp; omega
  go_enter Tryz.func55, Tryz.ntmps55;go_wp2_with fail;go_ret;exact ⟨Zat HL.o.symm, Below.refl _ _⟩
 ·have t1 : decide (k - (l.length : Int) < 0) = false := by simp; omega
  go_enter Tryz.func55, Tryz.ntmps55;go_wp2_with fail
  go_loopw [1, 5] (fun lv i wr => ∃ j : Nat, j ≤ l.length ∧ i = .int .i64 j ∧ lv = .int .i64 (k - l.length - Zaq Zr (l.take j)) ∧ 0 ≤ k - l.length - Zaq Zr (l.take j) ∧ Below w.heap.size w wr) (fun _ i _ => l.length - (intOf i).toNat)
  case atStart => exact ⟨0, Nat.zero_le _, rfl, by simp [Zaq], by simp [Zaq]; omega, Below.refl _ _⟩
  case round =>
  obtain ⟨j, hj, rfl, rfl, hd, hbel⟩ := hrel;have hsz := hbel.size;have hd1 : k - l.length - Zaq Zr (l.take j) ≤ 1048576 := by omega
  obtain ⟨d, hde⟩ : ∃ d, k - l.length - Zaq Zr (l.take j) = d := ⟨_, rfl⟩;rw [hde] at hd hd1 ⊢;have HDE := zh hde;clear hde
  by_cases hlt : j < l.length
  ·obtain ⟨b, o, cs, rfl, hF, hbl, hE, hcell⟩ := HEL.o j hlt;have hE' := hE;obtain ⟨aS, aT, rfl, hfacts⟩ := hE;have hlt' : (j : Int) < l.length := by omega
   have HS := zh (Ze8 Zr l j hlt);have HT := zh (Zgj Zr l (j + 1));have e0 := (hbel.cell (p := ⟨b, o + j * 5 + 0, none⟩) hbl).trans (hcell 0 _ rfl);have e1 := (hbel.cell (p := ⟨b, o + j * 5 + 1, none⟩) hbl).trans (hcell 1 _ rfl);have e2 := (hbel.cell (p := ⟨b, o + j * 5 + 2, none⟩) hbl).trans (hcell 2 _ rfl);have e3 := (hbel.cell (p := ⟨b, o + j * 5 + 3, none⟩) hbl).trans (hcell 3 _ rfl);have e4 := (hbel.cell (p := ⟨b, o + j * 5 + 4, none⟩) hbl).trans (hcell 4 _ rfl);simp only [Nat.mul_one, Nat.add_zero] at e0;have hE2 := Za9.keep (G := F) hE' (fun _ h => h) (Zc.later hbel);have HE2 := zh hE2;clear hE2 hE' hcell hfacts;go_wp2_with fail;refine (Zln l[j] _ F wr d hd hd1 HE2.o).mono ?_;rintro e w4 ⟨rfl, hb4⟩;have hb5 : Below w.heap.size w w4 := hbel.trans (Below.mono hb4 hsz);clear hb4 e0 e1 e2 e3 e4
   by_cases hin : (Zr l[j] : Int) ≤ d
   ·rw [Zas hin];have t2 : decide (d - (Zr l[j] : Int) < 0) = false := by simp; omega
    go_wp2_with fail
    go_roundw
    case rel => exact ⟨j + 1, by omega, by go_num, by rw [HS.o, ← HDE.o]; congr 1; omega, by rw [HS.o]; have := HDE.o; omega, hb5⟩
    case measure => simp [intOf]; omega
   ·rw [Zag (by omega)];have HL : Hd (Zcy (Zk Zr l) k = -1) := zh (Zag (by have := HS.o; have := HT.o; have := HDE.o; unfold Zk; omega));go_wp2_with fail;go_ret;exact ⟨Zat HL.o.symm, hb5⟩
  ·have hjl : j = l.length := by omega
   have HL : Hd (Zcy (Zk Zr l) k = d) := zh (by
    have := HDE.o;rw [hjl, List.take_length] at this;unfold Zk;rw [Zas (by omega)]; omega)
   go_wp2_with fail;go_ret;exact ⟨Zat HL.o.symm, hbel⟩
theorem Zks (l : List Zdd) (v : Value) (F : Nat → Prop) (w : World) (k : Int) (hl0 : 0 ≤ k) (hl1 : k ≤ 1048576) (hr : Zu Zbf 2 F w l v) :
  Calls Tryz.prog 57 #[v, .int .i64 k] w fun e w' => e = .returned (.int .i64 (Zcy (Zk (fun _ => 0) l) k)) ∧ Below w.heap.size w w' := by
 obtain ⟨A, c, rfl, hc, hcm, hel⟩ := hr;unfold maxLen at hcm;have HEL := zh hel;clear hel;have hb1 : (l.length : Int) ≤ 9223372036854775807 := by omega
 by_cases h0 : k < (l.length : Int)
 ·have HL := zh (Zag (n := Zk (fun _ => 0) l) (l := k) (by unfold Zk; omega));have t1 : decide (k - (l.length : Int) < 0) = true := by simp; omega
  go_enter Tryz.func57, Tryz.ntmps57;go_wp2_with fail;go_ret;exact ⟨Zat HL.o.symm, Below.refl _ _⟩
 ·have HL := zh (Zas (n := Zk (fun _ => 0) l) (l := k) (by have := Zhp l; unfold Zk; omega));have t1 : decide (k - (l.length : Int) < 0) = false := by simp; omega
  go_enter Tryz.func57, Tryz.ntmps57;go_wp2_with fail;go_ret;exact ⟨Zat (by rw [HL.o]; have := Zhp l; unfold Zk; omega), Below.refl _ _⟩
theorem Zfl (r : Zh) (cs : List Value) (F : Nat → Prop) (w : World) (k : Int) (hl0 : 0 ≤ k) (hl1 : k ≤ 1048576) (h : Zb6 F w r cs) :
  Calls Tryz.prog 15 #[.agg cs.toArray, .int .i64 k] w fun e w' => e = .returned (.int .i64 (Zcy (Zad r) k)) ∧ Below w.heap.size w w' := by
 obtain ⟨aL, aM, aN, aO, aP, aQ, aR, rfl, aV, aW, aX, aY, aZ, bA, bB, bC, bD, bE, bF, bG⟩ := h;have HE := zh (show Zad r = Zk ByteArray.size r.names + (Zk Zo r.aB + (Zk Zr r.aA + (Zk Zs r.globals + (r.aC.size + (Zk ByteArray.size r.output + (Zk ByteArray.size r.trace + (Zk (fun _ => 0) r.aE))))))) from rfl);have Hnames := zh aV;clear aV;have Hrecords := zh aW;clear aW;have Hobjects := zh aX;clear aX;have Hglobals := zh aY;clear aY;have hbsubject : (r.aC.size : Int) ≤ 9223372036854775807 := by unfold maxLen at aZ; omega
 have Houtput := zh bB;clear bB;have Htrace := zh bC;clear bC;have Hactives := zh bD;clear bD;have HBA := zh ((Below.refl w.heap.size w).alloc (Nat.le_refl _) (.cells #[aL, aM, aN, aO, .string r.aC, .int .i64 r.aD, aP, aQ, aR, .bool r.aF, .int .i64 r.ticks, .int .i64 r.aG, .int .i64 r.made] 47));have HWA := zh (heap_alloc_new w (.cells #[aL, aM, aN, aO, .string r.aC, .int .i64 r.aD, aP, aQ, aR, .bool r.aF, .int .i64 r.ticks, .int .i64 r.aG, .int .i64 r.made] 47));go_enter Tryz.func15, Tryz.ntmps15;go_wp2_with fail;refine (Zej r.names aL F _ k hl0 hl1 (Hnames.o.later Z4 HBA.o)).mono ?_;rintro e w0 ⟨rfl, hb0⟩;have HB0 := zh (HBA.o.trans (Below.mono hb0 HBA.o.size));have HW0 := zC hb0 HWA;have q0_0 := cq HW0.o 0;simp only [nD, nE, nF] at q0_0;have q0_1 := cq HW0.o 1;simp only [nD, nE, nF] at q0_1;have q0_2 := cq HW0.o 2;simp only [nD, nE, nF] at q0_2;have q0_3 := cq HW0.o 3;simp only [nD, nE, nF] at q0_3;have q0_4 := cq HW0.o 4;simp only [nD, nE, nF] at q0_4;have q0_5 := cq HW0.o 5;simp only [nD, nE, nF] at q0_5;have q0_6 := cq HW0.o 6;simp only [nD, nE, nF] at q0_6;have q0_7 := cq HW0.o 7;simp only [nD, nE, nF] at q0_7;have q0_8 := cq HW0.o 8;simp only [nD, nE, nF] at q0_8;have q0_9 := cq HW0.o 9;simp only [nD, nE, nF] at q0_9;have q0_10 := cq HW0.o 10;simp only [nD, nE, nF] at q0_10;have q0_11 := cq HW0.o 11;simp only [nD, nE, nF] at q0_11
 have q0_12 := cq HW0.o 12;simp only [nD, nE, nF] at q0_12;clear hb0
 by_cases c0 : k < ((Zk ByteArray.size r.names : Nat) : Int)
 ·rw [Zag c0];have HL := zh (Zag (n := Zad r) (l := k) (by have := HE.o; omega));go_wp2_with fail;go_ret;exact ⟨Zat HL.o.symm, HB0.o⟩
 rw [Zas (by omega)];have t0 : decide (k - ((Zk ByteArray.size r.names : Nat) : Int) < 0) = false := by simp; omega
 obtain ⟨d0, hd0⟩ : ∃ d, k - ((Zk ByteArray.size r.names : Nat) : Int) = d := ⟨_, rfl⟩;rw [hd0] at t0 ⊢;have HD := zh (show d0 = k - (((Zk ByteArray.size r.names) : Nat) : Int) by omega);have n0 : 0 ≤ d0 := by omega
 have m0 : d0 ≤ 1048576 := by omega
 clear hd0;clear c0;go_wp2_with fail;refine (Zh9 r.aB aM F _ d0 n0 m0 (Hrecords.o.later Zak HB0.o)).mono ?_;rintro e w1 ⟨rfl, hb1⟩;have HB1 := zh (HB0.o.trans (Below.mono hb1 HB0.o.size));have HW1 := zC hb1 HW0;have q1_0 := cq HW1.o 0;simp only [nD, nE, nF] at q1_0;have q1_1 := cq HW1.o 1;simp only [nD, nE, nF] at q1_1;have q1_2 := cq HW1.o 2;simp only [nD, nE, nF] at q1_2;have q1_3 := cq HW1.o 3;simp only [nD, nE, nF] at q1_3;have q1_4 := cq HW1.o 4;simp only [nD, nE, nF] at q1_4;have q1_5 := cq HW1.o 5;simp only [nD, nE, nF] at q1_5;have q1_6 := cq HW1.o 6;simp only [nD, nE, nF] at q1_6;have q1_7 := cq HW1.o 7;simp only [nD, nE, nF] at q1_7;have q1_8 := cq HW1.o 8;simp only [nD, nE, nF] at q1_8;have q1_9 := cq HW1.o 9;simp only [nD, nE, nF] at q1_9;have q1_10 := cq HW1.o 10;simp only [nD, nE, nF] at q1_10;have q1_11 := cq HW1.o 11;simp only [nD, nE, nF] at q1_11;have q1_12 := cq HW1.o 12;simp only [nD, nE, nF] at q1_12;clear hb1
 by_cases c1 : d0 < ((Zk Zo r.aB : Nat) : Int)
 ·rw [Zag c1];have HL := zh (Zag (n := Zad r) (l := k) (by have := HE.o; have := HD.o; omega));go_wp2_with fail;go_ret;exact ⟨Zat HL.o.symm, HB1.o⟩
 rw [Zas (by omega)];have t1 : decide (d0 - ((Zk Zo r.aB : Nat) : Int) < 0) = false := by simp; omega
 obtain ⟨d1, hd1⟩ : ∃ d, d0 - ((Zk Zo r.aB : Nat) : Int) = d := ⟨_, rfl⟩;rw [hd1] at t1 ⊢;replace HD := zh (show d1 = k - (((Zk ByteArray.size r.names) + (Zk Zo r.aB) : Nat) : Int) by have := HD.o; omega);have n1 : 0 ≤ d1 := by omega
 have m1 : d1 ≤ 1048576 := by omega
 clear hd1;clear c1;go_wp2_with fail;refine (Zkr r.aA aN F _ d1 n1 m1 (Hobjects.o.later Za9 HB1.o)).mono ?_;rintro e w2 ⟨rfl, hb2⟩;have HB2 := zh (HB1.o.trans (Below.mono hb2 HB1.o.size));have HW2 := zC hb2 HW1;have q2_0 := cq HW2.o 0;simp only [nD, nE, nF] at q2_0;have q2_1 := cq HW2.o 1;simp only [nD, nE, nF] at q2_1;have q2_2 := cq HW2.o 2;simp only [nD, nE, nF] at q2_2;have q2_3 := cq HW2.o 3;simp only [nD, nE, nF] at q2_3;have q2_4 := cq HW2.o 4;simp only [nD, nE, nF] at q2_4;have q2_5 := cq HW2.o 5;simp only [nD, nE, nF] at q2_5;have q2_6 := cq HW2.o 6;simp only [nD, nE, nF] at q2_6;have q2_7 := cq HW2.o 7;simp only [nD, nE, nF] at q2_7;have q2_8 := cq HW2.o 8;simp only [nD, nE, nF] at q2_8;have q2_9 := cq HW2.o 9;simp only [nD, nE, nF] at q2_9;have q2_10 := cq HW2.o 10;simp only [nD, nE, nF] at q2_10;have q2_11 := cq HW2.o 11;simp only [nD, nE, nF] at q2_11;have q2_12 := cq HW2.o 12;simp only [nD, nE, nF] at q2_12;clear hb2
 by_cases c2 : d1 < ((Zk Zr r.aA : Nat) : Int)
 ·rw [Zag c2];have HL := zh (Zag (n := Zad r) (l := k) (by have := HE.o; have := HD.o; omega));go_wp2_with fail;go_ret;exact ⟨Zat HL.o.symm, HB2.o⟩
 rw [Zas (by omega)];have t2 : decide (d1 - ((Zk Zr r.aA : Nat) : Int) < 0) = false := by simp; omega
 obtain ⟨d2, hd2⟩ : ∃ d, d1 - ((Zk Zr r.aA : Nat) : Int) = d := ⟨_, rfl⟩;rw [hd2] at t2 ⊢;replace HD := zh (show d2 = k - (((Zk ByteArray.size r.names) + (Zk Zo r.aB) + (Zk Zr r.aA) : Nat) : Int) by have := HD.o; omega);have n2 : 0 ≤ d2 := by omega
 have m2 : d2 ≤ 1048576 := by omega
 clear hd2;clear c2;go_wp2_with fail;refine (Zf6 r.globals aO F _ d2 n2 m2 (Hglobals.o.later Zb HB2.o)).mono ?_;rintro e w3 ⟨rfl, hb3⟩;have HB3 := zh (HB2.o.trans (Below.mono hb3 HB2.o.size));have HW3 := zC hb3 HW2;have q3_0 := cq HW3.o 0;simp only [nD, nE, nF] at q3_0;have q3_1 := cq HW3.o 1;simp only [nD, nE, nF] at q3_1;have q3_2 := cq HW3.o 2;simp only [nD, nE, nF] at q3_2;have q3_3 := cq HW3.o 3;simp only [nD, nE, nF] at q3_3;have q3_4 := cq HW3.o 4;simp only [nD, nE, nF] at q3_4;have q3_5 := cq HW3.o 5;simp only [nD, nE, nF] at q3_5;have q3_6 := cq HW3.o 6;simp only [nD, nE, nF] at q3_6;have q3_7 := cq HW3.o 7;simp only [nD, nE, nF] at q3_7;have q3_8 := cq HW3.o 8;simp only [nD, nE, nF] at q3_8;have q3_9 := cq HW3.o 9;simp only [nD, nE, nF] at q3_9;have q3_10 := cq HW3.o 10;simp only [nD, nE, nF] at q3_10;have q3_11 := cq HW3.o 11;simp only [nD, nE, nF] at q3_11;have q3_12 := cq HW3.o 12;simp only [nD, nE, nF] at q3_12;clear hb3
 by_cases c3 : d2 < ((Zk Zs r.globals : Nat) : Int)
 ·rw [Zag c3];have HL := zh (Zag (n := Zad r) (l := k) (by have := HE.o; have := HD.o; omega));go_wp2_with fail;go_ret;exact ⟨Zat HL.o.symm, HB3.o⟩
 rw [Zas (by omega)];have t3 : decide (d2 - ((Zk Zs r.globals : Nat) : Int) < 0) = false := by simp; omega
 obtain ⟨d3, hd3⟩ : ∃ d, d2 - ((Zk Zs r.globals : Nat) : Int) = d := ⟨_, rfl⟩;rw [hd3] at t3 ⊢;replace HD := zh (show d3 = k - (((Zk ByteArray.size r.names) + (Zk Zo r.aB) + (Zk Zr r.aA) + (Zk Zs r.globals) : Nat) : Int) by have := HD.o; omega);have n3 : 0 ≤ d3 := by omega
 have m3 : d3 ≤ 1048576 := by omega
 clear hd3;clear c3
 by_cases c4 : d3 < ((r.aC.size : Nat) : Int)
 ·have HL := zh (Zag (n := Zad r) (l := k) (by have := HE.o; have := HD.o; omega));have t4 : decide (d3 - ((r.aC.size : Nat) : Int) < 0) = true := by simp; omega
  go_wp2_with fail;go_ret;exact ⟨Zat HL.o.symm, HB3.o⟩
 have t4 : decide (d3 - ((r.aC.size : Nat) : Int) < 0) = false := by simp; omega
 obtain ⟨d4, hd4⟩ : ∃ d, d3 - ((r.aC.size : Nat) : Int) = d := ⟨_, rfl⟩;rw [hd4] at t4;replace HD := zh (show d4 = k - (((Zk ByteArray.size r.names) + (Zk Zo r.aB) + (Zk Zr r.aA) + (Zk Zs r.globals) + (r.aC.size) : Nat) : Int) by have := HD.o; omega);have n4 : 0 ≤ d4 := by omega
 have m4 : d4 ≤ 1048576 := by omega
 clear c4;go_wp2_with fail;refine (Zej r.output aP F _ d4 n4 m4 (Houtput.o.later Z4 HB3.o)).mono ?_;rintro e w5 ⟨rfl, hb5⟩;have HB5 := zh (HB3.o.trans (Below.mono hb5 HB3.o.size));have HW5 := zC hb5 HW3;have q5_0 := cq HW5.o 0;simp only [nD, nE, nF] at q5_0;have q5_1 := cq HW5.o 1;simp only [nD, nE, nF] at q5_1;have q5_2 := cq HW5.o 2;simp only [nD, nE, nF] at q5_2;have q5_3 := cq HW5.o 3;simp only [nD, nE, nF] at q5_3;have q5_4 := cq HW5.o 4;simp only [nD, nE, nF] at q5_4;have q5_5 := cq HW5.o 5;simp only [nD, nE, nF] at q5_5;have q5_6 := cq HW5.o 6;simp only [nD, nE, nF] at q5_6;have q5_7 := cq HW5.o 7;simp only [nD, nE, nF] at q5_7;have q5_8 := cq HW5.o 8;simp only [nD, nE, nF] at q5_8;have q5_9 := cq HW5.o 9;simp only [nD, nE, nF] at q5_9;have q5_10 := cq HW5.o 10;simp only [nD, nE, nF] at q5_10;have q5_11 := cq HW5.o 11;simp only [nD, nE, nF] at q5_11;have q5_12 := cq HW5.o 12;simp only [nD, nE, nF] at q5_12;clear hb5
 by_cases c5 : d4 < ((Zk ByteArray.size r.output : Nat) : Int)
 ·rw [Zag c5];have HL := zh (Zag (n := Zad r) (l := k) (by have := HE.o; have := HD.o; omega));go_wp2_with fail;go_ret;exact ⟨Zat HL.o.symm, HB5.o⟩
 rw [Zas (by omega)];have t5 : decide (d4 - ((Zk ByteArray.size r.output : Nat) : Int) < 0) = false := by simp; omega
 obtain ⟨d5, hd5⟩ : ∃ d, d4 - ((Zk ByteArray.size r.output : Nat) : Int) = d := ⟨_, rfl⟩;rw [hd5] at t5 ⊢;replace HD := zh (show d5 = k - (((Zk ByteArray.size r.names) + (Zk Zo r.aB) + (Zk Zr r.aA) + (Zk Zs r.globals) + (r.aC.size) + (Zk ByteArray.size r.output) : Nat) : Int) by have := HD.o; omega);have n5 : 0 ≤ d5 := by omega
 have m5 : d5 ≤ 1048576 := by omega
 clear hd5;clear c5;go_wp2_with fail;refine (Zej r.trace aQ F _ d5 n5 m5 (Htrace.o.later Z4 HB5.o)).mono ?_;rintro e w6 ⟨rfl, hb6⟩;have HB6 := zh (HB5.o.trans (Below.mono hb6 HB5.o.size));have HW6 := zC hb6 HW5;have q6_0 := cq HW6.o 0;simp only [nD, nE, nF] at q6_0;have q6_1 := cq HW6.o 1;simp only [nD, nE, nF] at q6_1;have q6_2 := cq HW6.o 2;simp only [nD, nE, nF] at q6_2;have q6_3 := cq HW6.o 3;simp only [nD, nE, nF] at q6_3;have q6_4 := cq HW6.o 4;simp only [nD, nE, nF] at q6_4;have q6_5 := cq HW6.o 5;simp only [nD, nE, nF] at q6_5;have q6_6 := cq HW6.o 6;simp only [nD, nE, nF] at q6_6;have q6_7 := cq HW6.o 7;simp only [nD, nE, nF] at q6_7;have q6_8 := cq HW6.o 8;simp only [nD, nE, nF] at q6_8;have q6_9 := cq HW6.o 9;simp only [nD, nE, nF] at q6_9;have q6_10 := cq HW6.o 10;simp only [nD, nE, nF] at q6_10;have q6_11 := cq HW6.o 11;simp only [nD, nE, nF] at q6_11;have q6_12 := cq HW6.o 12;simp only [nD, nE, nF] at q6_12;clear hb6
 by_cases c6 : d5 < ((Zk ByteArray.size r.trace : Nat) : Int)
 ·rw [Zag c6];have HL := zh (Zag (n := Zad r) (l := k) (by have := HE.o; have := HD.o; omega));go_wp2_with fail;go_ret;exact ⟨Zat HL.o.symm, HB6.o⟩
 rw [Zas (by omega)];have t6 : decide (d5 - ((Zk ByteArray.size r.trace : Nat) : Int) < 0) = false := by simp; omega
 obtain ⟨d6, hd6⟩ : ∃ d, d5 - ((Zk ByteArray.size r.trace : Nat) : Int) = d := ⟨_, rfl⟩;rw [hd6] at t6 ⊢;replace HD := zh (show d6 = k - (((Zk ByteArray.size r.names) + (Zk Zo r.aB) + (Zk Zr r.aA) + (Zk Zs r.globals) + (r.aC.size) + (Zk ByteArray.size r.output) + (Zk ByteArray.size r.trace) : Nat) : Int) by have := HD.o; omega);have n6 : 0 ≤ d6 := by omega
 have m6 : d6 ≤ 1048576 := by omega
 clear hd6;clear c6;go_wp2_with fail;refine (Zks r.aE aR F _ d6 n6 m6 (Hactives.o.later Zba HB6.o)).mono ?_;rintro e w7 ⟨rfl, hb7⟩;have HB7 := zh (HB6.o.trans (Below.mono hb7 HB6.o.size));have HW7 := zC hb7 HW6;have q7_0 := cq HW7.o 0;simp only [nD, nE, nF] at q7_0;have q7_1 := cq HW7.o 1;simp only [nD, nE, nF] at q7_1;have q7_2 := cq HW7.o 2;simp only [nD, nE, nF] at q7_2;have q7_3 := cq HW7.o 3;simp only [nD, nE, nF] at q7_3;have q7_4 := cq HW7.o 4;simp only [nD, nE, nF] at q7_4;have q7_5 := cq HW7.o 5;simp only [nD, nE, nF] at q7_5;have q7_6 := cq HW7.o 6;simp only [nD, nE, nF] at q7_6;have q7_7 := cq HW7.o 7;simp only [nD, nE, nF] at q7_7;have q7_8 := cq HW7.o 8;simp only [nD, nE, nF] at q7_8;have q7_9 := cq HW7.o 9;simp only [nD, nE, nF] at q7_9;have q7_10 := cq HW7.o 10;simp only [nD, nE, nF] at q7_10;have q7_11 := cq HW7.o 11;simp only [nD, nE, nF] at q7_11;have q7_12 := cq HW7.o 12;simp only [nD, nE, nF] at q7_12;clear hb7
 by_cases c7 : d6 < ((Zk (fun _ => 0) r.aE : Nat) : Int)
 ·rw [Zag c7];have HL := zh (Zag (n := Zad r) (l := k) (by have := HE.o; have := HD.o; omega));go_wp2_with fail;go_ret;exact ⟨Zat HL.o.symm, HB7.o⟩
 rw [Zas (by omega)];have t7 : decide (d6 - ((Zk (fun _ => 0) r.aE : Nat) : Int) < 0) = false := by simp; omega
 obtain ⟨d7, hd7⟩ : ∃ d, d6 - ((Zk (fun _ => 0) r.aE : Nat) : Int) = d := ⟨_, rfl⟩;rw [hd7] at t7 ⊢;replace HD := zh (show d7 = k - (((Zk ByteArray.size r.names) + (Zk Zo r.aB) + (Zk Zr r.aA) + (Zk Zs r.globals) + (r.aC.size) + (Zk ByteArray.size r.output) + (Zk ByteArray.size r.trace) + (Zk (fun _ => 0) r.aE) : Nat) : Int) by have := HD.o; omega);have n7 : 0 ≤ d7 := by omega
 have m7 : d7 ≤ 1048576 := by omega
 clear hd7;clear c7;have HL := zh (Zas (n := Zad r) (l := k) (by have := HE.o; have := HD.o; omega));go_wp2_with fail;go_ret;exact ⟨Zat (by rw [HL.o]; have := HE.o; have := HD.o; omega), HB7.o⟩
end Go.Proofs.YtpmhelkiicigfaaGreatDoor
