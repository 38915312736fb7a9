/- Part of the walks that the claim stands on. -/
import Derived.Lib.Hide
import Derived.Below
import Derived.Laws.Rows
import Derived.Deep.RegionHeld3
import Derived.Deep.DrawnRows
import Derived.WalkKit
import Derived.ProofKit
import Derived.OpenShut
import Derived.Laws.AppendOwn
import Derived.OwnWalk
import Derived.Laws.Strings
import Derived.Lib.ItoaMem
import Derived.Lib.ItoaLen
import Derived.Lib.Split
import Derived.Test.YtpmhelkiicigfaaGreatDoorChecked
import Derived.WalkSpells
import Derived.WalkLawsBesides
import Derived.Outline
import Derived.Test.YtpmhelkiicigfaaGreatDoorShelf
import Derived.Deep.QuietTactic
import Derived.BigQuiet
import Derived.Deep.DeepCutAuto
set_option maxRecDepth 100000
set_option maxHeartbeats 40000000
namespace Go.Proofs.YtpmhelkiicigfaaGreatDoor
open Go.RowKit
theorem nA {α : Type} (l : List α) (i : Nat) (a : α) : l.toArray.setIfInBounds i a = (l.set i a).toArray := List.setIfInBounds_toArray ..
theorem nB {α : Type} (a b : α) (l : List α) : (a :: l).set 0 b = b :: l := rfl
theorem nC {α : Type} (a b : α) (l : List α) (n : Nat) : (a :: l).set (n + 1) b = a :: l.set n b := rfl
theorem nD {α : Type} (l : List α) (i : Nat) : l.toArray[i]? = l[i]? := List.getElem?_toArray
theorem nE {α : Type} (a : α) (l : List α) (i : Nat) : (a :: l)[i + 1]? = l[i]? := List.getElem?_cons_succ
theorem nF {α : Type} (a : α) (l : List α) : (a :: l)[0]? = some a := List.getElem?_cons_zero
theorem nH {α : Type} [BEq α] [LawfulBEq α] {a b : α} : (a == b) = false ↔ a ≠ b := beq_eq_false_iff_ne
theorem nI {p : Prop} [Decidable p] : decide p = false ↔ ¬ p := decide_eq_false_iff_not
theorem nJ {p : Prop} [Decidable p] : (decide p = true) = p := decide_eq_true_eq
theorem nK {α : Type} [BEq α] [LawfulBEq α] {a b : α} : (a == b) = true ↔ a = b := beq_iff_eq
theorem nL {α : Type} [BEq α] [LawfulBEq α] {a b : α} : (a != b) = true ↔ a ≠ b := bne_iff_ne
theorem nM (b : Bool) : ((!b) = true) = (b = false) := Bool.not_eq_true' b
def Hd (p : Prop) : Prop := p
theorem Hd.o {p : Prop} (h : Hd p) : p := h
theorem zh {p : Prop} (h : p) : Hd p := h
theorem lB {w : World} {b : Nat} {o : Obj} (h : w.heap[b]? = some o) : b < w.heap.size := (Array.getElem?_eq_some_iff.1 h).1
theorem zB {u v : World} {b : Nat} {o : Obj} (h : Hd (Below u.heap.size u v)) (k : Hd (u.heap[b]? = some o)) : Hd (v.heap[b]? = some o) := (Below.block h b (lB k)).trans k
theorem zC {u v : World} {b : Nat} {o : Obj} (h : Below u.heap.size u v) (k : Hd (u.heap[b]? = some o)) : Hd (v.heap[b]? = some o) := (Below.block h b (lB k)).trans k
theorem cq {w : World} {g : Nat} {cs : Array Value} {t : TypeId} {fr : Nat × Nat} (h : w.heap[g]? = some (.cells cs t fr)) (j : Nat) : w.cell? ⟨g, j, none⟩ = cs[j]? := cell_of_row w g j cs t fr h
theorem fz {w : World} {g : Nat} {cs : Array Value} {t : TypeId} (h : w.heap[g]? = some (.cells cs t (0, 0))) : ∀ j, w.frozen? ⟨g, j, none⟩ = false := fun j => frozen_of_row w g j cs t h
theorem cz2 {w : World} {g : Nat} {t : TypeId} {fr : Nat × Nat} {r : List Value} {a0 a1 : Value} (h : w.heap[g]? = some (.cells (a0 :: a1 :: r).toArray t fr)) : w.cell? ⟨g, 0, none⟩ = some a0 ∧ w.cell? ⟨g, 1, none⟩ = some a1 := ⟨(cell_of_row w g 0 _ t fr h).trans (by simp), (cell_of_row w g 1 _ t fr h).trans (by simp)⟩
theorem cz3 {w : World} {g : Nat} {t : TypeId} {fr : Nat × Nat} {r : List Value} {a0 a1 a2 : Value} (h : w.heap[g]? = some (.cells (a0 :: a1 :: a2 :: r).toArray t fr)) : w.cell? ⟨g, 0, none⟩ = some a0 ∧ w.cell? ⟨g, 1, none⟩ = some a1 ∧ w.cell? ⟨g, 2, none⟩ = some a2 := ⟨(cell_of_row w g 0 _ t fr h).trans (by simp), (cell_of_row w g 1 _ t fr h).trans (by simp), (cell_of_row w g 2 _ t fr h).trans (by simp)⟩
theorem cz4 {w : World} {g : Nat} {t : TypeId} {fr : Nat × Nat} {r : List Value} {a0 a1 a2 a3 : Value} (h : w.heap[g]? = some (.cells (a0 :: a1 :: a2 :: a3 :: r).toArray t fr)) : w.cell? ⟨g, 0, none⟩ = some a0 ∧ w.cell? ⟨g, 1, none⟩ = some a1 ∧ w.cell? ⟨g, 2, none⟩ = some a2 ∧ w.cell? ⟨g, 3, none⟩ = some a3 := ⟨(cell_of_row w g 0 _ t fr h).trans (by simp), (cell_of_row w g 1 _ t fr h).trans (by simp), (cell_of_row w g 2 _ t fr h).trans (by simp), (cell_of_row w g 3 _ t fr h).trans (by simp)⟩
theorem cz5 {w : World} {g : Nat} {t : TypeId} {fr : Nat × Nat} {r : List Value} {a0 a1 a2 a3 a4 : Value} (h : w.heap[g]? = some (.cells (a0 :: a1 :: a2 :: a3 :: a4 :: r).toArray t fr)) : w.cell? ⟨g, 0, none⟩ = some a0 ∧ w.cell? ⟨g, 1, none⟩ = some a1 ∧ w.cell? ⟨g, 2, none⟩ = some a2 ∧ w.cell? ⟨g, 3, none⟩ = some a3 ∧ w.cell? ⟨g, 4, none⟩ = some a4 := ⟨(cell_of_row w g 0 _ t fr h).trans (by simp), (cell_of_row w g 1 _ t fr h).trans (by simp), (cell_of_row w g 2 _ t fr h).trans (by simp), (cell_of_row w g 3 _ t fr h).trans (by simp), (cell_of_row w g 4 _ t fr h).trans (by simp)⟩
theorem cz6 {w : World} {g : Nat} {t : TypeId} {fr : Nat × Nat} {r : List Value} {a0 a1 a2 a3 a4 a5 : Value} (h : w.heap[g]? = some (.cells (a0 :: a1 :: a2 :: a3 :: a4 :: a5 :: r).toArray t fr)) : w.cell? ⟨g, 0, none⟩ = some a0 ∧ w.cell? ⟨g, 1, none⟩ = some a1 ∧ w.cell? ⟨g, 2, none⟩ = some a2 ∧ w.cell? ⟨g, 3, none⟩ = some a3 ∧ w.cell? ⟨g, 4, none⟩ = some a4 ∧ w.cell? ⟨g, 5, none⟩ = some a5 := ⟨(cell_of_row w g 0 _ t fr h).trans (by simp), (cell_of_row w g 1 _ t fr h).trans (by simp), (cell_of_row w g 2 _ t fr h).trans (by simp), (cell_of_row w g 3 _ t fr h).trans (by simp), (cell_of_row w g 4 _ t fr h).trans (by simp), (cell_of_row w g 5 _ t fr h).trans (by simp)⟩
theorem Zbb {w : World} {g : Nat} {t : TypeId} {fr : Nat × Nat} {r : List Value} {a0 a1 a2 a3 a4 a5 a6 a7 a8 a9 a10 a11 a12 : Value} (h : w.heap[g]? = some (.cells (a0 :: a1 :: a2 :: a3 :: a4 :: a5 :: a6 :: a7 :: a8 :: a9 :: a10 :: a11 :: a12 :: r).toArray t fr)) : w.cell? ⟨g, 0, none⟩ = some a0 ∧ w.cell? ⟨g, 1, none⟩ = some a1 ∧ w.cell? ⟨g, 2, none⟩ = some a2 ∧ w.cell? ⟨g, 3, none⟩ = some a3 ∧ w.cell? ⟨g, 4, none⟩ = some a4 ∧ w.cell? ⟨g, 5, none⟩ = some a5 ∧ w.cell? ⟨g, 6, none⟩ = some a6 ∧ w.cell? ⟨g, 7, none⟩ = some a7 ∧ w.cell? ⟨g, 8, none⟩ = some a8 ∧ w.cell? ⟨g, 9, none⟩ = some a9 ∧ w.cell? ⟨g, 10, none⟩ = some a10 ∧ w.cell? ⟨g, 11, none⟩ = some a11 ∧ w.cell? ⟨g, 12, none⟩ = some a12 := ⟨(cell_of_row w g 0 _ t fr h).trans (by simp), (cell_of_row w g 1 _ t fr h).trans (by simp), (cell_of_row w g 2 _ t fr h).trans (by simp), (cell_of_row w g 3 _ t fr h).trans (by simp), (cell_of_row w g 4 _ t fr h).trans (by simp), (cell_of_row w g 5 _ t fr h).trans (by simp), (cell_of_row w g 6 _ t fr h).trans (by simp), (cell_of_row w g 7 _ t fr h).trans (by simp), (cell_of_row w g 8 _ t fr h).trans (by simp), (cell_of_row w g 9 _ t fr h).trans (by simp), (cell_of_row w g 10 _ t fr h).trans (by simp), (cell_of_row w g 11 _ t fr h).trans (by simp), (cell_of_row w g 12 _ t fr h).trans (by simp)⟩
end Go.Proofs.YtpmhelkiicigfaaGreatDoor
namespace Go.Proofs.YtpmhelkiicigfaaGreatDoor
open Go.RowKit
/-- x is w with new blocks alone (and other draws). -/
def Za (w x : World) : Prop := Below w.heap.size w x
theorem Za.refl (w : World) : Za w w := Below.refl _ _
theorem Za.trans {a b c : World} (h : Za a b) (k : Za b c) : Za a c := Below.trans h (Below.mono k h.size)
theorem Za.cell {w x : World} (h : Za w x) : ∀ p : Addr, p.block < w.heap.size → x.cell? p = w.cell? p := fun _ hp => Below.cell h hp
theorem Za.frozen {w x : World} (h : Za w x) : ∀ p : Addr, p.block < w.heap.size → x.frozen? p = w.frozen? p := fun _ hp => Below.frozen h hp
theorem Za.block {w x : World} (h : Za w x) : ∀ k, k < w.heap.size → x.heap[k]? = w.heap[k]? := fun k hk => Below.block h k hk
theorem Za.size {w x : World} (h : Za w x) : w.heap.size ≤ x.heap.size := Below.size h
theorem Za.drew {w x : World} (h : Za w x) : Za w x.drew := Below.drew h
theorem Za.alloc {w x : World} (h : Za w x) (o : Obj) : Za w (x.alloc o) := Below.alloc h h.size o
section
variable {P : Program} {ops : Array Oper} {Q : Exit → Act → World → Prop} {md : Region.Mode} {tl : Nat → Bool} {S S' : World → Prop}
/-- Whatever order is picked from here on; behind every operation that is not among the last ones S holds. -/
def Zi8 (P : Program) (md : Region.Mode) (ops : Array Oper) (Q : Exit → Act → World → Prop) (tl : Nat → Bool) (S : World → Prop) : Nat → Array Bool → Act → World → Prop
 | 0, listed, a, w => Region.ready md ops listed = [] ∧ Q .normal a w
 | fuel + 1, listed, a, w =>
  (Region.ready md ops listed = [] → Q .normal a w) ∧
  ∀ i ∈ Region.ready md ops listed, wpOp P ops Q i (fun a' w' => (tl i = false → S w') ∧ Zi8 P md ops Q tl S fuel (listed.setIfInBounds i true) a' w') a w
theorem Zpg : ∀ (fuel : Nat) (listed : Array Bool) (a : Act) (w : World), Zi8 P md ops Q tl S fuel listed a w → wpAny P md ops Q fuel listed a w
 | 0, _, _, _, h => h
 | fuel + 1, _, _, _, h => ⟨h.1, fun i hi => wpOp_mono (fun a' w' h' => Zpg fuel _ a' w' h'.2) (h.2 i hi)⟩
theorem Znd (hs : ∀ w, S' w → S w) : ∀ (fuel : Nat) (listed : Array Bool) (a : Act) (w : World), Zi8 P md ops Q tl S' fuel listed a w → Zi8 P md ops Q tl S fuel listed a w
 | 0, _, _, _, h => h
 | fuel + 1, _, _, _, h => ⟨h.1, fun i hi => wpOp_mono (fun a' w' h' => ⟨fun ht => hs _ (h'.1 ht), Znd hs fuel _ a' w' h'.2⟩) (h.2 i hi)⟩
/-- What is listed has its forerunners listed. -/
def Zi9 (md : Region.Mode) (ops : Array Oper) (listed : Array Bool) : Prop :=
 ∀ j o, ops[j]? = some o → listed.getD j false = true → ∀ e ∈ o.after, Region.binds md e = true → listed.getD e.on false = true
def Zqo (md : Region.Mode) (ops : Array Oper) (listed : Array Bool) : Bool :=
 (List.range ops.size).all fun j => !listed.getD j false || match ops[j]? with
  | some o => o.after.all fun e => !Region.binds md e || listed.getD e.on false
  | none => true
theorem Zl0 {listed : Array Bool} (h : Zqo md ops listed = true) : Zi9 md ops listed := by
 intro j o ho hl e he hb;have hj : j < ops.size := (Array.getElem?_eq_some_iff.1 ho).1;have h1 := List.all_eq_true.1 h j (List.mem_range.2 hj);simp only [ho, hl, Bool.not_true, Bool.false_or] at h1;have h2 := Array.all_eq_true_iff_forall_mem.1 h1 e he
 simpa [hb] using h2
theorem Zhx {listed : Array Bool} {j : Nat} (h : Zi9 md ops listed) (hj : j ∈ Region.ready md ops listed) : Zi9 md ops (listed.setIfInBounds j true) := by
 intro k o ho hl e he hb;obtain ⟨_, oj, hoj, hall⟩ := mem_ready.1 hj
 by_cases hjk : j = k
 ·subst hjk;rw [hoj] at ho
  cases ho
  exact getD_set_true (hall e he hb)
 ·rw [getD_set_ne false hjk] at hl;exact getD_set_true (h k o ho hl e he hb)
/-- j waits for i, at once or through others. -/
def Zic (md : Region.Mode) (ops : Array Oper) : Nat → Nat → Nat → Bool
 | 0, _, _ => false
 | f + 1, j, i => match ops[j]? with
  | some o => o.after.any fun e => Region.binds md e && (e.on == i || Zic md ops f e.on i)
  | none => false
theorem Zen {listed : Array Bool} (hc : Zi9 md ops listed) : ∀ (f j i : Nat) (o : Oper), ops[j]? = some o → (∀ e ∈ o.after, Region.binds md e = true → listed.getD e.on false = true) →
  Zic md ops f j i = true → listed.getD i false = true
 | 0, _, _, _, _, _, h => by simp [Zic] at h
 | f + 1, j, i, o, ho, hall, h => by
  simp only [Zic, ho] at h;obtain ⟨e, he, h1⟩ := Array.any_eq_true'.1 h;simp only [Bool.and_eq_true, Bool.or_eq_true, beq_iff_eq] at h1;obtain ⟨hb, h2⟩ := h1
  rcases h2 with h2 | h2
  ·rw [← h2]; exact hall e he hb
  ·rcases hoe : ops[e.on]? with _ | oe
   ·cases f <;> simp [Zic, hoe] at h2
   ·exact Zen hc f e.on i oe hoe (hc e.on oe hoe (hall e he hb)) h2
/-- The post of one operation that comes up alone. -/
def Zne (Q : Exit → Act → World → Prop) (w : World) (K : Act → World → Prop) : Exit → Act → World → Prop
 | .normal, a', w' => Za w w' ∧ K a' w'
 | e, a', w' => Q e a' w'
/-- What is left comes up one by one. -/
def Zeo (ops : Array Oper) : List Nat → Array Bool → Bool
 | [], listed => (Region.ready .any ops listed).isEmpty
 | i :: r, listed => (Region.ready .any ops listed == [i]) && Zeo ops r (listed.setIfInBounds i true)
theorem Zq8 {S : World → Prop} : ∀ (L : List Nat) (os : List Oper) (listed : Array Bool) (a : Act) (w : World), Zeo ops L listed = true → (∀ i ∈ L, tl i = true) → L.map (ops[·]?) = os.map some →
  wpList P ops Q os a w → Zi8 P .any ops Q tl S L.length listed a w
 | [], os, listed, a, w, hch, _, hos, h => by
  have : os = [] := by cases os with
   | nil => rfl
   | cons => simp at hos
  subst this;exact ⟨by simpa [Zeo] using hch, h⟩
 | i :: L, os, listed, a, w, hch, htl, hos, h => by
  obtain ⟨o, os', rfl⟩ : ∃ o os', os = o :: os' := by cases os with
   | nil => simp at hos
   | cons o os' => exact ⟨o, os', rfl⟩
  simp only [List.map_cons, List.cons.injEq] at hos;simp only [Zeo, Bool.and_eq_true, beq_iff_eq] at hch;obtain ⟨hr, hch'⟩ := hch;refine ⟨fun h0 => (by rw [hr] at h0; cases h0), fun j hj => ?_⟩;rw [hr] at hj;obtain rfl : j = i := by simpa using hj
  have hK : ∀ a' w', wpList P ops Q os' a' w' → ((tl j = false → S w') ∧ Zi8 P .any ops Q tl S L.length (listed.setIfInBounds j true) a' w') := fun a' w' h' =>
   ⟨fun ht => (by rw [htl j (by simp)] at ht; cases ht), Zq8 L os' _ a' w' hch' (fun k hk => htl k (by simp [hk])) hos.2 h'⟩
  unfold wpList at h;unfold wpOp;rw [hos.1];show if Region.wanted o (yielded ops a.tmps) = true then _ else _
  split
  ·rename_i hw;rw [if_pos hw] at h;exact h.imp (Oper.wp_mono hK) id
  ·rename_i hw;rw [if_neg hw] at h;exact hK _ _ h
end
end Go.Proofs.YtpmhelkiicigfaaGreatDoor
namespace Go.Proofs.YtpmhelkiicigfaaGreatDoor
open Go.RowKit
/-- The world x keeps the blocks of w that satisfy F. -/
structure Ze (F : Nat → Prop) (w x : World) : Prop where
 size : w.heap.size ≤ x.heap.size
 same : ∀ b, F b → b < w.heap.size → x.heap[b]? = w.heap[b]?
theorem Ze.later {F : Nat → Prop} {w x : World} (h : Za w x) : Ze F w x := ⟨h.size, fun b _ hb => h.block b hb⟩
theorem Ze.trans {F : Nat → Prop} {w x y : World} (h : Ze F w x) (k : Ze F x y) : Ze F w y :=
 ⟨Nat.le_trans h.size k.size, fun b hF hb => (k.same b hF (Nat.lt_of_lt_of_le hb h.size)).trans (h.same b hF hb)⟩
theorem Ze.set {F : Nat → Prop} {w x : World} (h : Ze F w x) {B : Nat} (hB : ¬ F B) (o : Nat) (v : Value) : Ze F w (x.setCell ⟨B, o, none⟩ v) :=
 ⟨Nat.le_trans h.size (Below.setCell (B := 0) (Below.refl 0 x) (p := ⟨B, o, none⟩) (Nat.zero_le _) v).size, fun b hF hb => (Below.heap_setCell _ _ _ _ (fun e => hB (by have e2 : b = B := e; rw [← e2]; exact hF))).trans (h.same b hF hb)⟩
theorem Ze.cell {F : Nat → Prop} {w x : World} (h : Ze F w x) {b o : Nat} (hF : F b) (hb : b < w.heap.size) : x.cell? ⟨b, o, none⟩ = w.cell? ⟨b, o, none⟩ := World.cell?_of_block (w := w) (h.same b hF hb)
/-- How a thing lies in cells: F holds of the blocks that it reaches. -/
abbrev Zbt (α : Type) := (Nat → Prop) → World → α → List Value → Prop
structure Zcx {α : Type} (El : Zbt α) (size : Nat) : Prop where
 len : ∀ {F w a cs}, El F w a cs → cs.length = size
 keep : ∀ {F G : Nat → Prop} {w x a cs}, El F w a cs → (∀ b, F b → G b) → Ze F w x → El G x a cs
/-- A row of things. -/
def Zo {α : Type} (El : Zbt α) (size : Nat) (F : Nat → Prop) (w : World) (l : List α) (v : Value) : Prop :=
 ∃ A c, v = .slice A l.length c ∧ l.length ≤ c ∧ c ≤ maxLen ∧ ∀ i (h : i < l.length), ∃ b o cs, A = some ⟨b, o, none⟩ ∧ F b ∧ b < w.heap.size ∧ El F w l[i] cs ∧ ∀ j x, cs[j]? = some x → w.cell? ⟨b, o + i * size + j, none⟩ = some x
def Zwj {α : Type} (El : Zbt α) (size : Nat) : Zbt (List α) := fun F w l cs => ∃ v, cs = [v] ∧ Zo El size F w l v
def Zy (n : Int) : Prop := -9223372036854775808 ≤ n ∧ n ≤ 9223372036854775807
def Zbz : Zbt ByteArray := fun _ _ s cs => cs = [.string s] ∧ s.size ≤ maxLen
def Zqp : Zbt Int := fun _ _ n cs => cs = [.int .i64 n] ∧ Zy n
def Zst : Zbt Bool := fun _ _ b cs => cs = [.bool b]
section
variable {α : Type} {El : Zbt α} {size : Nat} {F G : Nat → Prop} {w x : World} {l : List α} {v : Value}
theorem Zo.keep (hE : Zcx El size) (h : Zo El size F w l v) (hFG : ∀ b, F b → G b) (hk : Ze F w x) : Zo El size G x l v := by
 obtain ⟨A, c, rfl, h1, h2, h3⟩ := h;refine ⟨A, c, rfl, h1, h2, fun i hi => ?_⟩;obtain ⟨b, o, cs, e, hF, hb, hel, hc⟩ := h3 i hi;exact ⟨b, o, cs, e, hFG b hF, Nat.lt_of_lt_of_le hb hk.size, hE.keep hel hFG hk, fun j y hy => (hk.cell hF hb).trans (hc j y hy)⟩
theorem Zo.later (hE : Zcx El size) (h : Zo El size F w l v) (hl : Za w x) : Zo El size F x l v := h.keep hE (fun _ hb => hb) (Ze.later hl)
theorem Zo.nil (El : Zbt α) (size : Nat) (F : Nat → Prop) (w : World) : Zo El size F w ([] : List α) (.slice none 0 0) := ⟨none, 0, rfl, Nat.le_refl _, Nat.zero_le _, fun i h => by simp at h⟩
end
theorem Zad : Zcx Zbz 1 where
 len := fun h => by rw [h.1]; rfl
 keep := fun h _ _ => h
theorem Zsu : Zcx Zqp 1 where
 len := fun h => by rw [h.1]; rfl
 keep := fun h _ _ => h
/-! ### Many cells written -/
def Zz (w : World) (B : Nat) : Nat → List Value → World
 | _, [] => w
 | o, v :: vs => Zz (w.setCell ⟨B, o, none⟩ v) B (o + 1) vs
theorem Zbw {B k : Nat} (hk : k ≠ B) : ∀ (vs : List Value) (w : World) (o : Nat), (Zz w B o vs).heap[k]? = w.heap[k]?
 | [], _, _ => rfl
 | v :: vs, w, o => by rw [Zz, Zbw hk vs]; exact Below.heap_setCell _ _ _ _ hk
theorem Zaa {w : World} {M o : Nat} {cur : Array Value} {T : TypeId} (h : w.heap[M]? = some (.cells cur T (0, 0))) (u : Value) :
  (w.setCell ⟨M, o, none⟩ u).heap[M]? = some (.cells (cur.setIfInBounds o u) T (0, 0)) := by
 simp only [World.setCell];rw [Array.getElem?_modify];simp [h]
theorem Ze8 {B : Nat} {T : TypeId} : ∀ (vs : List Value) (w : World) (o : Nat) (cur : Array Value), w.heap[B]? = some (.cells cur T (0, 0)) → o + vs.length ≤ cur.size →
  ∃ cur', (Zz w B o vs).heap[B]? = some (.cells cur' T (0, 0)) ∧ cur'.size = cur.size ∧ (∀ p, (p < o ∨ o + vs.length ≤ p) → cur'[p]? = cur[p]?) ∧ ∀ q y, vs[q]? = some y → cur'[o + q]? = some y
 | [], w, o, cur, h, _ => ⟨cur, h, rfl, fun _ _ => rfl, fun q y hq => by simp at hq⟩
 | v :: vs, w, o, cur, h, hs => by
  simp only [List.length_cons] at hs;obtain ⟨cur', h1, h2, h3, h4⟩ := Ze8 vs (w.setCell ⟨B, o, none⟩ v) (o + 1) (cur.setIfInBounds o v) (Zaa h v) (by simp; omega);refine ⟨cur', h1, by rw [h2]; simp, fun p hp => ?_, fun q y hq => ?_⟩
  ·simp only [List.length_cons] at hp;rw [h3 p (by omega), Array.getElem?_setIfInBounds_ne (by omega)]
  ·cases q with
   | zero =>
    obtain rfl : v = y := by simpa using hq
    rw [Nat.add_zero, h3 o (by omega), Array.getElem?_setIfInBounds_self_of_lt (by omega)]
   | succ q => rw [show o + (q + 1) = o + 1 + q by omega]; exact h4 q y (by simpa using hq)
theorem Zae {b B : Nat} {a : World} (hB : b ≤ B) : ∀ (vs : List Value) (w : World) (o : Nat), Below b a w → Below b a (Zz w B o vs)
 | [], _, _, h => h
 | v :: vs, w, o, h => Zae hB vs _ _ (h.setCell hB v)
theorem Zaf {F : Nat → Prop} {B : Nat} {w : World} (hB : ¬ F B) : ∀ (vs : List Value) (x : World) (o : Nat), Ze F w x → Ze F w (Zz x B o vs)
 | [], _, _, h => h
 | v :: vs, x, o, h => Zaf hB vs _ _ (h.set hB o v)
/-! ### A row that is being made -/
/-- The first j things lie in the block B already. -/
def Zgc {α : Type} (El : Zbt α) (size : Nat) (T : TypeId) (B : Nat) (F : Nat → Prop) (l : List α) (j : Nat) (w : World) : Prop :=
 ∃ cur, w.heap[B]? = some (.cells cur T (0, 0)) ∧ cur.size = l.length * size ∧ ∀ i (h : i < l.length), i < j → ∃ cs, El F w l[i] cs ∧ ∀ q x, cs[q]? = some x → cur[i * size + q]? = some x
section
variable {α : Type} {El : Zbt α} {size : Nat} {T : TypeId} {B : Nat} {F G : Nat → Prop} {w x : World} {l : List α}
theorem Zgc.start {cur : Array Value} (h : w.heap[B]? = some (.cells cur T (0, 0))) (hs : cur.size = l.length * size) : Zgc El size T B F l 0 w := ⟨cur, h, hs, fun i _ h => by omega⟩
theorem Zgc.next {j : Nat} (hE : Zcx El size) (hF : ¬ F B) (h : Zgc El size T B F l j w) (hl : Za w x) (hj : j < l.length) {cs : List Value} (he : El F x l[j] cs) : Zgc El size T B F l (j + 1) (Zz x B (j * size) cs) := by
 obtain ⟨cur, hB, hs, hall⟩ := h;have hBx : x.heap[B]? = some (.cells cur T (0, 0)) := (hl.block B (Array.getElem?_eq_some_iff.1 hB).1).trans hB;have hlen := hE.len he;have hroom : j * size + size ≤ cur.size := by
  have : (j + 1) * size ≤ l.length * size := Nat.mul_le_mul_right _ hj;rw [Nat.add_mul, Nat.one_mul] at this
  omega
 obtain ⟨cur', h1, h2, h3, h4⟩ := Ze8 cs x (j * size) cur hBx (by omega);refine ⟨cur', h1, by omega, fun i hi hij => ?_⟩;have hk : Ze F x (Zz x B (j * size) cs) := Zaf hF _ _ _ (Ze.later (Za.refl _))
 by_cases e : i = j
 ·subst e;exact ⟨cs, hE.keep he (fun _ h => h) hk, h4⟩
 ·obtain ⟨cs0, ha, hb⟩ := hall i hi (by omega);refine ⟨cs0, hE.keep ha (fun _ h => h) ((Ze.later hl).trans hk), fun q y hq => ?_⟩;have hq' : q < size := by have := hE.len ha; have := (List.getElem?_eq_some_iff.1 hq).1; omega
  have : (i + 1) * size ≤ j * size := Nat.mul_le_mul_right _ (by omega);rw [Nat.add_mul, Nat.one_mul] at this;rw [h3 _ (by omega)];exact hb q y hq
theorem Zgc.done (hE : Zcx El size) (h : Zgc El size T B F l l.length w) (hFG : ∀ b, F b → G b) (hG : G B) (hn : l.length ≤ maxLen) : Zo El size G w l (.slice (some ⟨B, 0, none⟩) l.length l.length) := by
 obtain ⟨cur, hB, hs, hall⟩ := h;refine ⟨_, _, rfl, Nat.le_refl _, hn, fun i hi => ?_⟩;obtain ⟨cs, ha, hb⟩ := hall i hi hi;exact ⟨B, 0, cs, rfl, hG, (Array.getElem?_eq_some_iff.1 hB).1, hE.keep ha hFG (Ze.later (Za.refl _)), fun q y hq => by rw [Nat.zero_add, cell_of_row _ _ _ _ _ _ hB]; exact hb q y hq⟩
theorem Zgc.later {j : Nat} (hE : Zcx El size) (h : Zgc El size T B F l j w) (hl : Za w x) : Zgc El size T B F l j x := by
 obtain ⟨cur, hB, hs, hall⟩ := h;refine ⟨cur, (hl.block B (Array.getElem?_eq_some_iff.1 hB).1).trans hB, hs, fun i hi hij => ?_⟩;obtain ⟨cs, ha, hb⟩ := hall i hi hij;exact ⟨cs, hE.keep ha (fun _ h => h) (Ze.later hl), hb⟩
theorem Zgc.at_ {j : Nat} (h : Zgc El size T B F l j w) {k : Nat} (hk : k < l.length) : (∀ q, q < size → ∃ v, w.cell? ⟨B, k * size + q, none⟩ = some v) ∧ ∀ o, w.frozen? ⟨B, o, none⟩ = false := by
 obtain ⟨cur, hB, hs, _⟩ := h;refine ⟨fun q hq => ?_, fun o => frozen_of_row _ _ _ _ _ hB⟩;have : (k + 1) * size ≤ l.length * size := Nat.mul_le_mul_right _ hk;rw [Nat.add_mul, Nat.one_mul] at this;exact ⟨cur[k * size + q]'(by omega), by rw [cell_of_row _ _ _ _ _ _ hB]; exact Array.getElem?_eq_getElem _⟩
end
/-! ### How much there is -/
def Zci (n : Nat) (l : Int) : Int := if (n : Int) ≤ l then l - n else -1
theorem Zan {n : Nat} {l : Int} (h : (n : Int) ≤ l) : Zci n l = l - n := by unfold Zci; rw [if_pos h]
theorem Z8 {n : Nat} {l : Int} (h : l < n) : Zci n l = -1 := by unfold Zci; rw [if_neg (by omega)]
theorem Zak {m n : Int} (h : m = n) : Ending.returned (Value.int .i64 m) = Ending.returned (Value.int .i64 n) := by rw [h]
def Za0 {α : Type} (sz : α → Nat) : List α → Nat
 | [] => 0
 | a :: l => sz a + Za0 sz l
def Zk {α : Type} (sz : α → Nat) (l : List α) : Nat := l.length + Za0 sz l
theorem Ze0 {α : Type} (sz : α → Nat) : ∀ (l : List α) (j : Nat) (h : j < l.length), Za0 sz (l.take (j + 1)) = Za0 sz (l.take j) + sz l[j]
 | a :: l, 0, _ => by simp [Za0]
 | a :: l, j + 1, h => by
  have := Ze0 sz l j (by simpa using h);simp only [List.take_succ_cons, Za0, List.getElem_cons_succ]
  omega
theorem Zgj {α : Type} (sz : α → Nat) : ∀ (l : List α) (j : Nat), Za0 sz (l.take j) ≤ Za0 sz l
 | [], j => by simp [Za0]
 | a :: l, 0 => by simp [Za0]
 | a :: l, j + 1 => by
  have := Zgj sz l j;simp only [List.take_succ_cons, Za0]
  omega
theorem Zdz {α : Type} (sz : α → Nat) : ∀ (l : List α) (a : α), a ∈ l → sz a ≤ Za0 sz l
 | b :: l, a, h => by
  simp only [Za0]
  rcases List.mem_cons.1 h with rfl | h
  ·omega
  ·have := Zdz sz l a h; omega
end Go.Proofs.YtpmhelkiicigfaaGreatDoor
namespace Go.Proofs.YtpmhelkiicigfaaGreatDoor
open Go.RowKit
/-- S is a way of lying in cells that shares nothing; El forgets that. -/
structure Zfg {α : Type} (S El : Zbt α) (size : Nat) : Prop where
 is : Zcx S size
 el : ∀ {F w a cs}, S F w a cs → El F w a cs
 trim : ∀ {F w a cs}, S F w a cs → S (fun b => F b ∧ b < w.heap.size) w a cs
/-- A row of things in a block of its own (tag tells which thing a block further down belongs to). -/
def Zbe {α : Type} (S : Zbt α) (size : Nat) (T : TypeId) (F : Nat → Prop) (w : World) (l : List α) (v : Value) : Prop :=
 ∃ A c, v = .slice A l.length c ∧ l.length ≤ c ∧ c ≤ maxLen ∧ (0 < c → ∃ (b o : Nat) (cur : Array Value) (tag : Nat → Nat), A = some ⟨b, o, none⟩ ∧ F b ∧ w.heap[b]? = some (.cells cur T (0, 0)) ∧ (o = 0 ∧ o + c * size ≤ cur.size) ∧
  ∀ i (h : i < l.length), ∃ cs, S (fun x => (F x ∧ x ≠ b) ∧ tag x = i) w l[i] cs ∧ ∀ j x, cs[j]? = some x → cur[o + i * size + j]? = some x)
section
variable {α : Type} {S El : Zbt α} {size : Nat} {T : TypeId} {F G : Nat → Prop} {w x : World} {l : List α} {v : Value}
theorem Zb {w : World} {b : Nat} {o : Obj} (h : w.heap[b]? = some o) : b < w.heap.size := (Array.getElem?_eq_some_iff.1 h).1
theorem Ze.mono {F G : Nat → Prop} {w x : World} (h : Ze F w x) (hFG : ∀ b, G b → F b) : Ze G w x := ⟨h.size, fun b hb hl => h.same b (hFG b hb) hl⟩
theorem Ze.refl (F : Nat → Prop) (w : World) : Ze F w w := ⟨Nat.le_refl _, fun _ _ _ => rfl⟩
theorem Zbe.nil (S : Zbt α) (size : Nat) (T : TypeId) (F : Nat → Prop) (w : World) : Zbe S size T F w ([] : List α) (.slice none 0 0) := ⟨none, 0, rfl, Nat.le_refl _, Nat.zero_le _, fun h => by simp at h⟩
theorem Zbe.keep (hE : Zcx S size) (h : Zbe S size T F w l v) (hFG : ∀ b, F b → G b) (hk : Ze F w x) : Zbe S size T G x l v := by
 obtain ⟨A, c, rfl, h1, h2, h3⟩ := h;refine ⟨A, c, rfl, h1, h2, fun hp => ?_⟩;obtain ⟨b, o, cur, tag, e, hF, hb, hcp, hel⟩ := h3 hp;refine ⟨b, o, cur, tag, e, hFG b hF, (hk.same b hF (Zb hb)).trans hb, hcp, fun i hi => ?_⟩;obtain ⟨cs, hs, hc⟩ := hel i hi;exact ⟨cs, hE.keep hs (fun y hy => ⟨⟨hFG y hy.1.1, hy.1.2⟩, hy.2⟩) (hk.mono fun y hy => hy.1.1), hc⟩
theorem Zbe.later (hE : Zcx S size) (h : Zbe S size T F w l v) (hl : Za w x) : Zbe S size T F x l v := h.keep hE (fun _ hb => hb) (Ze.later hl)
theorem Zbe.el (hE : Zfg S El size) (h : Zbe S size T F w l v) : Zo El size F w l v := by
 obtain ⟨A, c, rfl, h1, h2, h3⟩ := h;refine ⟨A, c, rfl, h1, h2, fun i hi => ?_⟩;obtain ⟨b, o, cur, tag, e, hF, hb, hcp, hel⟩ := h3 (by omega);obtain ⟨cs, hs, hc⟩ := hel i hi;exact ⟨b, o, cs, e, hF, Zb hb, hE.el (hE.is.keep hs (fun y hy => hy.1.1) (Ze.refl _ _)), fun j y hy => (cell_of_row _ _ _ _ _ _ hb).trans (hc j y hy)⟩
theorem Zbe.trim (hE : Zfg S El size) (h : Zbe S size T F w l v) : Zbe S size T (fun b => F b ∧ b < w.heap.size) w l v := by
 obtain ⟨A, c, rfl, h1, h2, h3⟩ := h;refine ⟨A, c, rfl, h1, h2, fun hp => ?_⟩;obtain ⟨b, o, cur, tag, e, hF, hb, hcp, hel⟩ := h3 hp;refine ⟨b, o, cur, tag, e, ⟨hF, Zb hb⟩, hb, hcp, fun i hi => ?_⟩;obtain ⟨cs, hs, hc⟩ := hel i hi;exact ⟨cs, hE.is.keep (hE.trim hs) (fun y hy => ⟨⟨⟨hy.1.1.1, hy.2⟩, hy.1.1.2⟩, hy.1.2⟩) (Ze.refl _ _), hc⟩
end
theorem Zkm {α : Type} {El : Zbt α} {size : Nat} (hE : Zcx El size) (hflat : ∀ {F G w a cs}, El F w a cs → El G w a cs) : Zfg El El size := ⟨hE, fun h => h, fun h => hflat h⟩
theorem Zq : Zfg Zbz Zbz 1 := Zkm Zad fun h => h
theorem Ze1 {F : Nat → Prop} {B : Nat} {w x : World} (hk : Ze (fun y => ¬ F y) w x) (h0 : Below 0 w x) (hF : ∀ b, F b → B ≤ b) (hB : B ≤ w.heap.size) : Below B w x :=
 ⟨h0.os, h0.tape, h0.output, h0.size, fun k h => hk.same k (fun hf => by have := hF k hf; omega) (by omega)⟩
/-! ### A row that is being made -/
/-- The first j things lie in the block B already; what they Zic lies above it. -/
def SMk {α : Type} (S : Zbt α) (size : Nat) (T : TypeId) (B : Nat) (l : List α) (j : Nat) (w : World) : Prop :=
 ∃ (cur : Array Value) (tag : Nat → Nat), w.heap[B]? = some (.cells cur T (0, 0)) ∧ cur.size = l.length * size ∧ ∀ i (h : i < l.length), i < j → ∃ cs, S (fun x => (B < x ∧ x < w.heap.size) ∧ tag x = i) w l[i] cs ∧ ∀ q x, cs[q]? = some x → cur[i * size + q]? = some x
section
variable {α : Type} {S El : Zbt α} {size : Nat} {T : TypeId} {B : Nat} {F G : Nat → Prop} {w x : World} {l : List α}
theorem SMk.start {cur : Array Value} (h : w.heap[B]? = some (.cells cur T (0, 0))) (hs : cur.size = l.length * size) : SMk S size T B l 0 w := ⟨cur, fun _ => 0, h, hs, fun i _ h => by omega⟩
theorem SMk.next {j : Nat} (hE : Zfg S El size) (h : SMk S size T B l j w) (hl : Za w x) (hj : j < l.length) {cs : List Value} (he : S (fun b => w.heap.size ≤ b) x l[j] cs) : SMk S size T B l (j + 1) (Zz x B (j * size) cs) := by
 obtain ⟨cur, tag, hB, hs, hall⟩ := h;have hBw := Zb hB;have hBx : x.heap[B]? = some (.cells cur T (0, 0)) := (hl.block B hBw).trans hB;have hlen := hE.is.len he;have hroom : j * size + size ≤ cur.size := by
  have : (j + 1) * size ≤ l.length * size := Nat.mul_le_mul_right _ hj;rw [Nat.add_mul, Nat.one_mul] at this
  omega
 obtain ⟨cur', h1, h2, h3, h4⟩ := Ze8 cs x (j * size) cur hBx (by omega);have hkeep : ∀ {F : Nat → Prop}, ¬ F B → Ze F x (Zz x B (j * size) cs) := fun hF => Zaf hF _ _ _ (Ze.refl _ _);have hsz := (hkeep (F := fun _ => False) (by simp)).size;refine ⟨cur', fun y => if w.heap.size ≤ y then j else tag y, h1, by omega, fun i hi hij => ?_⟩
 by_cases e : i = j
 ·subst e;exact ⟨cs, hE.is.keep (hE.trim he) (fun y hy => ⟨⟨by omega, by omega⟩, by simp [hy.1]⟩) (hkeep (by omega)), h4⟩
 ·obtain ⟨cs0, ha, hb⟩ := hall i hi (by omega);refine ⟨cs0, hE.is.keep ha (fun y hy => ⟨⟨hy.1.1, by have := hl.size; omega⟩, by show (if w.heap.size ≤ y then j else tag y) = i; rw [if_neg (by omega)]; exact hy.2⟩) ((Ze.later hl).trans (hkeep (by omega))), fun q y hq => ?_⟩;have hq' : q < size := by have := hE.is.len ha; have := (List.getElem?_eq_some_iff.1 hq).1; omega
  have : (i + 1) * size ≤ j * size := Nat.mul_le_mul_right _ (by omega);rw [Nat.add_mul, Nat.one_mul] at this;rw [h3 _ (by omega)];exact hb q y hq
theorem SMk.done (hE : Zfg S El size) (h : SMk S size T B l l.length w) (hG : ∀ b, B ≤ b → G b) (hn : l.length ≤ maxLen) : Zbe S size T G w l (.slice (some ⟨B, 0, none⟩) l.length l.length) := by
 obtain ⟨cur, tag, hB, hs, hall⟩ := h;refine ⟨_, _, rfl, Nat.le_refl _, hn, fun _ => ⟨B, 0, cur, tag, rfl, hG B (Nat.le_refl _), hB, ⟨rfl, by omega⟩, fun i hi => ?_⟩⟩;obtain ⟨cs, ha, hb⟩ := hall i hi hi;exact ⟨cs, hE.is.keep ha (fun y hy => ⟨⟨hG y (by omega), by omega⟩, hy.2⟩) (Ze.refl _ _), fun q y hq => by rw [Nat.zero_add]; exact hb q y hq⟩
theorem SMk.later {j : Nat} (hE : Zcx S size) (h : SMk S size T B l j w) (hl : Za w x) : SMk S size T B l j x := by
 obtain ⟨cur, tag, hB, hs, hall⟩ := h;refine ⟨cur, tag, (hl.block B (Zb hB)).trans hB, hs, fun i hi hij => ?_⟩;obtain ⟨cs, ha, hb⟩ := hall i hi hij;exact ⟨cs, hE.keep ha (fun y hy => ⟨⟨hy.1.1, by have := hl.size; omega⟩, hy.2⟩) (Ze.later hl), hb⟩
theorem SMk.at_ {j : Nat} (h : SMk S size T B l j w) {k : Nat} (hk : k < l.length) : (∀ q, q < size → ∃ v, w.cell? ⟨B, k * size + q, none⟩ = some v) ∧ ∀ o, w.frozen? ⟨B, o, none⟩ = false := by
 obtain ⟨cur, tag, hB, hs, _⟩ := h;refine ⟨fun q hq => ?_, fun o => frozen_of_row _ _ _ _ _ hB⟩;have : (k + 1) * size ≤ l.length * size := Nat.mul_le_mul_right _ hk;rw [Nat.add_mul, Nat.one_mul] at this;exact ⟨cur[k * size + q]'(by omega), by rw [cell_of_row _ _ _ _ _ _ hB]; exact Array.getElem?_eq_getElem _⟩
theorem SMk.lt {j : Nat} (h : SMk S size T B l j w) : B < w.heap.size := by
 obtain ⟨cur, tag, hB, _⟩ := h;exact Zb hB
end
/-! ### A row that is being written over -/
/-- The row l lies in the block b from o on. -/
def SAt {α : Type} (S : Zbt α) (size : Nat) (T : TypeId) (F : Nat → Prop) (b o n : Nat) (tag : Nat → Nat) (w : World) (l : List α) : Prop :=
 ∃ cur, w.heap[b]? = some (.cells cur T (0, 0)) ∧ n ≤ cur.size ∧ ∀ i (h : i < l.length), ∃ cs, S (fun x => (F x ∧ x ≠ b) ∧ tag x = i) w l[i] cs ∧ ∀ j x, cs[j]? = some x → cur[o + i * size + j]? = some x
/-- The cells from base on are vs, the others as in cur0. -/
def St (T : TypeId) (b base : Nat) (cur0 : Array Value) (vs : List Value) (w : World) : Prop :=
 ∃ cur, w.heap[b]? = some (.cells cur T (0, 0)) ∧ cur.size = cur0.size ∧ base + vs.length ≤ cur.size ∧ (∀ p, (p < base ∨ base + vs.length ≤ p) → cur[p]? = cur0[p]?) ∧ ∀ q y, vs[q]? = some y → cur[base + q]? = some y
section
variable {α : Type} {S El : Zbt α} {size : Nat} {T : TypeId} {b o n base : Nat} {tag : Nat → Nat} {F G : Nat → Prop} {w x : World} {l : List α} {cur0 : Array Value} {vs : List Value}
theorem St.keep (h : St T b base cur0 vs w) (hk : x.heap[b]? = w.heap[b]?) : St T b base cur0 vs x := by
 obtain ⟨cur, hb, h⟩ := h;exact ⟨cur, hk.trans hb, h⟩
theorem St.lt (h : St T b base cur0 vs w) : b < w.heap.size := by
 obtain ⟨cur, hb, h⟩ := h;exact Zb hb
theorem St.later (h : St T b base cur0 vs w) (hl : Za w x) : St T b base cur0 vs x := h.keep (hl.block b h.lt)
theorem St.set (h : St T b base cur0 vs w) (q : Nat) (hq : q < vs.length) (u : Value) : St T b base cur0 (vs.set q u) (w.setCell ⟨b, base + q, none⟩ u) := by
 obtain ⟨cur, hb, hs, hr, ho, hi⟩ := h;refine ⟨_, Zaa hb u, by simpa using hs, by simpa using hr, fun p hp => ?_, fun q' y hy => ?_⟩
 ·simp only [List.length_set] at hp;rw [Array.getElem?_setIfInBounds_ne (by omega)];exact ho p hp
 ·by_cases e : q = q'
  ·subst e;rw [Array.getElem?_setIfInBounds_self_of_lt (by omega)]
   simpa [hq] using hy
  ·rw [Array.getElem?_setIfInBounds_ne (by omega)];exact hi q' y (by simpa [List.getElem?_set_ne e] using hy)
theorem St.cell (h : St T b base cur0 vs w) {q : Nat} {y : Value} (hy : vs[q]? = some y) : w.cell? ⟨b, base + q, none⟩ = some y := by
 obtain ⟨cur, hb, hs, hr, ho, hi⟩ := h;rw [cell_of_row _ _ _ _ _ _ hb];exact hi q y hy
theorem St.frozen (h : St T b base cur0 vs w) (o : Nat) : w.frozen? ⟨b, o, none⟩ = false := by
 obtain ⟨cur, hb, _⟩ := h;exact frozen_of_row _ _ _ _ _ hb
theorem SAt.open_ (hE : Zcx S size) (h : SAt S size T F b o n tag w l) {i : Nat} (hi : i < l.length) :
  ∃ cur cs, w.heap[b]? = some (.cells cur T (0, 0)) ∧ S (fun x => (F x ∧ x ≠ b) ∧ tag x = i) w l[i] cs ∧ (0 < size → St T b (o + i * size) cur cs w) := by
 obtain ⟨cur, hb, hnc, hall⟩ := h;obtain ⟨cs, hs, hc⟩ := hall i hi;refine ⟨cur, cs, hb, hs, fun h0 => ⟨cur, hb, rfl, ?_, fun _ _ => rfl, hc⟩⟩;have hl := hE.len hs;obtain ⟨q, rfl⟩ : ∃ q, size = q + 1 := ⟨size - 1, by omega⟩;have h1 := hc q _ (List.getElem?_eq_getElem (by omega));have := (Array.getElem?_eq_some_iff.1 h1).1
 omega
theorem SAt.put (hE : Zcx S size) (h : SAt S size T F b o n tag w l) {i : Nat} (hi : i < l.length) {cur : Array Value} (hc : w.heap[b]? = some (.cells cur T (0, 0))) {a : α} {cs : List Value}
  (hst : St T b (o + i * size) cur cs x) (hk : Ze (fun y => (F y ∧ y ≠ b) ∧ tag y ≠ i) w x) (hs : S (fun y => (F y ∧ y ≠ b) ∧ tag y = i) x a cs) : SAt S size T F b o n tag x (l.set i a) := by
 obtain ⟨cur1, hb, hnc, hall⟩ := h;obtain rfl : cur1 = cur := by rw [hb] at hc; cases hc; rfl
 obtain ⟨cur', hb', hsz, hr, ho, hin⟩ := hst;have hlen := hE.len hs;refine ⟨cur', hb', by omega, fun p hp => ?_⟩;simp only [List.length_set] at hp
 by_cases e : i = p
 ·subst e;rw [List.getElem_set_self];exact ⟨cs, hs, hin⟩
 ·rw [List.getElem_set_ne e];obtain ⟨cs0, ha, hcs⟩ := hall p hp;refine ⟨cs0, hE.keep ha (fun _ h => h) (hk.mono fun y hy => ⟨hy.1, fun h => e (h.symm.trans hy.2)⟩), fun q y hq => ?_⟩;have hq' : q < size := by have := hE.len ha; have := (List.getElem?_eq_some_iff.1 hq).1; omega
  rw [ho _ ?_]
  ·exact hcs q y hq
  ·rcases Nat.lt_or_gt_of_ne e with h | h
   ·have : (i + 1) * size ≤ p * size := Nat.mul_le_mul_right _ h;rw [Nat.add_mul, Nat.one_mul] at this
    omega
   ·have : (p + 1) * size ≤ i * size := Nat.mul_le_mul_right _ h;rw [Nat.add_mul, Nat.one_mul] at this
    omega
theorem SAt.keep (hE : Zcx S size) (h : SAt S size T F b o n tag w l) (hF : F b) (hk : Ze F w x) : SAt S size T F b o n tag x l := by
 obtain ⟨cur, hb, hnc, hall⟩ := h;refine ⟨cur, (hk.same b hF (Zb hb)).trans hb, hnc, fun i hi => ?_⟩;obtain ⟨cs, hs, hc⟩ := hall i hi;exact ⟨cs, hE.keep hs (fun _ h => h) (hk.mono fun y hy => hy.1.1), hc⟩
theorem SAt.lt (h : SAt S size T F b o n tag w l) : b < w.heap.size := by
 obtain ⟨cur, hb, h⟩ := h;exact Zb hb
theorem SAt.row (h : SAt S size T F b o n tag w l) (hF : F b) {c : Nat} (hc : l.length ≤ c) (hm : c ≤ maxLen) (hn : o = 0 ∧ o + c * size ≤ n) : Zbe S size T F w l (.slice (some ⟨b, o, none⟩) l.length c) := by
 obtain ⟨cur, hb, hnc, h⟩ := h;exact ⟨_, c, rfl, hc, hm, fun _ => ⟨b, o, cur, tag, rfl, hF, hb, ⟨hn.1, by omega⟩, h⟩⟩
end
/-! ### Marked rows -/
section
variable {α : Type} (mk : α → Int → α) (cnt : α → Nat)
def Zi : List α → Nat
 | [] => 0
 | a :: l => cnt a + Zi l
/-- The first j things are marked, from k on. -/
def Zeh : List α → Int → Nat → List α
 | [], _, _ => []
 | a :: l, _, 0 => a :: l
 | a :: l, k, j + 1 => mk a k :: Zeh l (k + cnt a) j
def Zco (l : List α) (k : Int) : List α := Zeh mk cnt l k l.length
theorem Zd0 (l : List α) (k : Int) : Zeh mk cnt l k 0 = l := by cases l <;> rfl
theorem Z9 : ∀ (l : List α) (k : Int) (j : Nat), (Zeh mk cnt l k j).length = l.length
 | [], _, _ => rfl
 | a :: l, _, 0 => rfl
 | a :: l, k, j + 1 => by simp only [Zeh, List.length_cons, Z9 l]
theorem Zc3 (l : List α) (k : Int) : (Zco mk cnt l k).length = l.length := Z9 _ _ _ _ _
theorem Zfy : ∀ (l : List α) (k : Int) (j : Nat) (h : j < l.length), (Zeh mk cnt l k j)[j]'(by rw [Z9]; exact h) = l[j]
 | a :: l, _, 0, _ => rfl
 | a :: l, k, j + 1, h => by
  simp only [Zeh, List.getElem_cons_succ];exact Zfy l _ j (by simpa using h)
theorem Zd1 : ∀ (l : List α) (k : Int) (j : Nat) (h : j < l.length), Zeh mk cnt l k (j + 1) = (Zeh mk cnt l k j).set j (mk l[j] (k + Zi cnt (l.take j)))
 | a :: l, k, 0, _ => by simp [Zeh, Zi, Zd0]
 | a :: l, k, j + 1, h => by
  have := Zd1 l (k + cnt a) j (by simpa using h);simp only [Zeh, List.set_cons_succ, List.getElem_cons_succ, List.take_succ_cons, Zi] at this ⊢;rw [this]
  congr 3
  push_cast
  omega
theorem Znf : ∀ (l : List α) (k : Int) (j i : Nat) (h : i < l.length), i < j → (Zeh mk cnt l k j)[i]'(by rw [Z9]; exact h) = mk l[i] (k + Zi cnt (l.take i))
 | a :: l, k, j + 1, 0, _, _ => by simp [Zeh, Zi]
 | a :: l, k, j + 1, i + 1, h, hj => by
  simp only [Zeh, List.getElem_cons_succ, List.take_succ_cons, Zi];rw [Znf l _ j i (by simpa using h) (by omega)]
  congr 1
  push_cast
  omega
theorem Zl1 (l : List α) (k : Int) (i : Nat) (h : i < l.length) : (Zco mk cnt l k)[i]'(by rw [Zc3]; exact h) = mk l[i] (k + Zi cnt (l.take i)) := Znf _ _ _ _ _ _ h h
theorem Zce : ∀ (l : List α) (j : Nat) (h : j < l.length), Zi cnt (l.take (j + 1)) = Zi cnt (l.take j) + cnt l[j]
 | a :: l, 0, _ => by simp [Zi]
 | a :: l, j + 1, h => by
  have := Zce l j (by simpa using h);simp only [List.take_succ_cons, Zi, List.getElem_cons_succ]
  omega
theorem Zbm : ∀ (l : List α) (j : Nat), Zi cnt (l.take j) ≤ Zi cnt l
 | [], j => by simp [Zi]
 | a :: l, 0 => by simp [Zi]
 | a :: l, j + 1 => by
  have := Zbm l j;simp only [List.take_succ_cons, Zi]
  omega
end
end Go.Proofs.YtpmhelkiicigfaaGreatDoor
namespace Go.Proofs.YtpmhelkiicigfaaGreatDoor
open Go.RowKit
structure Zjx where
 low : Int
 high : Int
def Ze2 : Zbt Zjx := fun _ _ r cs => cs = [.int .i64 r.low, .int .i64 r.high] ∧ Zy r.low ∧ Zy r.high
theorem Zd2 : Zcx Ze2 2 where
 len := fun ⟨e, _⟩ => by rw [e]; rfl
 keep := fun ⟨e, h0, h1⟩ _ _ => ⟨e, h0, h1⟩
structure Za3 where
 name : ByteArray
 fields : List ByteArray
 line : Int
def Za1 : Zbt Za3 := fun F w r cs => ∃ aU, cs = [.string r.name, aU, .int .i64 r.line] ∧ r.name.size ≤ maxLen ∧ Zo Zbz 1 F w r.fields aU ∧ Zy r.line
theorem Zah : Zcx Za1 3 where
 len := fun ⟨_, e, _⟩ => by rw [e]; rfl
 keep := fun ⟨aU, e, h0, h1, h2⟩ hFG hk => ⟨aU, e, h0, h1.keep Zad hFG hk, h2⟩
def Zp (r : Za3) : Nat := r.name.size + (Zk ByteArray.size r.fields)
def Zbx : Zbt Za3 := fun F w r cs => ∃ (tag : Nat → Nat) (aU : Value), cs = [.string r.name, aU, .int .i64 r.line] ∧ r.name.size ≤ maxLen ∧ Zbe Zbz 1 9 (fun y => F y ∧ tag y = 0) w r.fields aU ∧ Zy r.line
theorem Zt : Zfg Zbx Za1 3 where
 is := {
  len := fun ⟨_, _, e, _⟩ => by rw [e]; rfl
  keep := fun ⟨tag, aU, e, h0, h1, h2⟩ hFG hk => ⟨tag, aU, e, h0, h1.keep Zq.is (fun y hy => ⟨hFG y hy.1, hy.2⟩) (hk.mono fun y hy => hy.1), h2⟩ }
 el := fun ⟨tag, aU, e, h0, h1, h2⟩ => ⟨aU, e, h0, (h1.el Zq).keep Zad (fun y hy => hy.1) (Ze.refl _ _), h2⟩
 trim := fun ⟨tag, aU, e, h0, h1, h2⟩ => ⟨tag, aU, e, h0, (h1.trim Zq).keep Zq.is (fun y hy => ⟨⟨hy.1.1, hy.2⟩, hy.1.2⟩) (Ze.refl _ _), h2⟩
structure Zd where
 kind : Int
 aH : Int
 index : Int
 text : ByteArray
 set_ : Zjx
def Zg : Zbt Zd := fun _ _ r cs => cs = [.int .i64 r.kind, .int .i64 r.aH, .int .i64 r.index, .string r.text, .int .i64 r.set_.low, .int .i64 r.set_.high] ∧ Zy r.kind ∧ Zy r.aH ∧ Zy r.index ∧ r.text.size ≤ maxLen ∧ Zy r.set_.low ∧ Zy r.set_.high
theorem Zc : Zcx Zg 6 where
 len := fun ⟨e, _⟩ => by rw [e]; rfl
 keep := fun ⟨e, h0, h1, h2, h3, h4, h5⟩ _ _ => ⟨e, h0, h1, h2, h3, h4, h5⟩
def Zw (r : Zd) : Nat := r.text.size
theorem Zl : Zfg Zg Zg 6 := Zkm Zc fun h => h
structure Zam where
 kind : Int
 tag : Int
 aI : Int
 aJ : List Zd
 aK : List Zd
def Zbk : Zbt Zam := fun F w r cs => ∃ aS aT, cs = [.int .i64 r.kind, .int .i64 r.tag, .int .i64 r.aI, aS, aT] ∧ Zy r.kind ∧ Zy r.tag ∧ Zy r.aI ∧ Zo Zg 6 F w r.aJ aS ∧ Zo Zg 6 F w r.aK aT
theorem Za4 : Zcx Zbk 5 where
 len := fun ⟨_, _, e, _⟩ => by rw [e]; rfl
 keep := fun ⟨aS, aT, e, h0, h1, h2, h3, h4⟩ hFG hk => ⟨aS, aT, e, h0, h1, h2, h3.keep Zc hFG hk, h4.keep Zc hFG hk⟩
def Zs (r : Zam) : Nat := Zk Zw r.aJ + (Zk Zw r.aK)
def Zc9 : Zbt Zam := fun F w r cs => ∃ (tag : Nat → Nat) (aS : Value) (aT : Value), cs = [.int .i64 r.kind, .int .i64 r.tag, .int .i64 r.aI, aS, aT] ∧ Zy r.kind ∧ Zy r.tag ∧ Zy r.aI ∧ Zbe Zg 6 34 (fun y => F y ∧ tag y = 0) w r.aJ aS ∧ Zbe Zg 6 34 (fun y => F y ∧ tag y = 1) w r.aK aT
theorem Z7 : Zfg Zc9 Zbk 5 where
 is := {
  len := fun ⟨_, _, _, e, _⟩ => by rw [e]; rfl
  keep := fun ⟨tag, aS, aT, e, h0, h1, h2, h3, h4⟩ hFG hk => ⟨tag, aS, aT, e, h0, h1, h2, h3.keep Zl.is (fun y hy => ⟨hFG y hy.1, hy.2⟩) (hk.mono fun y hy => hy.1), h4.keep Zl.is (fun y hy => ⟨hFG y hy.1, hy.2⟩) (hk.mono fun y hy => hy.1)⟩ }
 el := fun ⟨tag, aS, aT, e, h0, h1, h2, h3, h4⟩ => ⟨aS, aT, e, h0, h1, h2, (h3.el Zl).keep Zc (fun y hy => hy.1) (Ze.refl _ _), (h4.el Zl).keep Zc (fun y hy => hy.1) (Ze.refl _ _)⟩
 trim := fun ⟨tag, aS, aT, e, h0, h1, h2, h3, h4⟩ => ⟨tag, aS, aT, e, h0, h1, h2, (h3.trim Zl).keep Zl.is (fun y hy => ⟨⟨hy.1.1, hy.2⟩, hy.1.2⟩) (Ze.refl _ _), (h4.trim Zl).keep Zl.is (fun y hy => ⟨⟨hy.1.1, hy.2⟩, hy.1.2⟩) (Ze.refl _ _)⟩
structure Zc4 where
 routine : Int
 frame : Int
def Zbg : Zbt Zc4 := fun _ _ r cs => cs = [.int .i64 r.routine, .int .i64 r.frame] ∧ Zy r.routine ∧ Zy r.frame
theorem Zbd : Zcx Zbg 2 where
 len := fun ⟨e, _⟩ => by rw [e]; rfl
 keep := fun ⟨e, h0, h1⟩ _ _ => ⟨e, h0, h1⟩
theorem Zaq : Zfg Zbg Zbg 2 := Zkm Zbd fun h => h
structure Zf where
 names : List ByteArray
 aB : List Za3
 aA : List Zam
 globals : List Zd
 aC : ByteArray
 aD : Int
 output : List ByteArray
 trace : List ByteArray
 aE : List Zc4
 aF : Bool
 ticks : Int
 aG : Int
 made : Int
def Zcf : Zbt Zf := fun F w r cs => ∃ aL aM aN aO aP aQ aR, cs = [aL, aM, aN, aO, .string r.aC, .int .i64 r.aD, aP, aQ, aR, .bool r.aF, .int .i64 r.ticks, .int .i64 r.aG, .int .i64 r.made] ∧ Zo Zbz 1 F w r.names aL ∧ Zo Za1 3 F w r.aB aM ∧ Zo Zbk 5 F w r.aA aN ∧ Zo Zg 6 F w r.globals aO ∧ r.aC.size ≤ maxLen ∧ Zy r.aD ∧ Zo Zbz 1 F w r.output aP ∧ Zo Zbz 1 F w r.trace aQ ∧ Zo Zbg 2 F w r.aE aR ∧ Zy r.ticks ∧ Zy r.aG ∧ Zy r.made
theorem Zal : Zcx Zcf 13 where
 len := fun ⟨_, _, _, _, _, _, _, e, _⟩ => by rw [e]; rfl
 keep := fun ⟨aL, aM, aN, aO, aP, aQ, aR, e, h0, h1, h2, h3, h4, h5, h6, h7, h8, h9, h10, h11⟩ hFG hk => ⟨aL, aM, aN, aO, aP, aQ, aR, e, h0.keep Zad hFG hk, h1.keep Zah hFG hk, h2.keep Za4 hFG hk, h3.keep Zc hFG hk, h4, h5, h6.keep Zad hFG hk, h7.keep Zad hFG hk, h8.keep Zbd hFG hk, h9, h10, h11⟩
def Zav (r : Zf) : Nat := Zk ByteArray.size r.names + (Zk Zp r.aB + (Zk Zs r.aA + (Zk Zw r.globals + (r.aC.size + (Zk ByteArray.size r.output + (Zk ByteArray.size r.trace + (Zk (fun _ => 0) r.aE)))))))
def Zec : Zbt Zf := fun F w r cs => ∃ (tag : Nat → Nat) (aL : Value) (aM : Value) (aN : Value) (aO : Value) (aP : Value) (aQ : Value) (aR : Value), cs = [aL, aM, aN, aO, .string r.aC, .int .i64 r.aD, aP, aQ, aR, .bool r.aF, .int .i64 r.ticks, .int .i64 r.aG, .int .i64 r.made] ∧ Zbe Zbz 1 9 (fun y => F y ∧ tag y = 0) w r.names aL ∧ Zbe Zbx 3 136 (fun y => F y ∧ tag y = 1) w r.aB aM ∧ Zbe Zc9 5 94 (fun y => F y ∧ tag y = 2) w r.aA aN ∧ Zbe Zg 6 34 (fun y => F y ∧ tag y = 3) w r.globals aO ∧ r.aC.size ≤ maxLen ∧ Zy r.aD ∧ Zbe Zbz 1 9 (fun y => F y ∧ tag y = 4) w r.output aP ∧ Zbe Zbz 1 9 (fun y => F y ∧ tag y = 5) w r.trace aQ ∧ Zbe Zbg 2 89 (fun y => F y ∧ tag y = 6) w r.aE aR ∧ Zy r.ticks ∧ Zy r.aG ∧ Zy r.made
theorem Zbq : Zfg Zec Zcf 13 where
 is := {
  len := fun ⟨_, _, _, _, _, _, _, _, e, _⟩ => by rw [e]; rfl
  keep := fun ⟨tag, aL, aM, aN, aO, aP, aQ, aR, e, h0, h1, h2, h3, h4, h5, h6, h7, h8, h9, h10, h11⟩ hFG hk => ⟨tag, aL, aM, aN, aO, aP, aQ, aR, e, h0.keep Zq.is (fun y hy => ⟨hFG y hy.1, hy.2⟩) (hk.mono fun y hy => hy.1), h1.keep Zt.is (fun y hy => ⟨hFG y hy.1, hy.2⟩) (hk.mono fun y hy => hy.1), h2.keep Z7.is (fun y hy => ⟨hFG y hy.1, hy.2⟩) (hk.mono fun y hy => hy.1), h3.keep Zl.is (fun y hy => ⟨hFG y hy.1, hy.2⟩) (hk.mono fun y hy => hy.1), h4, h5, h6.keep Zq.is (fun y hy => ⟨hFG y hy.1, hy.2⟩) (hk.mono fun y hy => hy.1), h7.keep Zq.is (fun y hy => ⟨hFG y hy.1, hy.2⟩) (hk.mono fun y hy => hy.1), h8.keep Zaq.is (fun y hy => ⟨hFG y hy.1, hy.2⟩) (hk.mono fun y hy => hy.1), h9, h10, h11⟩ }
 el := fun ⟨tag, aL, aM, aN, aO, aP, aQ, aR, e, h0, h1, h2, h3, h4, h5, h6, h7, h8, h9, h10, h11⟩ => ⟨aL, aM, aN, aO, aP, aQ, aR, e, (h0.el Zq).keep Zad (fun y hy => hy.1) (Ze.refl _ _), (h1.el Zt).keep Zah (fun y hy => hy.1) (Ze.refl _ _), (h2.el Z7).keep Za4 (fun y hy => hy.1) (Ze.refl _ _), (h3.el Zl).keep Zc (fun y hy => hy.1) (Ze.refl _ _), h4, h5, (h6.el Zq).keep Zad (fun y hy => hy.1) (Ze.refl _ _), (h7.el Zq).keep Zad (fun y hy => hy.1) (Ze.refl _ _), (h8.el Zaq).keep Zbd (fun y hy => hy.1) (Ze.refl _ _), h9, h10, h11⟩
 trim := fun ⟨tag, aL, aM, aN, aO, aP, aQ, aR, e, h0, h1, h2, h3, h4, h5, h6, h7, h8, h9, h10, h11⟩ => ⟨tag, aL, aM, aN, aO, aP, aQ, aR, e, (h0.trim Zq).keep Zq.is (fun y hy => ⟨⟨hy.1.1, hy.2⟩, hy.1.2⟩) (Ze.refl _ _), (h1.trim Zt).keep Zt.is (fun y hy => ⟨⟨hy.1.1, hy.2⟩, hy.1.2⟩) (Ze.refl _ _), (h2.trim Z7).keep Z7.is (fun y hy => ⟨⟨hy.1.1, hy.2⟩, hy.1.2⟩) (Ze.refl _ _), (h3.trim Zl).keep Zl.is (fun y hy => ⟨⟨hy.1.1, hy.2⟩, hy.1.2⟩) (Ze.refl _ _), h4, h5, (h6.trim Zq).keep Zq.is (fun y hy => ⟨⟨hy.1.1, hy.2⟩, hy.1.2⟩) (Ze.refl _ _), (h7.trim Zq).keep Zq.is (fun y hy => ⟨⟨hy.1.1, hy.2⟩, hy.1.2⟩) (Ze.refl _ _), (h8.trim Zaq).keep Zaq.is (fun y hy => ⟨⟨hy.1.1, hy.2⟩, hy.1.2⟩) (Ze.refl _ _), h9, h10, h11⟩
end Go.Proofs.YtpmhelkiicigfaaGreatDoor
namespace Go.Proofs.YtpmhelkiicigfaaGreatDoor
/-- What a value that stands by itself is. -/
def Zn (v : Zd) : Bool :=
 if v.kind = 0 then (v.text.toList == []) && (v.set_.low == 0 && v.set_.high == 0) && (v.aH == 0) && (v.index == 0)
 else if v.kind = 1 then (v.text.toList == []) && (v.set_.low == 0 && v.set_.high == 0) && (v.index == 0) && decide (-999999999999 ≤ v.aH) && decide (v.aH ≤ 999999999999)
 else if v.kind = 2 then (v.set_.low == 0 && v.set_.high == 0) && (v.aH == 0) && (v.index == 0) && decide ((v.text.size : Int) ≤ 120)
 else if v.kind = 3 then (v.text.toList == []) && (v.aH == 0) && (v.index == 0)
 else if v.kind = 13 ∨ v.kind = 15 ∨ v.kind = 16 then (v.text.toList == []) && (v.set_.low == 0 && v.set_.high == 0) && decide (0 ≤ v.aH) && decide (0 ≤ v.index)
 else if v.kind = 14 then (v.text.toList == []) && (v.set_.low == 0 && v.set_.high == 0) && (v.aH == 0) && decide (0 ≤ v.index)
 else if v.kind = 18 then (v.text.toList == []) && (v.set_.low == 0 && v.set_.high == 0) && (v.aH == 0) && (v.index == 1 || v.index == 2)
 else if 4 ≤ v.kind ∧ v.kind ≤ 20 then (v.text.toList == []) && (v.set_.low == 0 && v.set_.high == 0) && (v.index == 0) && decide (0 ≤ v.aH)
 else false
theorem Zr {t : ByteArray} (h : t.toList = []) : t.size = 0 := by
 rw [ByteArray.toList_eq] at h;show t.data.size = 0;rw [← Array.length_toList, h]; rfl
end Go.Proofs.YtpmhelkiicigfaaGreatDoor
namespace Go.Proofs.YtpmhelkiicigfaaGreatDoor
open Go.RowKit
/-- The Store r lies in the block B. -/
structure Z3 (F : Nat → Prop) (w : World) (B : Nat) (r : Zf) (cs : List Value) : Prop where
 blk : w.heap[B]? = some (.cells cs.toArray 30 (0, 0))
 el : Zcf F w r cs
theorem Z3.later {F : Nat → Prop} {w x : World} {B : Nat} {r : Zf} {cs : List Value} (h : Z3 F w B r cs) (hl : Za w x) : Z3 F x B r cs :=
 ⟨(hl.block B (Zb h.blk)).trans h.blk, Zal.keep h.el (fun _ h => h) (Ze.later hl)⟩
theorem Z3.lt {F : Nat → Prop} {w : World} {B : Nat} {r : Zf} {cs : List Value} (h : Z3 F w B r cs) : B < w.heap.size := Zb h.blk
theorem Z3.names {F : Nat → Prop} {w : World} {B : Nat} {r : Zf} {cs : List Value} (h : Z3 F w B r cs) : ∃ A c, w.cell? ⟨B, 0, none⟩ = some (.slice A r.names.length c) ∧ r.names.length ≤ c ∧ c ≤ maxLen ∧ Zo Zbz 1 F w r.names (.slice A r.names.length c) := by
 obtain ⟨aL, aM, aN, aO, aP, aQ, aR, rfl, aV, aW, aX, aY, aZ, bA, bB, bC, bD, bE, bF, bG⟩ := h.el;obtain ⟨A, c, rfl, h1, h2, h3⟩ := id aV;refine ⟨A, c, ?_, h1, h2, aV⟩;rw [cell_of_row _ B 0 _ _ _ h.blk]
 rfl
theorem Z3.aB {F : Nat → Prop} {w : World} {B : Nat} {r : Zf} {cs : List Value} (h : Z3 F w B r cs) : ∃ A c, w.cell? ⟨B, 1, none⟩ = some (.slice A r.aB.length c) ∧ r.aB.length ≤ c ∧ c ≤ maxLen ∧ Zo Za1 3 F w r.aB (.slice A r.aB.length c) := by
 obtain ⟨aL, aM, aN, aO, aP, aQ, aR, rfl, aV, aW, aX, aY, aZ, bA, bB, bC, bD, bE, bF, bG⟩ := h.el;obtain ⟨A, c, rfl, h1, h2, h3⟩ := id aW;refine ⟨A, c, ?_, h1, h2, aW⟩;rw [cell_of_row _ B 1 _ _ _ h.blk]
 rfl
theorem Z3.aA {F : Nat → Prop} {w : World} {B : Nat} {r : Zf} {cs : List Value} (h : Z3 F w B r cs) : ∃ A c, w.cell? ⟨B, 2, none⟩ = some (.slice A r.aA.length c) ∧ r.aA.length ≤ c ∧ c ≤ maxLen ∧ Zo Zbk 5 F w r.aA (.slice A r.aA.length c) := by
 obtain ⟨aL, aM, aN, aO, aP, aQ, aR, rfl, aV, aW, aX, aY, aZ, bA, bB, bC, bD, bE, bF, bG⟩ := h.el;obtain ⟨A, c, rfl, h1, h2, h3⟩ := id aX;refine ⟨A, c, ?_, h1, h2, aX⟩;rw [cell_of_row _ B 2 _ _ _ h.blk]
 rfl
theorem Z3.globals {F : Nat → Prop} {w : World} {B : Nat} {r : Zf} {cs : List Value} (h : Z3 F w B r cs) : ∃ A c, w.cell? ⟨B, 3, none⟩ = some (.slice A r.globals.length c) ∧ r.globals.length ≤ c ∧ c ≤ maxLen ∧ Zo Zg 6 F w r.globals (.slice A r.globals.length c) := by
 obtain ⟨aL, aM, aN, aO, aP, aQ, aR, rfl, aV, aW, aX, aY, aZ, bA, bB, bC, bD, bE, bF, bG⟩ := h.el;obtain ⟨A, c, rfl, h1, h2, h3⟩ := id aY;refine ⟨A, c, ?_, h1, h2, aY⟩;rw [cell_of_row _ B 3 _ _ _ h.blk]
 rfl
theorem Z3.output {F : Nat → Prop} {w : World} {B : Nat} {r : Zf} {cs : List Value} (h : Z3 F w B r cs) : ∃ A c, w.cell? ⟨B, 6, none⟩ = some (.slice A r.output.length c) ∧ r.output.length ≤ c ∧ c ≤ maxLen ∧ Zo Zbz 1 F w r.output (.slice A r.output.length c) := by
 obtain ⟨aL, aM, aN, aO, aP, aQ, aR, rfl, aV, aW, aX, aY, aZ, bA, bB, bC, bD, bE, bF, bG⟩ := h.el;obtain ⟨A, c, rfl, h1, h2, h3⟩ := id bB;refine ⟨A, c, ?_, h1, h2, bB⟩;rw [cell_of_row _ B 6 _ _ _ h.blk]
 rfl
theorem Z3.trace {F : Nat → Prop} {w : World} {B : Nat} {r : Zf} {cs : List Value} (h : Z3 F w B r cs) : ∃ A c, w.cell? ⟨B, 7, none⟩ = some (.slice A r.trace.length c) ∧ r.trace.length ≤ c ∧ c ≤ maxLen ∧ Zo Zbz 1 F w r.trace (.slice A r.trace.length c) := by
 obtain ⟨aL, aM, aN, aO, aP, aQ, aR, rfl, aV, aW, aX, aY, aZ, bA, bB, bC, bD, bE, bF, bG⟩ := h.el;obtain ⟨A, c, rfl, h1, h2, h3⟩ := id bC;refine ⟨A, c, ?_, h1, h2, bC⟩;rw [cell_of_row _ B 7 _ _ _ h.blk]
 rfl
theorem Z3.aE {F : Nat → Prop} {w : World} {B : Nat} {r : Zf} {cs : List Value} (h : Z3 F w B r cs) : ∃ A c, w.cell? ⟨B, 8, none⟩ = some (.slice A r.aE.length c) ∧ r.aE.length ≤ c ∧ c ≤ maxLen ∧ Zo Zbg 2 F w r.aE (.slice A r.aE.length c) := by
 obtain ⟨aL, aM, aN, aO, aP, aQ, aR, rfl, aV, aW, aX, aY, aZ, bA, bB, bC, bD, bE, bF, bG⟩ := h.el;obtain ⟨A, c, rfl, h1, h2, h3⟩ := id bD;refine ⟨A, c, ?_, h1, h2, bD⟩;rw [cell_of_row _ B 8 _ _ _ h.blk]
 rfl
theorem Z3.obj {F : Nat → Prop} {w : World} {r : Zf} {A : Option Addr} {c : Nat} (h : Zo Zbk 5 F w r.aA (.slice A r.aA.length c)) {i : Nat} (hi : i < r.aA.length) :
  ∃ b o Ai ci Ak ck, A = some ⟨b, o, none⟩ ∧ b < w.heap.size ∧ w.cell? ⟨b, o + i * 5, none⟩ = some (.int .i64 r.aA[i].kind) ∧ w.cell? ⟨b, o + i * 5 + 1, none⟩ = some (.int .i64 r.aA[i].tag) ∧ w.cell? ⟨b, o + i * 5 + 2, none⟩ = some (.int .i64 r.aA[i].aI) ∧
   w.cell? ⟨b, o + i * 5 + 3, none⟩ = some (.slice Ai r.aA[i].aJ.length ci) ∧ w.cell? ⟨b, o + i * 5 + 4, none⟩ = some (.slice Ak r.aA[i].aK.length ck) ∧
   Zo Zg 6 F w r.aA[i].aJ (.slice Ai r.aA[i].aJ.length ci) ∧ Zo Zg 6 F w r.aA[i].aK (.slice Ak r.aA[i].aK.length ck) ∧ Zy r.aA[i].kind ∧ Zy r.aA[i].tag ∧ Zy r.aA[i].aI := by
 obtain ⟨A', c', e, _, _, hel⟩ := h;cases e;obtain ⟨b, o, cs, rfl, _, hb, hE, hc⟩ := hel i hi;obtain ⟨vi, vk, rfl, h0, h1, h2, h3, h4⟩ := hE;obtain ⟨Ai, ci, rfl, _⟩ := id h3;obtain ⟨Ak, ck, rfl, _⟩ := id h4;exact ⟨b, o, Ai, ci, Ak, ck, rfl, hb, hc 0 _ rfl, hc 1 _ rfl, hc 2 _ rfl, hc 3 _ rfl, hc 4 _ rfl, h3, h4, h0, h1, h2⟩
theorem Z0 {a b : Bool} (h : a = b) : Ending.returned (.bool a) = .returned (.bool b) := by rw [h]
/-! ### What it is to be in a Store -/
def Za9 (r : Zf) (n k : Int) : Bool := decide (0 ≤ n) && (match r.aA[n.toNat]? with | some o => o.kind == k | none => false)
theorem Zks {r : Zf} {n k : Int} (h : ¬ 0 ≤ n) : Za9 r n k = false := by unfold Za9; rw [decide_eq_false h]; rfl
theorem Zd3 {r : Zf} {n k : Int} (h : ¬ n < r.aA.length) : Za9 r n k = false := by
 unfold Za9
 by_cases h0 : 0 ≤ n
 ·rw [List.getElem?_eq_none (by omega)]; simp
 ·rw [decide_eq_false h0]; rfl
theorem Zdi {r : Zf} {i : Nat} {k : Int} (h : i < r.aA.length) : Za9 r (i : Int) k = (r.aA[i].kind == k) := by
 unfold Za9;rw [Int.toNat_natCast, List.getElem?_eq_getElem h];simp
/-- The aH of aJ of an object. -/
def Zcw (r : Zf) (n : Int) : Nat := match r.aA[n.toNat]? with | some o => o.aJ.length | none => 0
theorem Zfz {r : Zf} {i : Nat} (h : i < r.aA.length) : Zcw r (i : Int) = r.aA[i].aJ.length := by
 unfold Zcw;rw [Int.toNat_natCast, List.getElem?_eq_getElem h]
def Zbf (k : Int) : Int :=
 if k = 4 ∨ k = 15 then 2 else if k = 5 then 3 else if k = 6 then 4 else if k = 7 ∨ k = 16 then 5 else if k = 11 then 6 else if k = 12 then 7 else if k = 13 ∨ k = 19 then 1 else if k = 17 then 8 else if k = 20 then 9 else 0
def Zbi (r : Zf) (v : Zd) : Bool :=
 if Zbf v.kind ≠ 0 then Za9 r v.aH (Zbf v.kind) && (if v.kind = 13 ∨ v.kind = 16 then decide (v.index < (Zcw r v.aH : Int)) else true)
 else if v.kind = 8 then decide (v.aH < (r.names.length : Int)) else if v.kind = 9 then decide (v.aH ≤ 54) else if v.kind = 10 then decide (v.aH < (r.aB.length : Int))
 else if v.kind = 14 then decide (v.index < (r.globals.length : Int)) else true
def Zj (r : Zf) (v : Zd) : Bool := Zn v && Zbi r v
def Zbn (r : Zf) (v : Zd) : Bool := decide (v.kind ≤ 12) && Zj r v
theorem Zja {v : Zd} (h : Zn v = true) : 0 ≤ v.kind ∧ v.kind ≤ 20 := by
 unfold Zn at h
 (repeat' split at h) <;> first | omega | cases h
theorem Ze9 {v : Zd} (h : Zn v = true) (hk : Zbf v.kind ≠ 0 ∨ v.kind = 8 ∨ v.kind = 9 ∨ v.kind = 10) : 0 ≤ v.aH := by
 unfold Zbf at hk;unfold Zn at h
 (repeat' split at h) <;> first | (simp at h; omega) | cases h | skip
theorem Zf0 {v : Zd} (h : Zn v = true) : 0 ≤ v.index := by
 unfold Zn at h
 (repeat' split at h) <;> first | (simp at h; omega) | cases h
end Go.Proofs.YtpmhelkiicigfaaGreatDoor
namespace Go.Proofs.YtpmhelkiicigfaaGreatDoor
open Go
/-- The decimal digits of u, none for 0. -/
def dg (u : Nat) : List UInt8 := if u = 0 then [] else Lib.decDigits u
theorem Zqq (u : Nat) (h : u ≠ 0) : dg u = dg (u / 10) ++ [UInt8.ofNat (48 + u % 10)] := by
 unfold dg;rw [if_neg h, Lib.decDigits]
 by_cases h10 : u < 10
 ·rw [dif_pos h10, if_pos (by omega)];simp [Nat.mod_eq_of_lt h10]
 ·rw [dif_neg h10, if_neg (by omega)]
/-- The digit's byte as spec's FormatInt makes it. -/
theorem Zkt (n : Int) (h : n ≠ 0) : Lib.itoa n = if n < 0 then 45 :: dg n.natAbs else dg n.natAbs := by
 unfold Lib.itoa dg;have h0 : n.natAbs ≠ 0 := by omega
 rw [if_neg h0]
 by_cases hn : n < 0
 ·rw [if_pos hn, if_pos hn]
 ·rw [if_neg hn, if_neg hn];have : n.toNat = n.natAbs := by omega
  rw [this]
theorem Zl2 : Lib.itoa 0 = [48] := by
 unfold Lib.itoa;rw [if_neg (by omega), Lib.decDigits, dif_pos (by decide)]
 rfl
theorem Zmf (k : Nat) : ∀ u, u < 10 ^ k → (dg u).length ≤ k := by
 induction k with
 | zero => intro u hu; have : u = 0 := by omega
           subst this; simp [dg]
 | succ k ih =>
  intro u hu
  by_cases h0 : u = 0
  ·subst h0; simp [dg]
  ·rw [Zqq u h0];have : u / 10 < 10 ^ k := by rw [Nat.pow_succ] at hu; omega
   have := ih _ this;simp; omega
theorem Zsv (n : Int) (h0 : -9223372036854775808 ≤ n) (h1 : n ≤ 9223372036854775807) : (dg n.natAbs).length ≤ 20 :=
 Zmf 20 _ (by omega)
theorem Zsw (n : Int) (h0 : -9223372036854775808 ≤ n) (h1 : n ≤ 9223372036854775807) : (Lib.itoa n).length ≤ 21 := by
 by_cases h : n = 0
 ·subst h; rw [Zl2]; decide
 ·rw [Zkt n h];have := Zsv n h0 h1
  split <;> simp <;> omega
/-- One round of the loop that reckons a numeral. -/
theorem Zsx (N : Nat) (m : Int) (s : List UInt8) (hm : m ≠ 0) (h : dg N = dg m.natAbs ++ s) :
  dg N = dg (m.tdiv 10).natAbs ++ (UInt8.ofNat (48 + m.natAbs % 10) :: s) := by
 rw [h, Zqq m.natAbs (by omega)];have : (m.tdiv 10).natAbs = m.natAbs / 10 := by rw [Int.natAbs_tdiv]; rfl
 rw [this];simp
/-- A hexadecimal digit's byte. -/
def Zwk (x : Int) : Int := if x < 10 then 48 + x else 87 + x
/-- What one byte c becomes inside quotes q. -/
def qb (q c : Int) : List Int :=
 if c = q ∨ c = 92 then [92, c]
 else if c = 10 then [92, 110]
 else if c = 9 then [92, 116]
 else if c < 32 ∨ 126 < c then [92, 120, Zwk (c / 16), Zwk (c % 16)]
 else [c]
/-- The bytes of a text as integers. -/
def Zll (l : List UInt8) : List Int := l.map fun b => (b.toNat : Int)
theorem Zng (a b : List UInt8) : Zll (a ++ b) = Zll a ++ Zll b := by simp [Zll]
/-- The opening quote and the first bytes Zph. -/
def Zxb (q : Int) (l : List Int) : List Int := q :: l.flatMap (qb q)
/-- The text in quotes. -/
def Zph (q : Int) (l : List Int) : List Int := Zxb q l ++ [q]
/-- The string that a list of byte values makes. -/
def Zhp (ns : List Int) : ByteArray := ⟨(ns.map fun n => UInt8.ofNat n.toNat).toArray⟩
theorem Zpi (ns : List Int) (r : ByteArray) : ns.foldl (fun r n => r.push (UInt8.ofNat n.toNat)) r = ⟨r.data ++ (ns.map fun n => UInt8.ofNat n.toNat).toArray⟩ := by
 induction ns generalizing r with
 | nil => simp
 | cons a l ih =>
  simp only [List.foldl_cons, ih]
  congr 1
  simp [ByteArray.push]
theorem Znh (ns : List Int) : ns.foldl (fun r n => r.push (UInt8.ofNat n.toNat)) ByteArray.empty = Zhp ns := by
 rw [Zpi];show (⟨#[] ++ _⟩ : ByteArray) = _;unfold Zhp; congr 1; simp
end Go.Proofs.YtpmhelkiicigfaaGreatDoor
namespace Go.Proofs.YtpmhelkiicigfaaGreatDoor
open Go
end Go.Proofs.YtpmhelkiicigfaaGreatDoor
namespace Go.Proofs.YtpmhelkiicigfaaGreatDoor
open Go
/-- A hexadecimal digit's value, or -1. -/
def Zni (c : UInt8) : Int := if 48 ≤ c.toNat ∧ c.toNat ≤ 57 then (c.toNat : Int) - 48 else if 97 ≤ c.toNat ∧ c.toNat ≤ 102 then (c.toNat : Int) - 97 + 10 else -1
def Zxc (a b : UInt8) : UInt8 := UInt8.ofNat ((Zni a).toNat * 16 + (Zni b).toNat)
/-- The text between the quotes, read. strict: bytes that do not print are refused. -/
def unq (strict : Bool) (q : UInt8) : Nat → List UInt8 → Option (List UInt8)
 | 0, _ => none
 | _ + 1, [] => some []
 | n + 1, b :: r =>
  if b ≠ 92 then (if strict && (decide (b.toNat < 32) || decide (126 < b.toNat) || b == q) then none else (unq strict q n r).map (b :: ·))
  else match r with
   | [] => none
   | e :: r' =>
    if e = 110 then (unq strict q n r').map (10 :: ·)
    else if e = 116 then (unq strict q n r').map (9 :: ·)
    else if e = 92 ∨ e = 34 ∨ e = 39 then (unq strict q n r').map (e :: ·)
    else if e = 120 then match r' with
     | h1 :: h2 :: r'' => if 0 ≤ Zni h1 ∧ 0 ≤ Zni h2 then (unq strict q n r'').map (Zxc h1 h2 :: ·) else none
     | _ => none
    else none
/-- spec's l4End: the first quote that is not escaped is the last byte. -/
def Zjb (q : UInt8) : Nat → List UInt8 → Bool
 | 0, _ => false
 | _ + 1, [] => false
 | n + 1, b :: r => if b = q then r.isEmpty else if b.toNat < 32 ∨ 126 < b.toNat then false else if b = 92 then Zjb q n (r.drop 1) else Zjb q n r
theorem Zha {q : UInt8} {n : Nat} {b : UInt8} {r : List UInt8} : Zjb q (n + 1) (b :: r) = if b = q then r.isEmpty else if b.toNat < 32 ∨ 126 < b.toNat then false else if b = 92 then Zjb q n (r.drop 1) else Zjb q n r := rfl
theorem Zku {c : UInt8} (h : 0 ≤ Zni c) : c ≠ 34 ∧ c ≠ 39 ∧ c ≠ 92 ∧ ¬ (c.toNat < 32 ∨ 126 < c.toNat) := by
 have hb : (48 ≤ c.toNat ∧ c.toNat ≤ 57) ∨ (97 ≤ c.toNat ∧ c.toNat ≤ 102) := by
  unfold Zni at h
  split at h
  ·exact .inl ‹_›
  ·split at h
   ·exact .inr ‹_›
   ·omega
 refine ⟨?_, ?_, ?_, by omega⟩ <;> (rintro rfl; simp at hb)
/-- Both ways of reading agree. -/
theorem Zkv (q : UInt8) (hq : q = 34 ∨ q = 39) (z : UInt8) : ∀ (k : Nat) (m : List UInt8) (n n' : Nat), m.length < k → m.length < n → m.length + 1 < n' → (Zjb q n' (m ++ [z]) = true → z = q ∧ unq false q n m = unq true q n m) ∧ (Zjb q n' (m ++ [z]) = false → z = q → unq true q n m = none)
 | 0, m, _, _, h, _, _ => by omega
 | k + 1, m, 0, _, _, h, _ => by omega
 | k + 1, m, n + 1, 0, _, _, h => by omega
 | k + 1, [], n + 1, n' + 1, _, _, _ => by
  have hq92 : q ≠ 92 := by rcases hq with rfl | rfl <;> decide
  simp only [List.nil_append, Zha, List.isEmpty_nil]
  by_cases hz : z = q
  ·simp [hz, unq]
  ·simp only [hz, if_false]
   constructor
   ·intro h
    exfalso
    split at h
    ·cases h
    ·split at h <;> cases n' <;> simp [Zjb] at h
   ·intro _ h; exact absurd h (by simp)
 | k + 1, b :: m, n + 1, n' + 1, hk, hm, hn' => by
  have hk' : m.length < k := by simpa using hk
  have hm' : m.length < n := by simpa using hm
  have hn2 : m.length + 1 < n' := by simpa using hn'
  have hq92 : q ≠ 92 := by rcases hq with rfl | rfl <;> decide
  rw [List.cons_append, Zha]
  by_cases hbq : b = q
  ·subst hbq;rw [if_pos rfl];have hb92 : b ≠ 92 := hq92;simp [unq, hb92]
  rw [if_neg hbq]
  by_cases hctl : b.toNat < 32 ∨ 126 < b.toNat
  ·rw [if_pos hctl];have hb92 : b ≠ 92 := by rintro rfl; simp at hctl
   refine ⟨fun h => (by cases h), fun _ _ => ?_⟩;simp only [unq, if_pos hb92];rw [if_pos (by simp; omega)]
  rw [if_neg hctl]
  by_cases hb : b = 92
  ·subst hb;rw [if_pos rfl]
   cases m with
   | nil =>
    refine ⟨fun h => ?_, fun _ _ => by simp [unq]⟩
    exfalso
    cases n' <;> simp [Zjb] at h
   | cons e m =>
    rw [List.cons_append, List.drop_succ_cons, List.drop_zero];have ih := Zkv q hq z k m n n' (by simp at hk'; omega) (by simp at hm'; omega) (by simp at hn2; omega);have cell : ∀ (x : UInt8), (Zjb q n' (m ++ [z]) = true → z = q ∧ (unq false q n m).map (x :: ·) = (unq true q n m).map (x :: ·)) ∧ (Zjb q n' (m ++ [z]) = false → z = q → (unq true q n m).map (x :: ·) = none) := fun x =>
     ⟨fun h => ⟨(ih.1 h).1, by rw [(ih.1 h).2]⟩, fun h hz => by rw [ih.2 h hz]; rfl⟩
    simp only [unq, show ¬ ((92 : UInt8) ≠ 92) from fun h => h rfl, if_false]
    by_cases h1 : e = 110
    ·simp only [h1, if_true]; exact cell 10
    simp only [h1, if_false]
    by_cases h2 : e = 116
    ·simp only [h2, if_true]; exact cell 9
    simp only [h2, if_false]
    by_cases h3 : e = 92 ∨ e = 34 ∨ e = 39
    ·simp only [h3, if_true]; exact cell e
    simp only [h3, if_false]
    by_cases h4 : e = 120
    ·simp only [h4, if_true]
     match m, hm', hn2, hk', ih with
     | [], _, _, _, ih =>
      refine ⟨fun h => ⟨(ih.1 h).1, rfl⟩, fun _ _ => rfl⟩
     | [x], _, _, _, ih => exact ⟨fun h => ⟨(ih.1 h).1, rfl⟩, fun _ _ => rfl⟩
     | x :: y :: r, hm', hn2, hk', ih =>
      simp only
      by_cases hx : 0 ≤ Zni x ∧ 0 ≤ Zni y
      ·simp only [if_pos hx];obtain ⟨n2, rfl⟩ : ∃ n2, n' = n2 + 2 := ⟨n' - 2, by simp at hn2; omega⟩;have px := Zku hx.1;have py := Zku hx.2;have qx : x ≠ q := by rcases hq with rfl | rfl; exact px.1; exact px.2.1
       have qy : y ≠ q := by rcases hq with rfl | rfl; exact py.1; exact py.2.1
       have e1 : Zjb q (n2 + 2) (x :: y :: r ++ [z]) = Zjb q n2 (r ++ [z]) := by
        rw [List.cons_append, Zha, if_neg qx, if_neg px.2.2.2, if_neg px.2.2.1, List.cons_append, Zha, if_neg qy, if_neg py.2.2.2, if_neg py.2.2.1]
       rw [e1];have ih2 := Zkv q hq z k r n n2 (by simp at hk'; omega) (by simp at hm'; omega) (by simp at hn2; omega);exact ⟨fun h => ⟨(ih2.1 h).1, by rw [(ih2.1 h).2]⟩, fun h hz => by rw [ih2.2 h hz]; rfl⟩
      ·simp only [if_neg hx];exact ⟨fun h => ⟨(ih.1 h).1, trivial⟩, fun _ _ => trivial⟩
    ·simp only [h4, if_false];exact ⟨fun h => ⟨(ih.1 h).1, trivial⟩, fun _ _ => trivial⟩
  ·rw [if_neg hb];have ih := Zkv q hq z k m n n' hk' hm' hn2;simp only [unq, if_pos (show b ≠ 92 from hb)];have hc : (true && (decide (b.toNat < 32) || decide (126 < b.toNat) || b == q)) = false := by simp [hbq]; omega
   rw [hc];simp only [Bool.false_and, Bool.false_eq_true, if_false];exact ⟨fun h => ⟨(ih.1 h).1, by rw [(ih.1 h).2]⟩, fun h hz => by rw [ih.2 h hz]; rfl⟩
/-- The fuel does not matter. -/
theorem Zsy (st : Bool) (q : UInt8) : ∀ (k : Nat) (m : List UInt8) (n n' : Nat), m.length < k → m.length < n → m.length < n' → unq st q n m = unq st q n' m
 | 0, m, _, _, h, _, _ => by omega
 | k + 1, m, 0, _, _, h, _ => by omega
 | k + 1, m, n + 1, 0, _, _, h => by omega
 | k + 1, [], n + 1, n' + 1, _, _, _ => rfl
 | k + 1, b :: m, n + 1, n' + 1, hk, hm, hn => by
  have hk' : m.length < k := by simpa using hk
  have hm' : m.length < n := by simpa using hm
  have hn' : m.length < n' := by simpa using hn
  have ih := fun m h1 h2 h3 => Zsy st q k m n n' h1 h2 h3;simp only [unq]
  split
  ·rw [ih m hk' hm' hn']
  ·match m, hk', hm', hn' with
   | [], _, _, _ => rfl
   | e :: m, hk', hm', hn' =>
    have e1 := ih m (by simp at hk'; omega) (by simp at hm'; omega) (by simp at hn'; omega);simp only [e1]
    match m, hk', hm', hn' with
    | [], _, _, _ => rfl
    | [x], _, _, _ => rfl
    | x :: y :: r, hk', hm', hn' =>
     have e2 := ih r (by simp at hk'; omega) (by simp at hm'; omega) (by simp at hn'; omega);simp only [e2]
end Go.Proofs.YtpmhelkiicigfaaGreatDoor
namespace Go.Proofs.YtpmhelkiicigfaaGreatDoor
open Go
/-- The pieces between the spaces. -/
def spl : List UInt8 → List (List UInt8)
 | [] => [[]]
 | c :: r => if c = 32 then [] :: spl r else match spl r with
  | [] => [[c]]
  | p :: ps => (c :: p) :: ps
/-- The pieces with spaces between them. -/
def jn : List (List UInt8) → List UInt8
 | [] => []
 | [p] => p
 | p :: q :: ps => p ++ 32 :: jn (q :: ps)
theorem Zpj (l : List UInt8) : spl l ≠ [] := by
 cases l with
 | nil => simp [spl]
 | cons c r =>
  simp only [spl]
  split
  ·simp
  ·split <;> simp
theorem Zjc (r : List UInt8) : spl (32 :: r) = [] :: spl r := by simp [spl]
theorem Zhb (c : UInt8) (r : List UInt8) (h : c ≠ 32) : ∃ p ps, spl r = p :: ps ∧ spl (c :: r) = (c :: p) :: ps := by
 cases hr : spl r with
 | nil => exact absurd hr (Zpj r)
 | cons p ps => exact ⟨p, ps, rfl, by simp [spl, h, hr]⟩
theorem Zus (p : List UInt8) (ps : List (List UInt8)) (h : ps ≠ []) : jn (p :: ps) = p ++ 32 :: jn ps := by
 cases ps with
 | nil => exact absurd rfl h
 | cons q ps => rfl
theorem Zmg : ∀ (l : List UInt8), jn (spl l) = l
 | [] => rfl
 | c :: r => by
  by_cases h : c = 32
  ·subst h;rw [Zjc, Zus _ _ (Zpj r), Zmg r]; rfl
  ·obtain ⟨p, ps, h1, h2⟩ := Zhb c r h;have ih := Zmg r;rw [h1] at ih;rw [h2]
   cases ps with
   | nil => simp only [jn] at ih ⊢; rw [ih]
   | cons q ps => simp only [jn] at ih ⊢; rw [List.cons_append, ih]
/-- A piece without a space, at the text's head. -/
theorem Zsz : ∀ (w r : List UInt8), (∀ c ∈ w, c ≠ 32) → spl (w ++ 32 :: r) = w :: spl r
 | [], r, _ => Zjc r
 | c :: w, r, h => by
  have ih := Zsz w r (fun d hd => h d (List.mem_cons_of_mem _ hd));obtain ⟨p, ps, h1, h2⟩ := Zhb c (w ++ 32 :: r) (h c List.mem_cons_self);rw [ih] at h1
  cases h1
  rw [List.cons_append, h2]
theorem Zs0 : ∀ (w : List UInt8), (∀ c ∈ w, c ≠ 32) → spl w = [w]
 | [], _ => rfl
 | c :: w, h => by
  have ih := Zs0 w (fun d hd => h d (List.mem_cons_of_mem _ hd));obtain ⟨p, ps, h1, h2⟩ := Zhb c w (h c List.mem_cons_self);rw [ih] at h1
  cases h1
  rw [h2]
theorem Zgk : ∀ (l : List UInt8), (Lib.index l [32] = -1 → spl l = [l]) ∧ (∀ i : Nat, Lib.index l [32] = i → i < l.length ∧ spl l = l.take i :: spl (l.drop (i + 1)))
 | [] => by
  refine ⟨fun _ => rfl, fun i h => ?_⟩;simp [Lib.index] at h
 | c :: r => by
  have ih := Zgk r
  by_cases h : c = 32
  ·subst h;have h0 : Lib.index (32 :: r) [32] = 0 := by simp [Lib.index, List.isPrefixOf]
   rw [h0];refine ⟨fun e => by omega, fun i e => ?_⟩;obtain rfl : i = 0 := by omega
   exact ⟨by simp, by simp [Zjc]⟩
  ·have hp : List.isPrefixOf [32] (c :: r) = false := by simp [List.isPrefixOf, Ne.symm h]
   obtain ⟨p, ps, h1, h2⟩ := Zhb c r h;simp only [Lib.index, hp, Bool.false_eq_true, if_false]
   by_cases hm : Lib.index r [32] = -1
   ·rw [if_pos (by simp [hm])];refine ⟨fun _ => ?_, fun i e => by omega⟩;have := ih.1 hm;rw [this] at h1
    cases h1
    exact h2
   ·rw [if_neg (by simpa using hm)];have hge := Lib.index_ge r [32];refine ⟨fun e => by omega, fun i e => ?_⟩;obtain ⟨j, rfl⟩ : ∃ j, i = j + 1 := ⟨i - 1, by omega⟩;obtain ⟨h3, h4⟩ := ih.2 j (by omega);rw [h4] at h1
    cases h1
    exact ⟨by simpa using h3, by rw [h2]; simp⟩
/-- strings.SplitN's pieces. -/
theorem Zpk : ∀ (k : Nat) (l : List UInt8), Lib.splitK [32] 0 k l = if (spl l).length ≤ k + 1 then spl l else (spl l).take k ++ [jn ((spl l).drop k)]
 | 0, l => by
  simp only [Lib.splitK]
  split
  ·rename_i h;have hj := Zmg l
   cases hs : spl l with
   | nil => exact absurd hs (Zpj l)
   | cons p ps =>
    rw [hs] at h hj
    cases ps with
    | nil => simp only [jn] at hj; rw [hj]
    | cons => simp at h
  ·simp [Zmg]
 | k + 1, l => by
  simp only [Lib.splitK]
  by_cases hm : Lib.index l [32] = -1
  ·rw [if_pos (by simp [hm]), (Zgk l).1 hm, if_pos (by simp)]
  ·rw [if_neg (by simpa using hm)];have hge := Lib.index_ge l [32];obtain ⟨i, hi⟩ : ∃ i : Nat, Lib.index l [32] = i := ⟨(Lib.index l [32]).toNat, by omega⟩;obtain ⟨h1, h2⟩ := (Zgk l).2 i hi;rw [hi, Int.toNat_natCast, h2];have ih := Zpk k (l.drop (i + 1));simp only [List.length_singleton, Nat.add_zero];rw [ih]
   by_cases hl : (spl (l.drop (i + 1))).length ≤ k + 1
   ·rw [if_pos hl, if_pos (by simpa using hl)]
   ·rw [if_neg hl, if_neg (by simpa using hl)];simp
end Go.Proofs.YtpmhelkiicigfaaGreatDoor
namespace Go.Proofs.YtpmhelkiicigfaaGreatDoor
open Go
/-! ### Numbers -/
/-! ### Quoted texts -/
theorem Zut (st : Bool) (q : UInt8) : ∀ (n : Nat) (m l : List UInt8), unq st q n m = some l → l.length ≤ m.length
 | 0, m, l, h => by simp [unq] at h
 | n + 1, [], l, h => by simp [unq] at h; subst h; simp
 | n + 1, b :: r, l, h => by
  have ih := fun m l => Zut st q n m l;have one : ∀ (x : UInt8) (m : List UInt8), (unq st q n m).map (x :: ·) = some l → l.length ≤ m.length + 1 := fun x m h => by
   cases hm : unq st q n m with
   | none => rw [hm] at h; cases h
   | some l' => rw [hm] at h; cases h; have := ih m l' hm; simp; omega
  simp only [unq] at h
  split at h
  ·split at h
   ·cases h
   ·have := one _ _ h; simpa using this
  ·match r, h with
   | [], h => cases h
   | e :: r', h =>
    simp only at h
    split at h
    ·have := one _ _ h; simp; omega
    split at h
    ·have := one _ _ h; simp; omega
    split at h
    ·have := one _ _ h; simp; omega
    split at h
    ·match r', h with
     | [], h => cases h
     | [x], h => cases h
     | x :: y :: r'', h =>
      simp only at h
      split at h
      ·have := one _ _ h; simp; omega
      ·cases h
    ·cases h
/-! ### Names -/
/-! ### Cutting -/
end Go.Proofs.YtpmhelkiicigfaaGreatDoor
namespace Go.Proofs.YtpmhelkiicigfaaGreatDoor
open Go.RowKit
/-- The texts' bytes. -/
def bl (s : ByteArray) : List UInt8 := s.data.toList
theorem Zpl {a b : ByteArray} (h : bl a = bl b) : a = b := by
 cases a; cases b
 simp only [bl, ByteArray.mk.injEq] at h ⊢;exact Array.ext' h
theorem Zid {a b : ByteArray} (h : a.toList = b.toList) : a = b := by
 have e : ∀ x : ByteArray, x.toList = x.data.toList := fun x => ByteArray.toList_eq x;rw [e, e] at h;exact Zpl h
theorem Zkw : ∀ (L : List (List UInt8)) (x : List UInt8) (j : Nat) (h : j < L.length), L[j] = x → L.idxOf x ≤ j
 | a :: L, x, j, h, e => by
  rw [List.idxOf_cons]
  cases hx : a == x with
  | true => simp
  | false =>
   cases j with
   | zero => simp at e; simp [e] at hx
   | succ j =>
    have := Zkw L x j (by simpa using h) (by simpa using e);simp; omega
def Zd4 (l : List ByteArray) (s : ByteArray) : Bool := decide (bl s ∈ l.map bl)
def Zfm (l : List ByteArray) (s : ByteArray) : Int := if bl s ∈ l.map bl then ((l.map bl).idxOf (bl s) : Int) else -1
theorem Zie {l : List ByteArray} {s : ByteArray} : Zd4 l s = true ↔ s ∈ l := by
 unfold Zd4;rw [nJ, List.mem_map];exact ⟨fun ⟨a, h1, h2⟩ => Zpl h2 ▸ h1, fun h => ⟨s, h, rfl⟩⟩
theorem Zuu {l : List ByteArray} {s : ByteArray} {j : Nat} (h : j < l.length) (he : l[j] = s) : Zd4 l s = true := Zie.2 (he ▸ List.getElem_mem h)
theorem Zqr {l : List ByteArray} {s : ByteArray} (h : ∀ k (hk : k < l.length), l[k] ≠ s) : Zd4 l s = false := by
 rw [← Bool.not_eq_true, Zie];intro hm;obtain ⟨k, hk, e⟩ := List.getElem_of_mem hm;exact h k hk e
theorem Zkx {l : List ByteArray} {s : ByteArray} {j : Nat} (h : j < l.length) (he : l[j] = s) (hn : ∀ k (hk : k < l.length), k < j → l[k] ≠ s) : Zfm l s = j := by
 have hm : bl s ∈ l.map bl := List.mem_map.2 ⟨s, he ▸ List.getElem_mem h, rfl⟩;rw [Zfm, if_pos hm]
 congr 1
 have hi := List.idxOf_lt_length_iff.2 hm;have hg := List.getElem_idxOf hi;rw [List.getElem_map] at hg;have e2 := Zpl hg;rw [List.length_map] at hi
 rcases Nat.lt_trichotomy ((l.map bl).idxOf (bl s)) j with h1 | h1 | h1
 ·exact absurd e2 (hn _ hi h1)
 ·exact h1
 ·have := Zkw (l.map bl) (bl s) j (by simpa using h) (by simp [he])
  omega
theorem Znj {l : List ByteArray} {s : ByteArray} (h : ∀ k (hk : k < l.length), l[k] ≠ s) : Zfm l s = -1 := by
 have := Zqr h;rw [Zfm, if_neg]
 simpa [Zd4] using this
theorem Zs1 (l : List ByteArray) (s : ByteArray) : decide (0 ≤ Zfm l s) = Zd4 l s := by
 unfold Zfm Zd4
 split
 ·rename_i h; simp [h]
 ·rename_i h; simp [h]
theorem Zs2 {l : List ByteArray} {j : Nat} (h : j < l.length) : decide (Zfm l l[j] < j) = Zd4 (l.take j) l[j] := by
 by_cases hm : l[j] ∈ l.take j
 ·rw [Zie.2 hm];have h1 : bl l[j] ∈ l.map bl := List.mem_map.2 ⟨_, List.getElem_mem h, rfl⟩;rw [Zfm, if_pos h1, nJ];obtain ⟨k, hk, e⟩ := List.getElem_of_mem hm;rw [List.length_take] at hk;rw [List.getElem_take] at e
  rcases Nat.lt_or_ge ((l.map bl).idxOf (bl l[j])) j with h2 | h2
  ·omega
  ·have := Zkw (l.map bl) (bl l[j]) k (by simp; omega) (by simp [e])
   omega
 ·have h0 : Zd4 (l.take j) l[j] = false := by rw [← Bool.not_eq_true, Zie]; exact hm
  rw [h0, Zkx h rfl (fun k hk h1 e => hm (by rw [← e, List.mem_take_iff_getElem]; exact ⟨k, by omega, rfl⟩))];simp
theorem Zpm (l : List ByteArray) (v : Value) (s : ByteArray) (F : Nat → Prop) (w : World) (hr : Zo Zbz 1 F w l v) :
  Calls Tryz.prog 148 #[v, .string s] w fun e w' => e = .returned (.int .i64 (Zfm l s)) ∧ w' = w := by
 obtain ⟨A, c, rfl, hc, hcm, hel⟩ := hr;unfold maxLen at hcm;have HEL := zh hel;clear hel;obtain ⟨R, hR⟩ : ∃ R, Zfm l s = R := ⟨_, rfl⟩;rw [hR];have HR := zh hR;clear hR;go_enter Tryz.func148, Tryz.ntmps148;go_wp2_with fail
 go_loopw [5] (fun i wr => ∃ j : Nat, i = .int .i64 j ∧ j ≤ l.length ∧ Hd (∀ k (h : k < l.length), k < j → l[k] ≠ s) ∧ wr = w) (fun i _ => l.length - (intOf i).toNat)
 case atStart => exact ⟨0, rfl, Nat.zero_le _, zh (fun k _ h => by omega), rfl⟩
 case round =>
  obtain ⟨j, rfl, hj, HD, hw⟩ := hrel;obtain rfl : w = wr := hw.symm
  by_cases hlt : j < l.length
  ·obtain ⟨b, o, cs, rfl, hF, hbl, hE, hcell⟩ := HEL.o j hlt;obtain ⟨rfl, hsm⟩ := hE;have t1 : decide ((j : Int) < l.length) = true := decide_eq_true (by omega);have e0 := hcell 0 _ rfl;simp only [Nat.mul_one, Nat.add_zero] at e0
   by_cases he : l[j] = s
   ·have hR0 : R = (j : Int) := by rw [← HR.o, Zkx hlt he HD.o]
    rw [he] at e0;subst hR0;have v2 : (s.toList == s.toList) = true := by simp
    clear hcell hsm he;go_wp2_with fail;go_ret;exact ⟨rfl, rfl⟩
   ·obtain ⟨y, hy⟩ : ∃ y, l[j] = y := ⟨_, rfl⟩;rw [hy] at e0;have v1 : (y.toList == s.toList) = false := by rw [nH]; exact fun h => he (hy.trans (Zid h))
    have HD2 : Hd (∀ k (h : k < l.length), k < j + 1 → l[k] ≠ s) := zh (fun k hk h => by
     rcases Nat.lt_or_ge k j with h1 | h1
     ·exact HD.o k hk h1
     ·obtain rfl : k = j := by omega
      exact he)
    clear hcell hsm he hy;go_wp2_with fail
    go_roundw
    case rel => exact ⟨j + 1, by go_num, by omega, HD2, trivial⟩
    case measure => simp [intOf]; omega
  ·have t1 : decide ((j : Int) < l.length) = false := decide_eq_false (by omega);have hR0 : R = -1 := by rw [← HR.o, Znj (fun k hk => HD.o k hk (by omega))]
   subst hR0;go_wp2_with fail;go_ret;exact ⟨rfl, rfl⟩
theorem Zq9 (l : List ByteArray) (v : Value) (s : ByteArray) (F : Nat → Prop) (w : World) (hr : Zo Zbz 1 F w l v) :
  Calls Tryz.prog 172 #[v, .string s] w fun e w' => e = .returned (.int .i64 (Zfm l s)) ∧ w' = w := by
 obtain ⟨A, c, rfl, hc, hcm, hel⟩ := hr;unfold maxLen at hcm;have HEL := zh hel;clear hel;obtain ⟨R, hR⟩ : ∃ R, Zfm l s = R := ⟨_, rfl⟩;rw [hR];have HR := zh hR;clear hR;go_enter Tryz.func172, Tryz.ntmps172;go_wp2_with fail
 go_loopw [8] (fun i wr => ∃ j : Nat, i = .int .i64 j ∧ j ≤ l.length ∧ Hd (∀ k (h : k < l.length), k < j → l[k] ≠ s) ∧ wr = w) (fun i _ => l.length - (intOf i).toNat)
 case atStart => exact ⟨0, rfl, Nat.zero_le _, zh (fun k _ h => by omega), rfl⟩
 case round =>
  obtain ⟨j, rfl, hj, HD, hw⟩ := hrel;obtain rfl : w = wr := hw.symm
  by_cases hlt : j < l.length
  ·obtain ⟨b, o, cs, rfl, hF, hbl, hE, hcell⟩ := HEL.o j hlt;obtain ⟨rfl, hsm⟩ := hE;have t1 : decide ((j : Int) < l.length) = true := decide_eq_true (by omega);have e0 := hcell 0 _ rfl;simp only [Nat.mul_one, Nat.add_zero] at e0
   by_cases he : l[j] = s
   ·have hR0 : R = (j : Int) := by rw [← HR.o, Zkx hlt he HD.o]
    rw [he] at e0;subst hR0;have v2 : (s.toList == s.toList) = true := by simp
    clear hcell hsm he;go_wp2_with fail;go_ret;exact ⟨rfl, rfl⟩
   ·obtain ⟨y, hy⟩ : ∃ y, l[j] = y := ⟨_, rfl⟩;rw [hy] at e0;have v1 : (s.toList == y.toList) = false := by rw [nH]; exact fun h => he (hy.trans (Zid h.symm))
    have HD2 : Hd (∀ k (h : k < l.length), k < j + 1 → l[k] ≠ s) := zh (fun k hk h => by
     rcases Nat.lt_or_ge k j with h1 | h1
     ·exact HD.o k hk h1
     ·obtain rfl : k = j := by omega
      exact he)
    clear hcell hsm he hy;go_wp2_with fail
    go_roundw
    case rel => exact ⟨j + 1, by go_num, by omega, HD2, trivial⟩
    case measure => simp [intOf]; omega
  ·have t1 : decide ((j : Int) < l.length) = false := decide_eq_false (by omega);have hR0 : R = -1 := by rw [← HR.o, Znj (fun k hk => HD.o k hk (by omega))]
   subst hR0;go_wp2_with fail;go_ret;exact ⟨rfl, rfl⟩
theorem Zra (l : List ByteArray) (v : Value) (s : ByteArray) (F : Nat → Prop) (w : World) (hr : Zo Zbz 1 F w l v) :
  Calls Tryz.prog 170 #[v, .string s] w fun e w' => e = .returned (.bool (Zd4 l s)) ∧ w' = w := by
 obtain ⟨A, c, rfl, hc, hcm, hel⟩ := hr;unfold maxLen at hcm;have HEL := zh hel;clear hel;obtain ⟨R, hR⟩ : ∃ R, Zd4 l s = R := ⟨_, rfl⟩;rw [hR];have HR := zh hR;clear hR;go_enter Tryz.func170, Tryz.ntmps170;go_wp2_with fail
 go_loopw [5] (fun i wr => ∃ j : Nat, i = .int .i64 j ∧ j ≤ l.length ∧ Hd (∀ k (h : k < l.length), k < j → l[k] ≠ s) ∧ wr = w) (fun i _ => l.length - (intOf i).toNat)
 case atStart => exact ⟨0, rfl, Nat.zero_le _, zh (fun k _ h => by omega), rfl⟩
 case round =>
  obtain ⟨j, rfl, hj, HD, hw⟩ := hrel;obtain rfl : w = wr := hw.symm
  by_cases hlt : j < l.length
  ·obtain ⟨b, o, cs, rfl, hF, hbl, hE, hcell⟩ := HEL.o j hlt;obtain ⟨rfl, hsm⟩ := hE;have t1 : decide ((j : Int) < l.length) = true := decide_eq_true (by omega);have e0 := hcell 0 _ rfl;simp only [Nat.mul_one, Nat.add_zero] at e0
   by_cases he : l[j] = s
   ·have hR0 : R = true := by rw [← HR.o, Zuu hlt he]
    rw [he] at e0;subst hR0;have v2 : (s.toList == s.toList) = true := by simp
    clear hcell hsm he;go_wp2_with fail;go_ret;exact ⟨rfl, rfl⟩
   ·obtain ⟨y, hy⟩ : ∃ y, l[j] = y := ⟨_, rfl⟩;rw [hy] at e0;have v1 : (y.toList == s.toList) = false := by rw [nH]; exact fun h => he (hy.trans (Zid h))
    have HD2 : Hd (∀ k (h : k < l.length), k < j + 1 → l[k] ≠ s) := zh (fun k hk h => by
     rcases Nat.lt_or_ge k j with h1 | h1
     ·exact HD.o k hk h1
     ·obtain rfl : k = j := by omega
      exact he)
    clear hcell hsm he hy;go_wp2_with fail
    go_roundw
    case rel => exact ⟨j + 1, by go_num, by omega, HD2, trivial⟩
    case measure => simp [intOf]; omega
  ·have t1 : decide ((j : Int) < l.length) = false := decide_eq_false (by omega);have hR0 : R = false := by rw [← HR.o, Zqr (fun k hk => HD.o k hk (by omega))]
   subst hR0;go_wp2_with fail;go_ret;exact ⟨rfl, rfl⟩
theorem Zif (l : List ByteArray) (v : Value) (s : ByteArray) (F : Nat → Prop) (w : World) (hr : Zo Zbz 1 F w l v) :
  Calls Tryz.prog 154 #[v, .string s] w fun e w' => e = .returned (.bool (Zd4 l s)) ∧ w' = w := by
 have HI := zh (Zq9 l v s F w hr);have HG := zh (Zs1 l s);clear hr;go_enter Tryz.func154, Tryz.ntmps154;go_wp2_with fail;refine HI.o.mono ?_;rintro e w' ⟨rfl, hw⟩;obtain rfl := hw.symm;go_wp2_with fail;go_ret;exact ⟨by rw [← HG.o]; rfl, rfl⟩
def Zb1 (x : UInt8) : Bool := decide (48 ≤ x.toNat) && decide (x.toNat ≤ 57)
def Zbs (x : UInt8) : Bool := (decide (97 ≤ x.toNat) && decide (x.toNat ≤ 122)) || (decide (65 ≤ x.toNat) && decide (x.toNat ≤ 90)) || decide (x.toNat = 95)
theorem Zjz (x : UInt8) (c : Int) (hc : (x.toNat : Int) = c) (w : World) : Calls Tryz.prog 151 #[.int .u8 c] w fun e w' => e = .returned (.bool (Zb1 x)) ∧ w' = w := by
 have hb : 0 ≤ c ∧ c < 256 := by have := x.toNat_lt; omega
 obtain ⟨hb0, hb1⟩ := hb;obtain ⟨R, hR⟩ : ∃ R, Zb1 x = R := ⟨_, rfl⟩;rw [hR];have HR := zh hR;have HC := zh hc;clear hR hc;have hcase : (c < 48) ∨ (48 ≤ c ∧ c ≤ 57) ∨ (57 < c) := by omega
 rcases hcase with h | h | h
 ·have hR0 : R = false := by rw [← HR.o]; have := HC.o; unfold Zb1; simp; omega
  subst hR0;have : decide ((48 : Int) ≤ c) = false := decide_eq_false (by omega);have : decide (c ≤ (57 : Int)) = true := decide_eq_true (by omega);clear HC HR;go_enter Tryz.func151, Tryz.ntmps151;go_wp2_with fail;go_ret;exact ⟨rfl, rfl⟩
 ·have hR0 : R = true := by rw [← HR.o]; have := HC.o; unfold Zb1; simp; omega
  subst hR0;have : decide ((48 : Int) ≤ c) = true := decide_eq_true (by omega);have : decide (c ≤ (57 : Int)) = true := decide_eq_true (by omega);clear HC HR;go_enter Tryz.func151, Tryz.ntmps151;go_wp2_with fail;go_ret;exact ⟨rfl, rfl⟩
 ·have hR0 : R = false := by rw [← HR.o]; have := HC.o; unfold Zb1; simp; omega
  subst hR0;have : decide ((48 : Int) ≤ c) = true := decide_eq_true (by omega);have : decide (c ≤ (57 : Int)) = false := decide_eq_false (by omega);clear HC HR;go_enter Tryz.func151, Tryz.ntmps151;go_wp2_with fail;go_ret;exact ⟨rfl, rfl⟩
theorem Znk (x : UInt8) (c : Int) (hc : (x.toNat : Int) = c) (w : World) : Calls Tryz.prog 147 #[.int .u8 c] w fun e w' => e = .returned (.bool (Zb1 x)) ∧ w' = w := by
 have hb : 0 ≤ c ∧ c < 256 := by have := x.toNat_lt; omega
 obtain ⟨hb0, hb1⟩ := hb;obtain ⟨R, hR⟩ : ∃ R, Zb1 x = R := ⟨_, rfl⟩;rw [hR];have HR := zh hR;have HC := zh hc;clear hR hc;have hcase : (c < 48) ∨ (48 ≤ c ∧ c ≤ 57) ∨ (57 < c) := by omega
 rcases hcase with h | h | h
 ·have hR0 : R = false := by rw [← HR.o]; have := HC.o; unfold Zb1; simp; omega
  subst hR0;have : decide ((48 : Int) ≤ c) = false := decide_eq_false (by omega);have : decide (c ≤ (57 : Int)) = true := decide_eq_true (by omega);clear HC HR;go_enter Tryz.func147, Tryz.ntmps147;go_wp2_with fail;go_ret;exact ⟨rfl, rfl⟩
 ·have hR0 : R = true := by rw [← HR.o]; have := HC.o; unfold Zb1; simp; omega
  subst hR0;have : decide ((48 : Int) ≤ c) = true := decide_eq_true (by omega);have : decide (c ≤ (57 : Int)) = true := decide_eq_true (by omega);clear HC HR;go_enter Tryz.func147, Tryz.ntmps147;go_wp2_with fail;go_ret;exact ⟨rfl, rfl⟩
 ·have hR0 : R = false := by rw [← HR.o]; have := HC.o; unfold Zb1; simp; omega
  subst hR0;have : decide ((48 : Int) ≤ c) = true := decide_eq_true (by omega);have : decide (c ≤ (57 : Int)) = false := decide_eq_false (by omega);clear HC HR;go_enter Tryz.func147, Tryz.ntmps147;go_wp2_with fail;go_ret;exact ⟨rfl, rfl⟩
theorem Zmh (x : UInt8) (c : Int) (hc : (x.toNat : Int) = c) (w : World) : Calls Tryz.prog 153 #[.int .u8 c] w fun e w' => e = .returned (.bool (Zbs x)) ∧ w' = w := by
 have hb : 0 ≤ c ∧ c < 256 := by have := x.toNat_lt; omega
 obtain ⟨hb0, hb1⟩ := hb;obtain ⟨R, hR⟩ : ∃ R, Zbs x = R := ⟨_, rfl⟩;rw [hR];have HR := zh hR;have HC := zh hc;clear hR hc;have hcase : (c < 65) ∨ (65 ≤ c ∧ c ≤ 90) ∨ (90 < c ∧ c < 95) ∨ (c = 95) ∨ (c = 96) ∨ (97 ≤ c ∧ c ≤ 122) ∨ (122 < c) := by omega
 rcases hcase with h | h | h | h | h | h | h
 ·have hR0 : R = false := by rw [← HR.o]; have := HC.o; unfold Zbs; simp; omega
  subst hR0;have : decide ((97 : Int) ≤ c) = false := decide_eq_false (by omega);have : decide (c ≤ (122 : Int)) = true := decide_eq_true (by omega);have : decide ((65 : Int) ≤ c) = false := decide_eq_false (by omega);have : decide (c ≤ (90 : Int)) = true := decide_eq_true (by omega);have : (c == (95 : Int)) = false := by rw [nH]; omega
  clear HC HR;go_enter Tryz.func153, Tryz.ntmps153;go_wp2_with fail;go_ret;exact ⟨rfl, rfl⟩
 ·have hR0 : R = true := by rw [← HR.o]; have := HC.o; unfold Zbs; simp; omega
  subst hR0;have : decide ((97 : Int) ≤ c) = false := decide_eq_false (by omega);have : decide (c ≤ (122 : Int)) = true := decide_eq_true (by omega);have : decide ((65 : Int) ≤ c) = true := decide_eq_true (by omega);have : decide (c ≤ (90 : Int)) = true := decide_eq_true (by omega);have : (c == (95 : Int)) = false := by rw [nH]; omega
  clear HC HR;go_enter Tryz.func153, Tryz.ntmps153;go_wp2_with fail;go_ret;exact ⟨rfl, rfl⟩
 ·have hR0 : R = false := by rw [← HR.o]; have := HC.o; unfold Zbs; simp; omega
  subst hR0;have : decide ((97 : Int) ≤ c) = false := decide_eq_false (by omega);have : decide (c ≤ (122 : Int)) = true := decide_eq_true (by omega);have : decide ((65 : Int) ≤ c) = true := decide_eq_true (by omega);have : decide (c ≤ (90 : Int)) = false := decide_eq_false (by omega);have : (c == (95 : Int)) = false := by rw [nH]; omega
  clear HC HR;go_enter Tryz.func153, Tryz.ntmps153;go_wp2_with fail;go_ret;exact ⟨rfl, rfl⟩
 ·have hR0 : R = true := by rw [← HR.o]; have := HC.o; unfold Zbs; simp; omega
  subst hR0;have : decide ((97 : Int) ≤ c) = false := decide_eq_false (by omega);have : decide (c ≤ (122 : Int)) = true := decide_eq_true (by omega);have : decide ((65 : Int) ≤ c) = true := decide_eq_true (by omega);have : decide (c ≤ (90 : Int)) = false := decide_eq_false (by omega);have : (c == (95 : Int)) = true := by rw [beq_iff_eq]; omega
  clear HC HR;go_enter Tryz.func153, Tryz.ntmps153;go_wp2_with fail;go_ret;exact ⟨rfl, rfl⟩
 ·have hR0 : R = false := by rw [← HR.o]; have := HC.o; unfold Zbs; simp; omega
  subst hR0;have : decide ((97 : Int) ≤ c) = false := decide_eq_false (by omega);have : decide (c ≤ (122 : Int)) = true := decide_eq_true (by omega);have : decide ((65 : Int) ≤ c) = true := decide_eq_true (by omega);have : decide (c ≤ (90 : Int)) = false := decide_eq_false (by omega);have : (c == (95 : Int)) = false := by rw [nH]; omega
  clear HC HR;go_enter Tryz.func153, Tryz.ntmps153;go_wp2_with fail;go_ret;exact ⟨rfl, rfl⟩
 ·have hR0 : R = true := by rw [← HR.o]; have := HC.o; unfold Zbs; simp; omega
  subst hR0;have : decide ((97 : Int) ≤ c) = true := decide_eq_true (by omega);have : decide (c ≤ (122 : Int)) = true := decide_eq_true (by omega);have : decide ((65 : Int) ≤ c) = true := decide_eq_true (by omega);have : decide (c ≤ (90 : Int)) = false := decide_eq_false (by omega);have : (c == (95 : Int)) = false := by rw [nH]; omega
  clear HC HR;go_enter Tryz.func153, Tryz.ntmps153;go_wp2_with fail;go_ret;exact ⟨rfl, rfl⟩
 ·have hR0 : R = false := by rw [← HR.o]; have := HC.o; unfold Zbs; simp; omega
  subst hR0;have : decide ((97 : Int) ≤ c) = true := decide_eq_true (by omega);have : decide (c ≤ (122 : Int)) = false := decide_eq_false (by omega);have : decide ((65 : Int) ≤ c) = true := decide_eq_true (by omega);have : decide (c ≤ (90 : Int)) = false := decide_eq_false (by omega);have : (c == (95 : Int)) = false := by rw [nH]; omega
  clear HC HR;go_enter Tryz.func153, Tryz.ntmps153;go_wp2_with fail;go_ret;exact ⟨rfl, rfl⟩
theorem Zig (x : UInt8) (c : Int) (hc : (x.toNat : Int) = c) (w : World) : Calls Tryz.prog 145 #[.int .u8 c] w fun e w' => e = .returned (.bool (Zbs x)) ∧ w' = w := by
 have hb : 0 ≤ c ∧ c < 256 := by have := x.toNat_lt; omega
 obtain ⟨hb0, hb1⟩ := hb;obtain ⟨R, hR⟩ : ∃ R, Zbs x = R := ⟨_, rfl⟩;rw [hR];have HR := zh hR;have HC := zh hc;clear hR hc;have hcase : (c < 65) ∨ (65 ≤ c ∧ c ≤ 90) ∨ (90 < c ∧ c < 95) ∨ (c = 95) ∨ (c = 96) ∨ (97 ≤ c ∧ c ≤ 122) ∨ (122 < c) := by omega
 rcases hcase with h | h | h | h | h | h | h
 ·have hR0 : R = false := by rw [← HR.o]; have := HC.o; unfold Zbs; simp; omega
  subst hR0;have : decide ((97 : Int) ≤ c) = false := decide_eq_false (by omega);have : decide (c ≤ (122 : Int)) = true := decide_eq_true (by omega);have : decide ((65 : Int) ≤ c) = false := decide_eq_false (by omega);have : decide (c ≤ (90 : Int)) = true := decide_eq_true (by omega);have : (c == (95 : Int)) = false := by rw [nH]; omega
  clear HC HR;go_enter Tryz.func145, Tryz.ntmps145;go_wp2_with fail;go_ret;exact ⟨rfl, rfl⟩
 ·have hR0 : R = true := by rw [← HR.o]; have := HC.o; unfold Zbs; simp; omega
  subst hR0;have : decide ((97 : Int) ≤ c) = false := decide_eq_false (by omega);have : decide (c ≤ (122 : Int)) = true := decide_eq_true (by omega);have : decide ((65 : Int) ≤ c) = true := decide_eq_true (by omega);have : decide (c ≤ (90 : Int)) = true := decide_eq_true (by omega);have : (c == (95 : Int)) = false := by rw [nH]; omega
  clear HC HR;go_enter Tryz.func145, Tryz.ntmps145;go_wp2_with fail;go_ret;exact ⟨rfl, rfl⟩
 ·have hR0 : R = false := by rw [← HR.o]; have := HC.o; unfold Zbs; simp; omega
  subst hR0;have : decide ((97 : Int) ≤ c) = false := decide_eq_false (by omega);have : decide (c ≤ (122 : Int)) = true := decide_eq_true (by omega);have : decide ((65 : Int) ≤ c) = true := decide_eq_true (by omega);have : decide (c ≤ (90 : Int)) = false := decide_eq_false (by omega);have : (c == (95 : Int)) = false := by rw [nH]; omega
  clear HC HR;go_enter Tryz.func145, Tryz.ntmps145;go_wp2_with fail;go_ret;exact ⟨rfl, rfl⟩
 ·have hR0 : R = true := by rw [← HR.o]; have := HC.o; unfold Zbs; simp; omega
  subst hR0;have : decide ((97 : Int) ≤ c) = false := decide_eq_false (by omega);have : decide (c ≤ (122 : Int)) = true := decide_eq_true (by omega);have : decide ((65 : Int) ≤ c) = true := decide_eq_true (by omega);have : decide (c ≤ (90 : Int)) = false := decide_eq_false (by omega);have : (c == (95 : Int)) = true := by rw [beq_iff_eq]; omega
  clear HC HR;go_enter Tryz.func145, Tryz.ntmps145;go_wp2_with fail;go_ret;exact ⟨rfl, rfl⟩
 ·have hR0 : R = false := by rw [← HR.o]; have := HC.o; unfold Zbs; simp; omega
  subst hR0;have : decide ((97 : Int) ≤ c) = false := decide_eq_false (by omega);have : decide (c ≤ (122 : Int)) = true := decide_eq_true (by omega);have : decide ((65 : Int) ≤ c) = true := decide_eq_true (by omega);have : decide (c ≤ (90 : Int)) = false := decide_eq_false (by omega);have : (c == (95 : Int)) = false := by rw [nH]; omega
  clear HC HR;go_enter Tryz.func145, Tryz.ntmps145;go_wp2_with fail;go_ret;exact ⟨rfl, rfl⟩
 ·have hR0 : R = true := by rw [← HR.o]; have := HC.o; unfold Zbs; simp; omega
  subst hR0;have : decide ((97 : Int) ≤ c) = true := decide_eq_true (by omega);have : decide (c ≤ (122 : Int)) = true := decide_eq_true (by omega);have : decide ((65 : Int) ≤ c) = true := decide_eq_true (by omega);have : decide (c ≤ (90 : Int)) = false := decide_eq_false (by omega);have : (c == (95 : Int)) = false := by rw [nH]; omega
  clear HC HR;go_enter Tryz.func145, Tryz.ntmps145;go_wp2_with fail;go_ret;exact ⟨rfl, rfl⟩
 ·have hR0 : R = false := by rw [← HR.o]; have := HC.o; unfold Zbs; simp; omega
  subst hR0;have : decide ((97 : Int) ≤ c) = true := decide_eq_true (by omega);have : decide (c ≤ (122 : Int)) = false := decide_eq_false (by omega);have : decide ((65 : Int) ≤ c) = true := decide_eq_true (by omega);have : decide (c ≤ (90 : Int)) = false := decide_eq_false (by omega);have : (c == (95 : Int)) = false := by rw [nH]; omega
  clear HC HR;go_enter Tryz.func145, Tryz.ntmps145;go_wp2_with fail;go_ret;exact ⟨rfl, rfl⟩
/-- The library's table of spaces. -/
def Spc (w : World) : Prop := Lib.TabIs Tryz.prog w "strings.asciiSpace" .u8 Lib.asciiSpaceTab
theorem Zpn : Tryz.prog.globalNamed "strings.asciiSpace" = some 0 := by kernel_rfl
theorem Spc.below {w w' : World} (h : Spc w) (hb : Below w.heap.size w w') : Spc w' :=
 var?_below hb Zpn (World.block_lt_of_cell? w _ (h.cell Zpn 0 (by decide +kernel))) h
def Zkn (l : List (List UInt8)) : Obj := .cells (l.map fun l => Value.string ⟨l.toArray⟩).toArray 9
/-- Texts out of bytes. -/
def Zka (l : List (List UInt8)) : List ByteArray := l.map fun x => ⟨x.toArray⟩
theorem Znl (w : World) (l : List (List UInt8)) (h1 : l.length ≤ 1000) (h2 : ∀ x ∈ l, x.length ≤ 1000) : Zo Zbz 1 (fun b => w.heap.size ≤ b) (w.alloc (Zkn l)) (Zka l) (.slice (some ⟨w.heap.size, 0, none⟩) l.length l.length) := by
 refine ⟨some ⟨w.heap.size, 0, none⟩, l.length, by simp [Zka], by simp [Zka], by unfold maxLen; omega, fun i hi => ?_⟩;have hi' : i < l.length := by simpa [Zka] using hi
 refine ⟨w.heap.size, 0, [.string (Zka l)[i]], rfl, Nat.le_refl _, by simp, ⟨rfl, ?_⟩, fun j x hj => ?_⟩
 ·have := h2 l[i] (List.getElem_mem hi');simp only [Zka, List.getElem_map];show l[i].length ≤ maxLen;unfold maxLen
  omega
 ·cases j with
  | zero =>
   obtain rfl : Value.string (Zka l)[i] = x := by simpa using hj
   rw [cell_of_row _ w.heap.size _ _ _ _ (heap_alloc_new w (Zkn l))];simp [Zka, hi']
  | succ j => simp at hj
theorem Zl3 (l : List (List UInt8)) (s : ByteArray) : Zd4 (Zka l) s = decide (bl s ∈ l) := by
 unfold Zd4 Zka;rw [List.map_map];have : (bl ∘ fun x : List UInt8 => (⟨x.toArray⟩ : ByteArray)) = id := by funext x; rfl
 rw [this, List.map_id]
def Zdj : List (List UInt8) := [[112, 114, 111, 99, 101, 100, 117, 114, 101], [101, 110, 100], [103, 108, 111, 98, 97, 108], [108, 111, 99, 97, 108], [114, 101, 99, 111, 114, 100], [105, 102], [116, 104, 101, 110], [101, 108, 115, 101], [119, 104, 105, 108, 101], [117, 110, 116, 105, 108], [101, 118, 101, 114, 121], [100, 111], [114, 101, 112, 101, 97, 116], [99, 97, 115, 101], [111, 102], [100, 101, 102, 97, 117, 108, 116], [114, 101, 116, 117, 114, 110], [115, 117, 115, 112, 101, 110, 100], [102, 97, 105, 108], [98, 114, 101, 97, 107], [110, 101, 120, 116], [99, 114, 101, 97, 116, 101], [116, 111], [98, 121], [110, 111, 116], [100, 101, 102, 101, 114]]
theorem Zlm : Lib.fields (ByteArray.mk #[112, 114, 111, 99, 101, 100, 117, 114, 101, 32, 101, 110, 100, 32, 103, 108, 111, 98, 97, 108, 32, 108, 111, 99, 97, 108, 32, 114, 101, 99, 111, 114, 100, 32, 105, 102, 32, 116, 104, 101, 110, 32, 101, 108, 115, 101, 32, 119, 104, 105, 108, 101, 32, 117, 110, 116, 105, 108, 32, 101, 118, 101, 114, 121, 32, 100, 111, 32, 114, 101, 112, 101, 97, 116, 32, 99, 97, 115, 101, 32, 111, 102, 32, 100, 101, 102, 97, 117, 108, 116, 32, 114, 101, 116, 117, 114, 110, 32, 115, 117, 115, 112, 101, 110, 100, 32, 102, 97, 105, 108, 32, 98, 114, 101, 97, 107, 32, 110, 101, 120, 116, 32, 99, 114, 101, 97, 116, 101, 32, 116, 111, 32, 98, 121, 32, 110, 111, 116, 32, 100, 101, 102, 101, 114]).data.toList = Zdj := by decide +kernel
theorem Zln : ∀ (j : Nat) b, (ByteArray.mk #[112, 114, 111, 99, 101, 100, 117, 114, 101, 32, 101, 110, 100, 32, 103, 108, 111, 98, 97, 108, 32, 108, 111, 99, 97, 108, 32, 114, 101, 99, 111, 114, 100, 32, 105, 102, 32, 116, 104, 101, 110, 32, 101, 108, 115, 101, 32, 119, 104, 105, 108, 101, 32, 117, 110, 116, 105, 108, 32, 101, 118, 101, 114, 121, 32, 100, 111, 32, 114, 101, 112, 101, 97, 116, 32, 99, 97, 115, 101, 32, 111, 102, 32, 100, 101, 102, 97, 117, 108, 116, 32, 114, 101, 116, 117, 114, 110, 32, 115, 117, 115, 112, 101, 110, 100, 32, 102, 97, 105, 108, 32, 98, 114, 101, 97, 107, 32, 110, 101, 120, 116, 32, 99, 114, 101, 97, 116, 101, 32, 116, 111, 32, 98, 121, 32, 110, 111, 116, 32, 100, 101, 102, 101, 114]).data.toList[j]? = some b → b.toNat < 128 := by
 intro j b hb;have h : ∀ c ∈ (ByteArray.mk #[112, 114, 111, 99, 101, 100, 117, 114, 101, 32, 101, 110, 100, 32, 103, 108, 111, 98, 97, 108, 32, 108, 111, 99, 97, 108, 32, 114, 101, 99, 111, 114, 100, 32, 105, 102, 32, 116, 104, 101, 110, 32, 101, 108, 115, 101, 32, 119, 104, 105, 108, 101, 32, 117, 110, 116, 105, 108, 32, 101, 118, 101, 114, 121, 32, 100, 111, 32, 114, 101, 112, 101, 97, 116, 32, 99, 97, 115, 101, 32, 111, 102, 32, 100, 101, 102, 97, 117, 108, 116, 32, 114, 101, 116, 117, 114, 110, 32, 115, 117, 115, 112, 101, 110, 100, 32, 102, 97, 105, 108, 32, 98, 114, 101, 97, 107, 32, 110, 101, 120, 116, 32, 99, 114, 101, 97, 116, 101, 32, 116, 111, 32, 98, 121, 32, 110, 111, 116, 32, 100, 101, 102, 101, 114]).data.toList, c.toNat < 128 := by decide +kernel
 exact h b (List.mem_of_getElem? hb)
theorem Zky (w : World) (ht : Spc w) : Calls Tryz.prog 175 #[.string ⟨#[112, 114, 111, 99, 101, 100, 117, 114, 101, 32, 101, 110, 100, 32, 103, 108, 111, 98, 97, 108, 32, 108, 111, 99, 97, 108, 32, 114, 101, 99, 111, 114, 100, 32, 105, 102, 32, 116, 104, 101, 110, 32, 101, 108, 115, 101, 32, 119, 104, 105, 108, 101, 32, 117, 110, 116, 105, 108, 32, 101, 118, 101, 114, 121, 32, 100, 111, 32, 114, 101, 112, 101, 97, 116, 32, 99, 97, 115, 101, 32, 111, 102, 32, 100, 101, 102, 97, 117, 108, 116, 32, 114, 101, 116, 117, 114, 110, 32, 115, 117, 115, 112, 101, 110, 100, 32, 102, 97, 105, 108, 32, 98, 114, 101, 97, 107, 32, 110, 101, 120, 116, 32, 99, 114, 101, 97, 116, 101, 32, 116, 111, 32, 98, 121, 32, 110, 111, 116, 32, 100, 101, 102, 101, 114]⟩] w fun e w' => e = .returned (.slice (some ⟨w.heap.size, 0, none⟩) 26 26) ∧ w' = w.alloc (Zkn Zdj) := by
 have h := Tryz.strings_Fields_laid ⟨#[112, 114, 111, 99, 101, 100, 117, 114, 101, 32, 101, 110, 100, 32, 103, 108, 111, 98, 97, 108, 32, 108, 111, 99, 97, 108, 32, 114, 101, 99, 111, 114, 100, 32, 105, 102, 32, 116, 104, 101, 110, 32, 101, 108, 115, 101, 32, 119, 104, 105, 108, 101, 32, 117, 110, 116, 105, 108, 32, 101, 118, 101, 114, 121, 32, 100, 111, 32, 114, 101, 112, 101, 97, 116, 32, 99, 97, 115, 101, 32, 111, 102, 32, 100, 101, 102, 97, 117, 108, 116, 32, 114, 101, 116, 117, 114, 110, 32, 115, 117, 115, 112, 101, 110, 100, 32, 102, 97, 105, 108, 32, 98, 114, 101, 97, 107, 32, 110, 101, 120, 116, 32, 99, 114, 101, 97, 116, 101, 32, 116, 111, 32, 98, 121, 32, 110, 111, 116, 32, 100, 101, 102, 101, 114]⟩ w (by decide +kernel) Zln ht;rw [Zlm] at h;exact h
/-- Whether it is a reserved word. -/
def Zih (s : ByteArray) : Bool := decide (bl s ∈ Zdj)
theorem Zii (w : World) (ht : Spc w) : Calls Tryz.prog 171 #[] w fun e w' => e = .returned (.slice (some ⟨w.heap.size, 0, none⟩) 26 26) ∧ w' = w.alloc (Zkn Zdj) := by
 go_enter Tryz.func171, Tryz.ntmps171;go_wp2_with fail;refine (Zky w ht).mono ?_;rintro e w' ⟨rfl, rfl⟩;go_wp2_with fail;go_ret;exact ⟨rfl, rfl⟩
theorem Zhy (s : ByteArray) (w : World) (ht : Spc w) : Calls Tryz.prog 152 #[.string s] w fun e w' => e = .returned (.bool (Zih s)) ∧ Below w.heap.size w w' := by
 have HW := zh (Zii w ht);have hro := Zif (Zka Zdj) _ s _ _ (Znl w Zdj (by decide) (by decide));rw [Zl3] at hro;have HC := zh hro;clear hro;go_enter Tryz.func152, Tryz.ntmps152;go_wp2_with fail;refine HW.o.mono ?_;rintro e w' ⟨rfl, hw⟩;subst hw;go_wp2_with fail;refine HC.o.mono ?_;rintro e w' ⟨rfl, hw⟩;subst hw;go_wp2_with fail;go_ret;exact ⟨rfl, (Below.refl _ _).alloc (Nat.le_refl _) _⟩
theorem Zhz (s : ByteArray) (w : World) : Calls Tryz.prog 146 #[.string s] w fun e w' => e = .returned (.bool (Zih s)) ∧ Below w.heap.size w w' := by
 have hro := Zra (Zka Zdj) _ s _ _ (Znl w Zdj (by decide) (by decide));rw [Zl3] at hro;have HC := zh hro;clear hro;go_enter Tryz.func146, Tryz.ntmps146;go_wp2_with fail;refine HC.o.mono ?_;rintro e w' ⟨rfl, hw⟩;subst hw;go_wp2_with fail;go_ret;exact ⟨rfl, (Below.refl _ _).alloc (Nat.le_refl _) _⟩
theorem Znm {x : UInt8} (h : Zbs x = true) : Zb1 x = false := by
 unfold Zbs at h;unfold Zb1;simp at h ⊢
 omega
/-- Whether it is a name. -/
def Zb5 (s : ByteArray) : Bool := decide (1 ≤ s.size) && decide (s.size ≤ 12) && !((bl s).head?.any Zb1) && !Zih s && (bl s).all fun x => Zbs x || Zb1 x
theorem Zmi (s : ByteArray) : (bl s).length = s.size := by simp [bl]
theorem Zs3 (s : ByteArray) (j : Nat) (h : j < s.size) : (bl s)[j]'(by rw [Zmi]; exact h) = s[j] := rfl
theorem Zkz {s : ByteArray} (hp : 0 < s.size) : (bl s).head? = some s[0] := by
 rw [List.head?_eq_getElem?, List.getElem?_eq_getElem (by rw [Zmi]; exact hp), Zs3]
theorem Zk0 {s : ByteArray} (h : s.size < 1) : Zb5 s = false := by
 unfold Zb5; rw [show decide (1 ≤ s.size) = false from decide_eq_false (by omega)]; rfl
theorem Zl4 {s : ByteArray} (h : 12 < s.size) : Zb5 s = false := by
 unfold Zb5; rw [show decide (s.size ≤ 12) = false from decide_eq_false (by omega), Bool.and_false]; rfl
theorem Znn {s : ByteArray} (hp : 0 < s.size) (h : Zb1 s[0] = true) : Zb5 s = false := by
 unfold Zb5; rw [Zkz hp]; simp [h]
theorem Zno {s : ByteArray} (h : Zih s = true) : Zb5 s = false := by
 unfold Zb5; rw [h]; simp
theorem Zmj {s : ByteArray} {j : Nat} (hj : j < s.size) (h : (Zbs s[j] || Zb1 s[j]) = false) : Zb5 s = false := by
 unfold Zb5;have : (bl s).all (fun x => Zbs x || Zb1 x) = false := by
  rw [List.all_eq_false];exact ⟨s[j], by rw [← Zs3 s j hj]; exact List.getElem_mem _, by rw [h]; decide⟩
 rw [this, Bool.and_false]
theorem Zpo {s : ByteArray} (hp : 0 < s.size) (h : Zbs s[0] = false) : Zb5 s = false := by
 cases hd : Zb1 s[0] with
 | true => exact Znn hp hd
 | false => exact Zmj hp (by rw [h, hd]; rfl)
theorem Znp {s : ByteArray} (h1 : 1 ≤ s.size) (h2 : s.size ≤ 12) (h3 : (∃ hp : 0 < s.size, Zb1 s[0] = false) ∨ (∃ hp : 0 < s.size, Zbs s[0] = true)) (h4 : Zih s = false) (h5 : ∀ k (h : k < s.size), (Zbs s[k] || Zb1 s[k]) = true) : Zb5 s = true := by
 have hd : Zb1 s[0] = false := by
  rcases h3 with ⟨_, h⟩ | ⟨_, h⟩
  ·exact h
  ·exact Znm h
 unfold Zb5;rw [Zkz h1, h4];simp only [Option.any_some, hd, h1, h2, decide_true, Bool.not_false, Bool.and_true, Bool.true_and];rw [List.all_eq_true];intro x hx;obtain ⟨k, hk, rfl⟩ := List.getElem_of_mem hx;rw [Zmi] at hk;rw [Zs3 s k hk];exact h5 k hk
theorem Zgl (s : ByteArray) (w : World) (hs : s.size ≤ maxLen) (ht : Spc w) : Calls Tryz.prog 104 #[.string s] w fun e w' => e = .returned (.bool (Zb5 s)) ∧ Below w.heap.size w w' := by
 unfold maxLen at hs;obtain ⟨R, hR⟩ : ∃ R, Zb5 s = R := ⟨_, rfl⟩;rw [hR];have HR := zh hR;clear hR;have HX := zh (Zhy s w ht);clear ht
 by_cases h1 : s.size < 1
 ·have hR0 : R = false := by rw [← HR.o, Zk0 h1]
  have t1 : decide ((s.size : Int) < 1) = true := decide_eq_true (by omega);subst hR0;go_enter Tryz.func104, Tryz.ntmps104;go_wp2_with fail;go_ret;exact ⟨rfl, Below.refl _ _⟩
 have t1 : decide ((s.size : Int) < 1) = false := decide_eq_false (by omega)
 by_cases h12 : 12 < s.size
 ·have hR0 : R = false := by rw [← HR.o, Zl4 h12]
  have t2 : decide ((12 : Int) < s.size) = true := decide_eq_true (by omega);subst hR0;go_enter Tryz.func104, Tryz.ntmps104;go_wp2_with fail;go_ret;exact ⟨rfl, Below.refl _ _⟩
 have t2 : decide ((12 : Int) < s.size) = false := decide_eq_false (by omega);have hp : 0 < s.size := by omega
 have hp' : (0 : Int) < s.size := by omega
 obtain ⟨c0, hc0⟩ : ∃ c : Int, (s[0].toNat : Int) = c := ⟨_, rfl⟩;have HF := zh (fun w => Zjz s[0] c0 hc0 w);go_enter Tryz.func104, Tryz.ntmps104;go_wp2_with fail;refine (HF.o _).mono ?_;rintro e w' ⟨rfl, hw⟩;obtain rfl := hw.symm
 by_cases hf : Zb1 s[0] = true
 ·have hR0 : R = false := by rw [← HR.o, Znn hp hf]
  rw [hf];subst hR0;go_wp2_with fail;go_ret;exact ⟨rfl, Below.refl _ _⟩
 have hf2 : Zb1 s[0] = false := by simpa using hf
 rw [hf2];have HF2 := zh hf2;clear hf hf2 HF;go_wp2_with fail;refine HX.o.mono ?_;rintro e w1 ⟨rfl, hb1⟩
 by_cases hx : Zih s = true
 ·have hR0 : R = false := by rw [← HR.o, Zno hx]
  rw [hx];subst hR0;go_wp2_with fail;go_ret;exact ⟨rfl, hb1⟩
 have hx2 : Zih s = false := by simpa using hx
 rw [hx2];have HX2 := zh hx2;clear hx hx2 HX;go_wp2_with fail
 go_loopw [3] (fun i wr => ∃ j : Nat, i = .int .i64 j ∧ j ≤ s.size ∧ Hd (∀ k (h : k < s.size), k < j → (Zbs s[k] || Zb1 s[k]) = true) ∧ wr = w1) (fun i _ => s.size - (intOf i).toNat)
 case atStart => exact ⟨0, rfl, Nat.zero_le _, zh (fun k _ h => by omega), rfl⟩
 case round =>
  obtain ⟨j, rfl, hj, HD, hw⟩ := hrel;obtain rfl : w1 = wr := hw.symm
  by_cases hlt : j < s.size
  ·have t3 : decide ((j : Int) < s.size) = true := decide_eq_true (by omega);obtain ⟨c, hc⟩ : ∃ c : Int, (s[j].toNat : Int) = c := ⟨_, rfl⟩;have HL := zh (fun w => Zmh s[j] c hc w);have HG := zh (fun w => Zjz s[j] c hc w);have HJ := zh (fun h => Zmj (s := s) hlt h);have HD2 := zh (fun (h : (Zbs s[j] || Zb1 s[j]) = true) => show ∀ k (h : k < s.size), k < j + 1 → (Zbs s[k] || Zb1 s[k]) = true from fun k hk h1 => by
    rcases Nat.lt_or_ge k j with h2 | h2
    ·exact HD.o k hk h2
    ·obtain rfl : k = j := by omega
     exact h)
   go_wp2_with fail;refine (HL.o _).mono ?_;rintro e w' ⟨rfl, hw⟩;obtain rfl := hw.symm
   by_cases hl : Zbs s[j] = true
   ·rw [hl];have HD3 := zh (HD2.o (by rw [hl]; rfl));clear HD2 HJ HG HL hl;go_wp2_with fail
    go_roundw
    case rel => exact ⟨j + 1, by go_num, by omega, HD3, trivial⟩
    case measure => simp [intOf]; omega
   ·have hl2 : Zbs s[j] = false := by simpa using hl
    rw [hl2];have HL2 := zh hl2;clear hl hl2 HL;go_wp2_with fail;refine (HG.o _).mono ?_;rintro e w' ⟨rfl, hw⟩;obtain rfl := hw.symm
    by_cases hg : Zb1 s[j] = true
    ·rw [hg];have HD3 := zh (HD2.o (by rw [hg]; simp));clear HD2 HJ HG hg HL2;go_wp2_with fail
     go_roundw
     case rel => exact ⟨j + 1, by go_num, by omega, HD3, trivial⟩
     case measure => simp [intOf]; omega
    ·have hg2 : Zb1 s[j] = false := by simpa using hg
     have hR0 : R = false := by rw [← HR.o, HJ.o (by rw [HL2.o, hg2]; rfl)]
     rw [hg2];subst hR0;clear hg hg2 HG HJ HD2;go_wp2_with fail;go_ret;exact ⟨rfl, hb1⟩
  ·have t3 : decide ((j : Int) < s.size) = false := decide_eq_false (by omega);have hR0 : R = true := by rw [← HR.o, Znp (by omega) (by omega) (.inl ⟨hp, HF2.o⟩) HX2.o (fun k hk => HD.o k hk (by omega))]
   subst hR0;go_wp2_with fail;go_ret;exact ⟨rfl, hb1⟩
theorem Zgm (s : ByteArray) (w : World) (hs : s.size ≤ maxLen) : Calls Tryz.prog 98 #[.string s] w fun e w' => e = .returned (.bool (Zb5 s)) ∧ Below w.heap.size w w' := by
 unfold maxLen at hs;obtain ⟨R, hR⟩ : ∃ R, Zb5 s = R := ⟨_, rfl⟩;rw [hR];have HR := zh hR;clear hR;have HX := zh (Zhz s w)
 skip
 by_cases h1 : s.size < 1
 ·have hR0 : R = false := by rw [← HR.o, Zk0 h1]
  have t1 : decide ((s.size : Int) < 1) = true := decide_eq_true (by omega);subst hR0;go_enter Tryz.func98, Tryz.ntmps98;go_wp2_with fail;go_ret;exact ⟨rfl, Below.refl _ _⟩
 have t1 : decide ((s.size : Int) < 1) = false := decide_eq_false (by omega)
 by_cases h12 : 12 < s.size
 ·have hR0 : R = false := by rw [← HR.o, Zl4 h12]
  have t2 : decide ((12 : Int) < s.size) = true := decide_eq_true (by omega);subst hR0;go_enter Tryz.func98, Tryz.ntmps98;go_wp2_with fail;go_ret;exact ⟨rfl, Below.refl _ _⟩
 have t2 : decide ((12 : Int) < s.size) = false := decide_eq_false (by omega);have hp : 0 < s.size := by omega
 have hp' : (0 : Int) < s.size := by omega
 obtain ⟨c0, hc0⟩ : ∃ c : Int, (s[0].toNat : Int) = c := ⟨_, rfl⟩;have HF := zh (fun w => Zig s[0] c0 hc0 w);go_enter Tryz.func98, Tryz.ntmps98;go_wp2_with fail;refine (HF.o _).mono ?_;rintro e w' ⟨rfl, hw⟩;obtain rfl := hw.symm
 by_cases hf : Zbs s[0] = false
 ·have hR0 : R = false := by rw [← HR.o, Zpo hp hf]
  rw [hf];subst hR0;go_wp2_with fail;go_ret;exact ⟨rfl, Below.refl _ _⟩
 have hf2 : Zbs s[0] = true := by simpa using hf
 rw [hf2];have HF2 := zh hf2;clear hf hf2 HF;go_wp2_with fail;refine HX.o.mono ?_;rintro e w1 ⟨rfl, hb1⟩
 by_cases hx : Zih s = true
 ·have hR0 : R = false := by rw [← HR.o, Zno hx]
  rw [hx];subst hR0;go_wp2_with fail;go_ret;exact ⟨rfl, hb1⟩
 have hx2 : Zih s = false := by simpa using hx
 rw [hx2];have HX2 := zh hx2;clear hx hx2 HX;go_wp2_with fail
 go_loopw [3] (fun i wr => ∃ j : Nat, i = .int .i64 j ∧ j ≤ s.size ∧ Hd (∀ k (h : k < s.size), k < j → (Zbs s[k] || Zb1 s[k]) = true) ∧ wr = w1) (fun i _ => s.size - (intOf i).toNat)
 case atStart => exact ⟨0, rfl, Nat.zero_le _, zh (fun k _ h => by omega), rfl⟩
 case round =>
  obtain ⟨j, rfl, hj, HD, hw⟩ := hrel;obtain rfl : w1 = wr := hw.symm
  by_cases hlt : j < s.size
  ·have t3 : decide ((j : Int) < s.size) = true := decide_eq_true (by omega);obtain ⟨c, hc⟩ : ∃ c : Int, (s[j].toNat : Int) = c := ⟨_, rfl⟩;have HL := zh (fun w => Zig s[j] c hc w);have HG := zh (fun w => Znk s[j] c hc w);have HJ := zh (fun h => Zmj (s := s) hlt h);have HD2 := zh (fun (h : (Zbs s[j] || Zb1 s[j]) = true) => show ∀ k (h : k < s.size), k < j + 1 → (Zbs s[k] || Zb1 s[k]) = true from fun k hk h1 => by
    rcases Nat.lt_or_ge k j with h2 | h2
    ·exact HD.o k hk h2
    ·obtain rfl : k = j := by omega
     exact h)
   go_wp2_with fail;refine (HL.o _).mono ?_;rintro e w' ⟨rfl, hw⟩;obtain rfl := hw.symm
   by_cases hl : Zbs s[j] = true
   ·rw [hl];have HD3 := zh (HD2.o (by rw [hl]; rfl));clear HD2 HJ HG HL hl;go_wp2_with fail
    go_roundw
    case rel => exact ⟨j + 1, by go_num, by omega, HD3, trivial⟩
    case measure => simp [intOf]; omega
   ·have hl2 : Zbs s[j] = false := by simpa using hl
    rw [hl2];have HL2 := zh hl2;clear hl hl2 HL;go_wp2_with fail;refine (HG.o _).mono ?_;rintro e w' ⟨rfl, hw⟩;obtain rfl := hw.symm
    by_cases hg : Zb1 s[j] = true
    ·rw [hg];have HD3 := zh (HD2.o (by rw [hg]; simp));clear HD2 HJ HG hg HL2;go_wp2_with fail
     go_roundw
     case rel => exact ⟨j + 1, by go_num, by omega, HD3, trivial⟩
     case measure => simp [intOf]; omega
    ·have hg2 : Zb1 s[j] = false := by simpa using hg
     have hR0 : R = false := by rw [← HR.o, HJ.o (by rw [HL2.o, hg2]; rfl)]
     rw [hg2];subst hR0;clear hg hg2 HG HJ HD2;go_wp2_with fail;go_ret;exact ⟨rfl, hb1⟩
  ·have t3 : decide ((j : Int) < s.size) = false := decide_eq_false (by omega);have hR0 : R = true := by rw [← HR.o, Znp (by omega) (by omega) (.inr ⟨hp, HF2.o⟩) HX2.o (fun k hk => HD.o k hk (by omega))]
   subst hR0;go_wp2_with fail;go_ret;exact ⟨rfl, hb1⟩
end Go.Proofs.YtpmhelkiicigfaaGreatDoor
namespace Go.Proofs.YtpmhelkiicigfaaGreatDoor
open Go.RowKit
section
variable {P : Program} {ops : Array Oper} {Q : Exit → Act → World → Prop} {md : Region.Mode} {tl pu : Nat → Bool} {S S' : World → Prop}
/-- Whatever order is picked from here on; behind every operation that is not among the last ones S holds; a pure one leaves the world. -/
def Zc7 (P : Program) (md : Region.Mode) (ops : Array Oper) (Q : Exit → Act → World → Prop) (tl pu : Nat → Bool) (S : World → Prop) : Nat → Array Bool → Act → World → Prop
 | 0, listed, a, w => Region.ready md ops listed = [] ∧ Q .normal a w
 | fuel + 1, listed, a, w =>
  (Region.ready md ops listed = [] → Q .normal a w) ∧
  ∀ i ∈ Region.ready md ops listed, wpOp P ops Q i (fun a' w' => ((tl i = false → S w') ∧ (pu i = true → w' = w)) ∧ Zc7 P md ops Q tl pu S fuel (listed.setIfInBounds i true) a' w') a w
theorem Zf1 : ∀ (fuel : Nat) (listed : Array Bool) (a : Act) (w : World), Zc7 P md ops Q tl pu S fuel listed a w → wpAny P md ops Q fuel listed a w
 | 0, _, _, _, h => h
 | fuel + 1, _, _, _, h => ⟨h.1, fun i hi => wpOp_mono (fun a' w' h' => Zf1 fuel _ a' w' h'.2) (h.2 i hi)⟩
theorem Zj0 (hs : ∀ w, S' w → S w) : ∀ (fuel : Nat) (listed : Array Bool) (a : Act) (w : World), Zc7 P md ops Q tl pu S' fuel listed a w → Zc7 P md ops Q tl pu S fuel listed a w
 | 0, _, _, _, h => h
 | fuel + 1, _, _, _, h => ⟨h.1, fun i hi => wpOp_mono (fun a' w' h' => ⟨⟨fun ht => hs _ (h'.1.1 ht), h'.1.2⟩, Zj0 hs fuel _ a' w' h'.2⟩) (h.2 i hi)⟩
theorem Zij {i : Nat} {oi : Oper} {v : Value} (hi : ops[i]? = some oi) (hsel : ∀ (j : Nat) (o : Oper) cs b, ops[j]? = some o → o.op ≠ .select cs b)
  (hQ : ∀ c a w, Q (.panic c) (a.put oi.dst v) w → Q (.panic c) a w) (htl : ∀ j, j < ops.size → tl j = true → pu j = true ∨ Zic md ops ops.size j i = true) :
  ∀ (fuel : Nat) (listed : Array Bool) (a : Act) (w : World),
   (∀ j oj, ops[j]? = some oj → j ≠ i → listed.getD j true = false → (∀ e ∈ oj.after, Region.binds md e = true → e.on ≠ i) → oi.apart ops oj = true) → Zi9 md ops listed →
   i ∈ Region.ready md ops listed → YieldsIf P ops S oi v a → S w →
   Zc7 P md ops Q tl pu S fuel (listed.setIfInBounds i true) (a.put oi.dst v) w → Zc7 P md ops Q tl pu S (fuel + 1) listed a w := by
 intro fuel
 induction fuel with
 | zero =>
  intro listed a w _ _ hr hy hS H;refine ⟨fun h => (by rw [h] at hr; cases hr), fun j hj => ?_⟩
  by_cases hji : j = i
  ·subst hji; exact hy.wpOp hi hS ⟨⟨fun _ => hS, fun _ => rfl⟩, H⟩
  ·have := ready_mono hj hji;rw [H.1] at this
   cases this
 | succ fuel ih =>
  intro listed a w hfree hcl hr hy hS H;refine ⟨fun h => (by rw [h] at hr; cases hr), fun j hj => ?_⟩
  by_cases hji : j = i
  ·subst hji; exact hy.wpOp hi hS ⟨⟨fun _ => hS, fun _ => rfl⟩, H⟩
  ·have h1 := H.2 j (ready_mono hj hji);obtain ⟨hjun, oj, hoj, hall⟩ := mem_ready.1 hj;have hiun : listed.getD i false = true → False := fun h1 => by
    have h0 := (mem_ready.1 hr).1
    rcases Nat.lt_or_ge i listed.size with h' | h'
    ·simp [h'] at h0 h1; rw [h0] at h1; cases h1
    ·simp [Array.getElem?_eq_none h'] at h1
   have hnot : ∀ e ∈ oj.after, Region.binds md e = true → e.on ≠ i := fun e he hb heq => hiun (by rw [← heq]; exact hall e he hb);have hSj : ∀ w', ((tl j = false → S w') ∧ (pu j = true → w' = w)) → S w' := fun w' hw' => by
    cases ht : tl j with
    | false => exact hw'.1 ht
    | true =>
     rcases htl j (Array.getElem?_eq_some_iff.1 hoj).1 ht with h | h
     ·rw [hw'.2 h]; exact hS
     ·exact (hiun (Zen hcl _ j i oj hoj hall h)).elim
   have h2 := wpOp_putIf hoj (hfree j oj hoj hji hjun hnot) (fun cs b => hsel i oi cs b hi) (fun cs b => hsel j oj cs b hoj) hQ hy h1;have hfree' : ∀ k ok, ops[k]? = some ok → k ≠ i → (listed.setIfInBounds j true).getD k true = false →
     (∀ e ∈ ok.after, Region.binds md e = true → e.on ≠ i) → oi.apart ops ok = true := fun k ok hk hki hun hno => by
    refine hfree k ok hk hki ?_ hno
    by_cases hjk : j = k
    ·subst hjk; exact hjun
    ·rw [getD_set_ne true hjk] at hun; exact hun
   refine wpOp_mono (fun a' w' h3 => ⟨h3.2.1, ih (listed.setIfInBounds j true) a' w' hfree' (Zhx hcl hj) (ready_mono hr (Ne.symm hji)) h3.1 (hSj w' h3.2.1) ?_⟩) h2;rw [Array.setIfInBounds_comm _ _ hji];exact h3.2.2
theorem Zj1 {i : Nat} {oi : Oper} {v : Value} (hi : ops[i]? = some oi) (hsel : ∀ (j : Nat) (o : Oper) cs b, ops[j]? = some o → o.op ≠ .select cs b)
  (hQ : ∀ c a w, Q (.panic c) (a.put oi.dst v) w → Q (.panic c) a w) (hti : tl i = true) :
  ∀ (fuel : Nat) (listed : Array Bool) (a : Act) (w : World),
   (∀ j oj, ops[j]? = some oj → j ≠ i → listed.getD j true = false → (∀ e ∈ oj.after, Region.binds md e = true → e.on ≠ i) → oi.apart ops oj = true) →
   i ∈ Region.ready md ops listed → YieldsIf P ops (fun _ => True) oi v a →
   Zc7 P md ops Q tl pu S fuel (listed.setIfInBounds i true) (a.put oi.dst v) w → Zc7 P md ops Q tl pu S (fuel + 1) listed a w := by
 intro fuel
 induction fuel with
 | zero =>
  intro listed a w _ hr hy H;refine ⟨fun h => (by rw [h] at hr; cases hr), fun j hj => ?_⟩
  by_cases hji : j = i
  ·subst hji; exact hy.wpOp hi trivial ⟨⟨fun h => (by rw [hti] at h; cases h), fun _ => rfl⟩, H⟩
  ·have := ready_mono hj hji;rw [H.1] at this
   cases this
 | succ fuel ih =>
  intro listed a w hfree hr hy H;refine ⟨fun h => (by rw [h] at hr; cases hr), fun j hj => ?_⟩
  by_cases hji : j = i
  ·subst hji; exact hy.wpOp hi trivial ⟨⟨fun h => (by rw [hti] at h; cases h), fun _ => rfl⟩, H⟩
  ·have h1 := H.2 j (ready_mono hj hji);obtain ⟨hjun, oj, hoj, hall⟩ := mem_ready.1 hj;have hiun : listed.getD i false = true → False := fun h1 => by
    have h0 := (mem_ready.1 hr).1
    rcases Nat.lt_or_ge i listed.size with h' | h'
    ·simp [h'] at h0 h1; rw [h0] at h1; cases h1
    ·simp [Array.getElem?_eq_none h'] at h1
   have hnot : ∀ e ∈ oj.after, Region.binds md e = true → e.on ≠ i := fun e he hb heq => hiun (by rw [← heq]; exact hall e he hb);have h2 := wpOp_putIf hoj (hfree j oj hoj hji hjun hnot) (fun cs b => hsel i oi cs b hi) (fun cs b => hsel j oj cs b hoj) hQ hy h1;have hfree' : ∀ k ok, ops[k]? = some ok → k ≠ i → (listed.setIfInBounds j true).getD k true = false →
     (∀ e ∈ ok.after, Region.binds md e = true → e.on ≠ i) → oi.apart ops ok = true := fun k ok hk hki hun hno => by
    refine hfree k ok hk hki ?_ hno
    by_cases hjk : j = k
    ·subst hjk; exact hjun
    ·rw [getD_set_ne true hjk] at hun; exact hun
   refine wpOp_mono (fun a' w' h3 => ⟨h3.2.1, ih (listed.setIfInBounds j true) a' w' hfree' (ready_mono hr (Ne.symm hji)) h3.1 ?_⟩) h2;rw [Array.setIfInBounds_comm _ _ hji];exact h3.2.2
/-- Which operations are among the last ones (or pure), and which are pure. -/
def Zjd (L U : List Nat) (j : Nat) : Bool := L.contains j || U.contains j
def Zkb (U : List Nat) (j : Nat) : Bool := U.contains j
def Zwl (md : Region.Mode) (ops : Array Oper) (L : List Nat) (i : Nat) : Bool := L.all fun j => Zic md ops ops.size j i
def Zl5 (ops : Array Oper) (L : List Nat) (listed : Array Bool) (i : Nat) : Bool :=
 Region.noSelect ops && Region.free .any ops listed i && (Region.ready .any ops listed).contains i && Zqo .any ops listed && Zwl .any ops L i
def Zvn (ops : Array Oper) (U : List Nat) (listed : Array Bool) (i : Nat) : Bool :=
 Region.noSelect ops && Region.free .any ops listed i && (Region.ready .any ops listed).contains i && U.contains i
/-- The state of the walk: from world w on; L: the last operations; U: the pure ones. -/
def wpU (P : Program) (ops : Array Oper) (Q : Exit → Act → World → Prop) (L U : List Nat) (fuel : Nat) (listed : Array Bool) (a : Act) (w : World) : Prop :=
 Zc7 P .any ops Q (Zjd L U) (Zkb U) (Za w) fuel listed a w
theorem Zax (L U : List Nat) {id : Nat} {a : Act} {w : World} (hm : P.follows .mixedOrders = true)
  (h : ∀ w1, w1 = w.drew → wpU P ops Q L U ops.size (Array.replicate ops.size false) a w1) : (Code.region id ops true).wp P Q a w :=
 wp_region_any hm (Zf1 _ _ _ _ (h w.drew rfl))
/-- Operation i is taken first: it reads only what lies in w already. -/
theorem Zdn (i : Nat) (d : Option Tmp) {L U : List Nat} {oi : Oper} {v : Value} {fuel : Nat} {listed : Array Bool} {a : Act} {w : World} (hi : ops[i]? = some oi) (hd : oi.dst = d)
  (hB : Zl5 ops L listed i = true)
  (hQ : ∀ c a w, Q (.panic c) (a.put d v) w → Q (.panic c) a w)
  (hw : Region.wanted oi (yielded ops a.tmps) = true) (hy : ∀ x, Za w x → (execOp a.eval oi).run P x = .ok (.value v) x)
  (h : wpU P ops Q L U fuel (listed.setIfInBounds i true) (a.put d v) w) : wpU P ops Q L U (fuel + 1) listed a w := by
 subst hd;simp only [Zl5, Bool.and_eq_true] at hB;obtain ⟨⟨⟨⟨hs, hf⟩, hr⟩, hc⟩, ht⟩ := hB;refine Zij hi (Region.noSelect_spec hs) hQ (fun j _ htj => ?_) fuel listed a w (Region.free_spec hi hf) (Zl0 hc) (by simpa using hr) (.inl ⟨hw, hy⟩) (Za.refl w) h;simp only [Zjd, Bool.or_eq_true] at htj
 rcases htj with h1 | h1
 ·exact .inr (List.all_eq_true.1 ht j (by simpa using h1))
 ·exact .inl h1
/-- Operation i is taken first: it reads no memory. -/
theorem Znq (i : Nat) (d : Option Tmp) {L U : List Nat} {oi : Oper} {v : Value} {fuel : Nat} {listed : Array Bool} {a : Act} {w : World} (hi : ops[i]? = some oi) (hd : oi.dst = d)
  (hB : Zvn ops U listed i = true)
  (hQ : ∀ c a w, Q (.panic c) (a.put d v) w → Q (.panic c) a w)
  (hw : Region.wanted oi (yielded ops a.tmps) = true) (hy : ∀ x, (execOp a.eval oi).run P x = .ok (.value v) x)
  (h : wpU P ops Q L U fuel (listed.setIfInBounds i true) (a.put d v) w) : wpU P ops Q L U (fuel + 1) listed a w := by
 subst hd;simp only [Zvn, Bool.and_eq_true] at hB;obtain ⟨⟨⟨hs, hf⟩, hr⟩, hu⟩ := hB;exact Zj1 hi (Region.noSelect_spec hs) hQ (by simp only [Zjd, Bool.or_eq_true]; exact .inr hu) fuel listed a w (Region.free_spec hi hf) (by simpa using hr) (.inl ⟨hw, fun x _ => hy x⟩) h
/-- Operation i comes up alone: it makes memory, and leaves what lies in w as it is. -/
theorem Ze3 (i : Nat) {L U : List Nat} {o : Oper} {fuel : Nat} {listed : Array Bool} {a : Act} {w : World} (hr : Region.ready .any ops listed = [i]) (hu : U.contains i = false) (ho : ops[i]? = some o)
  (h : wpList P ops (Zne Q w (fun a' w' => wpU P ops Q L U fuel (listed.setIfInBounds i true) a' w')) [o] a w) : wpU P ops Q L U (fuel + 1) listed a w := by
 refine ⟨fun h0 => (by rw [hr] at h0; cases h0), fun j hj => ?_⟩;rw [hr] at hj;obtain rfl : j = i := by simpa using hj
 unfold wpList at h;unfold wpOp;rw [ho];have hK : ∀ a' w', wpList P ops (Zne Q w (fun a' w' => wpU P ops Q L U fuel (listed.setIfInBounds j true) a' w')) [] a' w' →
   (((Zjd L U j = false → Za w w') ∧ (Zkb U j = true → w' = w)) ∧ Zc7 P .any ops Q (Zjd L U) (Zkb U) (Za w) fuel (listed.setIfInBounds j true) a' w') := fun a' w' h' =>
  ⟨⟨fun _ => h'.1, fun h0 => (by unfold Zkb at h0; rw [hu] at h0; cases h0)⟩, Zj0 (fun x hx => h'.1.trans hx) _ _ _ _ h'.2⟩
 have hup : o.wp P a w (wpList P ops (Zne Q w (fun a' w' => wpU P ops Q L U fuel (listed.setIfInBounds j true) a' w')) []) (Zne Q w (fun a' w' => wpU P ops Q L U fuel (listed.setIfInBounds j true) a' w')) →
   o.wp P a w (wpList P ops (Zne Q w (fun a' w' => wpU P ops Q L U fuel (listed.setIfInBounds j true) a' w')) []) Q := fun h' => by
  unfold Oper.wp at *
  generalize (execOp a.eval o).run P w = r at *
  cases r with
  | ok n w' => cases n <;> exact h'
  | halt x w' => cases x <;> exact h'
 show if Region.wanted o (yielded ops a.tmps) = true then _ else _
 split
 ·rename_i hw;rw [if_pos hw] at h
  rcases h with h | ⟨h1, h2⟩
  ·exact .inl (Oper.wp_mono hK (hup h))
  ·exact .inr ⟨h1, h2⟩
 ·rename_i hw;rw [if_neg hw] at h;exact hK _ _ h
theorem Zje {U : List Nat} {S : World → Prop} (L0 : List Nat) : ∀ (L : List Nat) (os : List Oper) (listed : Array Bool) (a : Act) (w : World), Zeo ops L listed = true → (∀ i ∈ L, L0.contains i = true ∧ U.contains i = false) → L.map (ops[·]?) = os.map some →
  wpList P ops Q os a w → Zc7 P .any ops Q (Zjd L0 U) (Zkb U) S L.length listed a w
 | [], os, listed, a, w, hch, _, hos, h => by
  have : os = [] := by cases os with
   | nil => rfl
   | cons => simp at hos
  subst this;exact ⟨by simpa [Zeo] using hch, h⟩
 | i :: L, os, listed, a, w, hch, htl, hos, h => by
  obtain ⟨o, os', rfl⟩ : ∃ o os', os = o :: os' := by cases os with
   | nil => simp at hos
   | cons o os' => exact ⟨o, os', rfl⟩
  simp only [List.map_cons, List.cons.injEq] at hos;simp only [Zeo, Bool.and_eq_true, beq_iff_eq] at hch;obtain ⟨hr, hch'⟩ := hch;refine ⟨fun h0 => (by rw [hr] at h0; cases h0), fun j hj => ?_⟩;rw [hr] at hj;obtain rfl : j = i := by simpa using hj
  have hj2 := htl j (by simp);have hK : ∀ a' w', wpList P ops Q os' a' w' → (((Zjd L0 U j = false → S w') ∧ (Zkb U j = true → w' = w)) ∧ Zc7 P .any ops Q (Zjd L0 U) (Zkb U) S L.length (listed.setIfInBounds j true) a' w') := fun a' w' h' =>
   ⟨⟨fun ht => (by unfold Zjd at ht; rw [hj2.1] at ht; cases ht), fun ht => (by unfold Zkb at ht; rw [hj2.2] at ht; cases ht)⟩, Zje L0 L os' _ a' w' hch' (fun k hk => htl k (by simp [hk])) hos.2 h'⟩
  unfold wpList at h;unfold wpOp;rw [hos.1];show if Region.wanted o (yielded ops a.tmps) = true then _ else _
  split
  ·rename_i hw;rw [if_pos hw] at h;exact h.imp (Oper.wp_mono hK) id
  ·rename_i hw;rw [if_neg hw] at h;exact hK _ _ h
/-- All that is asked where only the last operations L are left. -/
def Zqt (ops : Array Oper) (L U : List Nat) (listed : Array Bool) : Bool := Zeo ops L listed && L.all fun i => !U.contains i
theorem Za7 {L U : List Nat} (os : List Oper) {n : Nat} {listed : Array Bool} {a : Act} {w : World} (hB : Zqt ops L U listed = true) (hn : L.length = n) (hos : L.map (ops[·]?) = os.map some)
  (h : wpList P ops Q os a w) : wpU P ops Q L U n listed a w := by
 subst hn;simp only [Zqt, Bool.and_eq_true] at hB;exact Zje L L os listed a w hB.1 (fun i hi => ⟨by simpa using hi, by simpa using List.all_eq_true.1 hB.2 i hi⟩) hos h
end
/-- Zdn, what is always told alike left to Lean. -/
theorem tU {P : Program} {ops : Array Oper} {Q : Exit → Act → World → Prop} (i d : Nat) {L U : List Nat} {oi : Oper} {v : Value} {fuel : Nat} {listed : Array Bool} {a : Act} {w : World} (hi : ops[i]? = some oi) (hd : oi.dst = some d) (hy : ∀ x, Za w x → (execOp a.eval oi).run P x = .ok (.value v) x)
  (h : wpU P ops Q L U fuel (listed.setIfInBounds i true) (a.put (some d) v) w) (hB : Zl5 ops L listed i = true := by kernel_rfl) (hQ : ∀ c a w, Q (.panic c) (a.put (some d) v) w → Q (.panic c) a w := by exact fun _ _ _ h => h) (hw : Region.wanted oi (yielded ops a.tmps) = true := by rfl) : wpU P ops Q L U (fuel + 1) listed a w := Zdn i (some d) hi hd hB hQ hw hy h
/-- A drawn region that only reads, walked once in the order of the text, in the one world behind the draw (the kit's wp_region_quiet at the class of that world alone). -/
theorem Z4 {P : Program} {id : Nat} {Q : Exit → Act → World → Prop} {a : Act} {w : World} {l : List Oper} 
  (h : ∀ W, W = w.drew → wpQuiet P l.toArray (fun x => x = W) (fun a' => Q .normal a' W) l a) (hm : P.follows .mixedOrders = true := by kernel_rfl) (hB : Region.lexB .any l.toArray = true := by kernel_rfl) : (Code.region id l.toArray true).wp P Q a w :=
 wp_region_quiet (C := fun x => x = w.drew) hm hB rfl (by simpa using h w.drew rfl)
end Go.Proofs.YtpmhelkiicigfaaGreatDoor
namespace Go.Proofs.YtpmhelkiicigfaaGreatDoor
open Go.RowKit
theorem Zl6 {l : List ByteArray} (h : ∀ k (hk : k < l.length), Zb5 l[k] = true) : l.all Zb5 = true := by
 rw [List.all_eq_true];intro x hx;obtain ⟨k, hk, rfl⟩ := List.getElem_of_mem hx;exact h k hk
theorem Znr {l : List ByteArray} {j : Nat} (hj : j < l.length) (h : Zb5 l[j] = false) : l.all Zb5 = false := by
 rw [List.all_eq_false];exact ⟨_, List.getElem_mem hj, by rw [h]; decide⟩
/-- Whether a text stands there twice. -/
def twB (l : List ByteArray) : Bool := (List.range l.length).any fun j => Zd4 (l.take j) (l.getD j ⟨#[]⟩)
theorem Zqu {l : List ByteArray} {j : Nat} (hj : j < l.length) (d : ByteArray) : l.getD j d = l[j] := by
 rw [List.getD_eq_getElem?_getD, List.getElem?_eq_getElem hj]; rfl
theorem Zqv {l : List ByteArray} {j : Nat} (hj : j < l.length) (h : Zd4 (l.take j) l[j] = true) : twB l = true := by
 unfold twB;rw [List.any_eq_true];exact ⟨j, List.mem_range.2 hj, by rw [Zqu hj]; exact h⟩
theorem Zs4 {l : List ByteArray} (h : ∀ k (hk : k < l.length), Zd4 (l.take k) l[k] = false) : twB l = false := by
 unfold twB;rw [List.any_eq_false];intro j hj;rw [List.mem_range] at hj;rw [Zqu hj, h j hj]
 decide
theorem Zo.take {α : Type} {El : Zbt α} {size : Nat} {F : Nat → Prop} {w : World} {l : List α} {A : Option Addr} {n c j : Nat} (hj : j ≤ l.length) (h : Zo El size F w l (.slice A n c)) : Zo El size F w (l.take j) (.slice A j c) := by
 obtain ⟨A', c', e, h1, h2, h3⟩ := h;cases e;have hlen : (l.take j).length = j := by rw [List.length_take]; omega
 refine ⟨A, c, by rw [hlen], by omega, h2, fun i hi => ?_⟩;obtain ⟨b, o, cs, e, hF, hb, hel, hc⟩ := h3 i (by omega);exact ⟨b, o, cs, e, hF, hb, by rw [List.getElem_take]; exact hel, hc⟩
theorem Zik (l : List ByteArray) (v : Value) (F : Nat → Prop) (w : World) (hr : Zo Zbz 1 F w l v) (ht : Spc w) : Calls Tryz.prog 47 #[v] w fun e w' => e = .returned (.bool (l.all Zb5)) ∧ Below w.heap.size w w' := by
 obtain ⟨A, c, rfl, hc, hcm, hel⟩ := hr;unfold maxLen at hcm;have HEL := zh hel;obtain ⟨R, hR⟩ : ∃ R, (l.all Zb5) = R := ⟨_, rfl⟩;rw [hR];have HR := zh hR;have HT := zh ht;clear hR hel ht;go_enter Tryz.func47, Tryz.ntmps47;go_wp2_with fail
 go_loopw [7] (fun i wr => ∃ j : Nat, i = .int .i64 j ∧ j ≤ l.length ∧ Hd (∀ k (h : k < l.length), k < j → Zb5 l[k] = true) ∧ Below w.heap.size w wr) (fun i _ => l.length - (intOf i).toNat)
 case atStart => exact ⟨0, rfl, Nat.zero_le _, zh (fun k _ h => by omega), Below.refl _ _⟩
 case round =>
  obtain ⟨j, rfl, hj, HD, hbel⟩ := hrel;have hsz := hbel.size
  by_cases hlt : j < l.length
  ·obtain ⟨b, o, cs, rfl, hF, hbl, hE, hcell⟩ := HEL.o j hlt;obtain ⟨rfl, hsm⟩ := hE;have t1 : decide ((j : Int) < l.length) = true := decide_eq_true (by omega);have hlt' : (j : Int) < l.length := by omega
   have e0 := (hbel.cell (p := ⟨b, o + j * 1 + 0, none⟩) hbl).trans (hcell 0 _ rfl);simp only [Nat.mul_one, Nat.add_zero] at e0;obtain ⟨s, hs⟩ : ∃ s, l[j] = s := ⟨_, rfl⟩;rw [hs] at e0 hsm;have HN := zh (Zgl s wr hsm (HT.o.below hbel));have HD2 := zh (fun (h : Zb5 s = true) => show ∀ k (h : k < l.length), k < j + 1 → Zb5 l[k] = true from fun k hk h1 => by
    rcases Nat.lt_or_ge k j with h2 | h2
    ·exact HD.o k hk h2
    ·obtain rfl : k = j := by omega
     rw [hs]; exact h)
   have HNO := zh (fun (h : Zb5 s = false) => Znr hlt (by rw [hs]; exact h));clear hcell hsm hs;go_wp2_with fail;refine HN.o.mono ?_;rintro e w1 ⟨rfl, hb1⟩;have hbel1 := hbel.trans (Below.mono hb1 hsz);clear e0 hb1
   by_cases hn : Zb5 s = true
   ·have HD3 := zh (HD2.o hn);rw [hn];clear HD2 HNO HN hn;go_wp2_with fail
    go_roundw
    case rel => exact ⟨j + 1, by go_num, by omega, HD3, hbel1⟩
    case measure => simp [intOf]; omega
   ·have hn2 : Zb5 s = false := by simpa using hn
    have hR0 : R = false := by rw [← HR.o, HNO.o hn2]
    rw [hn2];subst hR0;clear hn hn2 HNO HD2 HN;go_wp2_with fail;go_ret;exact ⟨rfl, hbel1⟩
  ·have t1 : decide ((j : Int) < l.length) = false := decide_eq_false (by omega);have hR0 : R = true := by rw [← HR.o, Zl6 (fun k hk => HD.o k hk (by omega))]
   subst hR0;go_wp2_with fail;go_ret;exact ⟨rfl, hbel⟩
theorem Zhq (l : List ByteArray) (v : Value) (most : Int) (F : Nat → Prop) (w : World) (hr : Zo Zbz 1 F w l v) : Calls Tryz.prog 97 #[v, .int .i64 most] w fun e w' => e = .returned (.bool (l.all Zb5 && decide ((l.length : Int) ≤ most))) ∧ Below w.heap.size w w' := by
 obtain ⟨A, c, rfl, hc, hcm, hel⟩ := hr;unfold maxLen at hcm;have HEL := zh hel;obtain ⟨R, hR⟩ : ∃ R, (l.all Zb5 && decide ((l.length : Int) ≤ most)) = R := ⟨_, rfl⟩;rw [hR];have HR := zh hR
 skip
 clear hR hel;go_enter Tryz.func97, Tryz.ntmps97;go_wp2_with fail
 go_loopw [5] (fun i wr => ∃ j : Nat, i = .int .i64 j ∧ j ≤ l.length ∧ Hd (∀ k (h : k < l.length), k < j → Zb5 l[k] = true) ∧ Below w.heap.size w wr) (fun i _ => l.length - (intOf i).toNat)
 case atStart => exact ⟨0, rfl, Nat.zero_le _, zh (fun k _ h => by omega), Below.refl _ _⟩
 case round =>
  obtain ⟨j, rfl, hj, HD, hbel⟩ := hrel;have hsz := hbel.size
  by_cases hlt : j < l.length
  ·obtain ⟨b, o, cs, rfl, hF, hbl, hE, hcell⟩ := HEL.o j hlt;obtain ⟨rfl, hsm⟩ := hE;have t1 : decide ((j : Int) < l.length) = true := decide_eq_true (by omega);have hlt' : (j : Int) < l.length := by omega
   have e0 := (hbel.cell (p := ⟨b, o + j * 1 + 0, none⟩) hbl).trans (hcell 0 _ rfl);simp only [Nat.mul_one, Nat.add_zero] at e0;obtain ⟨s, hs⟩ : ∃ s, l[j] = s := ⟨_, rfl⟩;rw [hs] at e0 hsm;have HN := zh (Zgm s wr hsm);have HD2 := zh (fun (h : Zb5 s = true) => show ∀ k (h : k < l.length), k < j + 1 → Zb5 l[k] = true from fun k hk h1 => by
    rcases Nat.lt_or_ge k j with h2 | h2
    ·exact HD.o k hk h2
    ·obtain rfl : k = j := by omega
     rw [hs]; exact h)
   have HNO := zh (fun (h : Zb5 s = false) => Znr hlt (by rw [hs]; exact h));clear hcell hsm hs;go_wp2_with fail;refine HN.o.mono ?_;rintro e w1 ⟨rfl, hb1⟩;have hbel1 := hbel.trans (Below.mono hb1 hsz);clear e0 hb1
   by_cases hn : Zb5 s = true
   ·have HD3 := zh (HD2.o hn);rw [hn];clear HD2 HNO HN hn;go_wp2_with fail
    go_roundw
    case rel => exact ⟨j + 1, by go_num, by omega, HD3, hbel1⟩
    case measure => simp [intOf]; omega
   ·have hn2 : Zb5 s = false := by simpa using hn
    have hR0 : R = false := by rw [← HR.o, HNO.o hn2]; rfl
    rw [hn2];subst hR0;clear hn hn2 HNO HD2 HN;go_wp2_with fail;go_ret;exact ⟨rfl, hbel1⟩
  ·have t1 : decide ((j : Int) < l.length) = false := decide_eq_false (by omega);have hR0 : R = decide ((l.length : Int) ≤ most) := by rw [← HR.o, Zl6 (fun k hk => HD.o k hk (by omega)), Bool.true_and]
   subst hR0;go_wp2_with fail;go_ret;exact ⟨rfl, hbel⟩
theorem Zns (l : List ByteArray) (v : Value) (F : Nat → Prop) (w : World) (hr : Zo Zbz 1 F w l v) : Calls Tryz.prog 99 #[v] w fun e w' => e = .returned (.bool (twB l)) ∧ w' = w := by
 have HROW := zh hr;obtain ⟨A, c, rfl, hc, hcm, hel⟩ := hr;unfold maxLen at hcm;have HEL := zh hel;obtain ⟨R, hR⟩ : ∃ R, twB l = R := ⟨_, rfl⟩;rw [hR];have HR := zh hR;clear hR hel;go_enter Tryz.func99, Tryz.ntmps99;go_wp2_with fail
 go_loopw [3] (fun i wr => ∃ j : Nat, i = .int .i64 j ∧ j ≤ l.length ∧ Hd (∀ k (h : k < l.length), k < j → Zd4 (l.take k) l[k] = false) ∧ wr = w) (fun i _ => l.length - (intOf i).toNat)
 case atStart => exact ⟨0, rfl, Nat.zero_le _, zh (fun k _ h => by omega), rfl⟩
 case round =>
  obtain ⟨j, rfl, hj, HD, hw⟩ := hrel;obtain rfl : w = wr := hw.symm
  by_cases hlt : j < l.length
  ·obtain ⟨b, o, cs, rfl, hF, hbl, hE, hcell⟩ := HEL.o j hlt;obtain ⟨rfl, hsm⟩ := hE;have t1 : decide ((j : Int) < l.length) = true := decide_eq_true (by omega);have hlt' : (j : Int) < l.length := by omega
   have e0 := hcell 0 _ rfl;simp only [Nat.mul_one, Nat.add_zero] at e0;have hff := Zs2 hlt;have HYES := zh (fun h => Zqv hlt h);have HD2 := zh (fun (h : Zd4 (l.take j) l[j] = false) => show ∀ k (h : k < l.length), k < j + 1 → Zd4 (l.take k) l[k] = false from fun k hk h1 => by
    rcases Nat.lt_or_ge k j with h2 | h2
    ·exact HD.o k hk h2
    ·obtain rfl : k = j := by omega
     exact h)
   obtain ⟨s, hs⟩ : ∃ s, l[j] = s := ⟨_, rfl⟩;rw [hs] at e0 hff HYES HD2;have HN := zh (Zpm l _ s F w HROW.o);obtain ⟨z, hz⟩ : ∃ z, Zfm l s = z := ⟨_, rfl⟩;rw [hz] at HN hff;clear hcell hsm hs hz;go_wp2_with fail;refine HN.o.mono ?_;rintro e w1 ⟨rfl, hw1⟩;obtain rfl := hw1.symm;clear e0
   by_cases hn : Zd4 (l.take j) s = true
   ·have hR0 : R = true := by rw [← HR.o, HYES.o hn]
    rw [hn] at hff;subst hR0;clear hn HYES HD2 HN;go_wp2_with fail;go_ret;exact ⟨rfl, rfl⟩
   ·have hn2 : Zd4 (l.take j) s = false := by simpa using hn
    have HD3 := zh (HD2.o hn2);rw [hn2] at hff;clear hn hn2 HYES HD2 HN;go_wp2_with fail
    go_roundw
    case rel => exact ⟨j + 1, by go_num, by omega, HD3, trivial⟩
    case measure => simp [intOf]; omega
  ·have t1 : decide ((j : Int) < l.length) = false := decide_eq_false (by omega);have hR0 : R = false := by rw [← HR.o, Zs4 (fun k hk => HD.o k hk (by omega))]
   subst hR0;go_wp2_with fail;go_ret;exact ⟨rfl, rfl⟩
theorem Zmk (l : List ByteArray) (v : Value) (F : Nat → Prop) (w : World) (hr : Zo Zbz 1 F w l v) : Calls Tryz.prog 105 #[v] w fun e w' => e = .returned (.bool (twB l)) ∧ Below w.heap.size w w' := by
 have HROW := zh hr;obtain ⟨A, c, rfl, hc, hcm, hel⟩ := hr;unfold maxLen at hcm;have HEL := zh hel;obtain ⟨R, hR⟩ : ∃ R, twB l = R := ⟨_, rfl⟩;rw [hR];have HR := zh hR;clear hR hel;go_enter Tryz.func105, Tryz.ntmps105;go_wp2_with fail
 go_loopw [6] (fun i wr => ∃ j : Nat, i = .int .i64 j ∧ j ≤ l.length ∧ Hd (∀ k (h : k < l.length), k < j → Zd4 (l.take k) l[k] = false) ∧ Below w.heap.size w wr) (fun i _ => l.length - (intOf i).toNat)
 case atStart => exact ⟨0, rfl, Nat.zero_le _, zh (fun k _ h => by omega), Below.refl _ _⟩
 case round =>
  obtain ⟨j, rfl, hj, HD, hbel⟩ := hrel;have hsz := hbel.size
  by_cases hlt : j < l.length
  ·obtain ⟨b, o, cs, rfl, hF, hbl, hE, hcell⟩ := HEL.o j hlt;obtain ⟨rfl, hsm⟩ := hE;have t1 : decide ((j : Int) < l.length) = true := decide_eq_true (by omega);have hlt' : (j : Int) < l.length := by omega
   have e0 := (hbel.cell (p := ⟨b, o + j * 1 + 0, none⟩) hbl).trans (hcell 0 _ rfl);simp only [Nat.mul_one, Nat.add_zero] at e0;have HYES := zh (fun h => Zqv hlt h);have HD2 := zh (fun (h : Zd4 (l.take j) l[j] = false) => show ∀ k (h : k < l.length), k < j + 1 → Zd4 (l.take k) l[k] = false from fun k hk h1 => by
    rcases Nat.lt_or_ge k j with h2 | h2
    ·exact HD.o k hk h2
    ·obtain rfl : k = j := by omega
     exact h)
   obtain ⟨s, hs⟩ : ∃ s, l[j] = s := ⟨_, rfl⟩;rw [hs] at e0 HYES HD2;have hbr : b < wr.heap.size := Nat.lt_of_lt_of_le hbl hsz;have hjc : j ≤ c := by omega
   have hjc' : (j : Int) ≤ c := by omega
   have HTK := zh (Zo.take hj (HROW.o.later Zad hbel));clear hcell hsm hs;go_upto_region 4 with (fail);refine Zax [7] [] (by kernel_rfl) (fun W hW => ?_);have hWL : Za wr W := by rw [hW]; exact (Za.refl _).drew
   have eW := (hWL.cell ⟨b, o + j, none⟩ hbr).trans e0;have hbW : b < W.heap.size := Nat.lt_of_lt_of_le hbr hWL.size;clear hW;refine Zdn 0 (some 9) (v := ?_) rfl rfl (by kernel_rfl) (fun _ _ _ h => h) rfl (fun x hx => ?_) ?_;rotate_left
   ·go_simp;first|done|with_reducible rfl|rw[if_neg (by omega)]|rw[if_pos (by omega)]
   simp only [Act.put, nA, nB, nC];refine Zdn 1 (some 10) (v := ?_) rfl rfl (by kernel_rfl) (fun _ _ _ h => h) rfl (fun x hx => ?_) ?_;rotate_left
   ·go_simp;first|done|with_reducible rfl|rw[if_neg (by omega)]|rw[if_pos (by omega)]
   simp only [Act.put, nA, nB, nC];refine Zdn 2 (some 11) (v := ?_) rfl rfl (by kernel_rfl) (fun _ _ _ h => h) rfl (fun x hx => ?_) ?_;rotate_left
   ·go_simp;first|done|with_reducible rfl|rw[if_neg (by omega)]|rw[if_pos (by omega)]
   simp only [Act.put, nA, nB, nC];refine Zdn 3 (some 12) (v := ?_) rfl rfl (by kernel_rfl) (fun _ _ _ h => h) rfl (fun x hx => ?_) ?_;rotate_left
   ·go_simp;first|done|with_reducible rfl|rw[if_neg (by omega)]|rw[if_pos (by omega)]
   simp only [Act.put, nA, nB, nC];refine Zdn 4 (some 13) (v := ?_) rfl rfl (by kernel_rfl) (fun _ _ _ h => h) rfl (fun x hx => ?_) ?_;rotate_left
   ·go_simp;first|done|with_reducible rfl|rw[if_neg (by omega)]|rw[if_pos (by omega)]
   simp only [Act.put, nA, nB, nC];refine Zdn 5 (some 14) (v := ?_) rfl rfl (by kernel_rfl) (fun _ _ _ h => h) rfl (fun x hx => ?_) ?_;rotate_left
   ·go_simp;first|done|with_reducible rfl|rw[if_neg (by omega)]|rw[if_pos (by omega)]
   simp only [Act.put, nA, nB, nC];refine Zdn 6 (some 15) (v := ?_) rfl rfl (by kernel_rfl) (fun _ _ _ h => h) rfl (fun x hx => ?_) ?_;rotate_left
   ·have hx0 := (hx.cell ⟨b, o + j, none⟩ hbW).trans eW; go_simp;first|done|with_reducible rfl|rw[if_neg (by omega)]|rw[if_pos (by omega)]
   simp only [Act.put, nA, nB, nC];refine Za7 [_] (by kernel_rfl) rfl rfl ?_;simp only [List.getElem_toArray, List.getElem_cons_succ, List.getElem_cons_zero];have HN := zh (Zif (l.take j) _ s F W (HTK.o.later Zad hWL));have hbel1 := hbel.trans (Below.mono hWL hsz);clear e0 eW hWL hbW hbr;go_wp2_with fail;refine HN.o.mono ?_;rintro e w1 ⟨rfl, hw1⟩;obtain rfl := hw1.symm
   by_cases hn : Zd4 (l.take j) s = true
   ·have hR0 : R = true := by rw [← HR.o, HYES.o hn]
    rw [hn];subst hR0;clear hn HYES HD2 HN;go_wp2_with fail;go_ret;exact ⟨rfl, hbel1⟩
   ·have hn2 : Zd4 (l.take j) s = false := by simpa using hn
    have HD3 := zh (HD2.o hn2);rw [hn2];clear hn hn2 HYES HD2 HN;go_wp2_with fail
    go_roundw
    case rel => exact ⟨j + 1, by go_num, by omega, HD3, hbel1⟩
    case measure => simp [intOf]; omega
  ·have t1 : decide ((j : Int) < l.length) = false := decide_eq_false (by omega);have hR0 : R = false := by rw [← HR.o, Zs4 (fun k hk => HD.o k hk (by omega))]
   subst hR0;go_wp2_with fail;go_ret;exact ⟨rfl, hbel⟩
def Ze4 (r : Za3) : Bool := Zb5 r.name && (decide (r.fields.length ≤ 6) && (r.fields.all Zb5 && (!twB r.fields && decide (0 ≤ r.line))))
theorem Zfh {α : Type} {p : α → Bool} {l : List α} (h : ∀ k (hk : k < l.length), p l[k] = true) : l.all p = true := by
 rw [List.all_eq_true];intro x hx;obtain ⟨k, hk, rfl⟩ := List.getElem_of_mem hx;exact h k hk
theorem Zed {α : Type} {p : α → Bool} {l : List α} {j : Nat} (hj : j < l.length) (h : p l[j] = false) : l.all p = false := by
 rw [List.all_eq_false];exact ⟨_, List.getElem_mem hj, by rw [h]; decide⟩
theorem Zda {α : Type} {p : α → Bool} {l : List α} {j : Nat} (h : ∀ k (hk : k < l.length), k < j → p l[k] = true) (hj : ∀ hk : j < l.length, p l[j] = true) : ∀ k (hk : k < l.length), k < j + 1 → p l[k] = true := fun k hk h1 => by
 rcases Nat.lt_or_ge k j with h2 | h2
 ·exact h k hk h2
 ·obtain rfl : k = j := by omega
  exact hj hk
theorem Zpp {n : Nat} : decide (n ≤ 6) = !decide ((6 : Int) < (n : Int)) := by
 by_cases h : n ≤ 6
 ·rw [decide_eq_true h, decide_eq_false (by omega)]; rfl
 ·rw [decide_eq_false h, decide_eq_true (by omega)]; rfl
theorem Znt {n : Int} : decide (0 ≤ n) = !decide (n < 0) := by
 by_cases h : 0 ≤ n
 ·rw [decide_eq_true h, decide_eq_false (by omega)]; rfl
 ·rw [decide_eq_false h, decide_eq_true (by omega)]; rfl
theorem Zil {x : World} {b : Nat} {v0 v1 v2 : Value} {t : TypeId} (h : x.heap[b]? = some (.cells #[v0, v1, v2] t (0, 0))) : x.cell? ⟨b, 0, none⟩ = some v0 ∧ x.cell? ⟨b, 1, none⟩ = some v1 ∧ x.cell? ⟨b, 2, none⟩ = some v2 :=
 ⟨cell_of_row x b 0 _ _ _ h, cell_of_row x b 1 _ _ _ h, cell_of_row x b 2 _ _ _ h⟩
theorem Zjf (l : List Za3) (v : Value) (F : Nat → Prop) (w : World) (hr : Zo Za1 3 F w l v) (ht : Spc w) : Calls Tryz.prog 48 #[v] w fun e w' => e = .returned (.bool (l.all Ze4 && decide (l.length ≤ 8))) ∧ Below w.heap.size w w' := by
 obtain ⟨A, c, rfl, hc, hcm, hel⟩ := hr;unfold maxLen at hcm;have HEL := zh hel;obtain ⟨R, hR⟩ : ∃ R, (l.all Ze4 && decide (l.length ≤ 8)) = R := ⟨_, rfl⟩;rw [hR];have HR := zh hR;have HT := zh ht;clear hR hel ht;go_enter Tryz.func48, Tryz.ntmps48;go_wp2_with fail
 go_loopw [7] (fun i wr => ∃ j : Nat, i = .int .i64 j ∧ j ≤ l.length ∧ Hd (∀ k (h : k < l.length), k < j → Ze4 l[k] = true) ∧ Below w.heap.size w wr) (fun i _ => l.length - (intOf i).toNat)
 case atStart => exact ⟨0, rfl, Nat.zero_le _, zh (fun k _ h => by omega), Below.refl _ _⟩
 case round =>
  obtain ⟨j, rfl, hj, HD, hbel⟩ := hrel;have hsz := hbel.size
  by_cases hlt : j < l.length
  ·obtain ⟨b, o, cs, rfl, hF, hbl, hE, hcell⟩ := HEL.o j hlt;have hE2 := Zah.keep (G := F) hE (fun _ h => h) (Ze.later hbel);obtain ⟨vf, rfl, hnm, hfl, hln⟩ := hE;obtain ⟨vf', e, hnm', hfl', hln'⟩ := hE2;simp only [List.cons.injEq, true_and, and_true] at e;subst e;obtain ⟨AF, cF, rfl, hfc, hfm, _⟩ := id hfl;unfold maxLen at hfm;have t1 : decide ((j : Int) < l.length) = true := decide_eq_true (by omega);have hlt' : (j : Int) < l.length := by omega
   have e0 := (hbel.cell (p := ⟨b, o + j * 3 + 0, none⟩) hbl).trans (hcell 0 _ rfl);have e1 := (hbel.cell (p := ⟨b, o + j * 3 + 1, none⟩) hbl).trans (hcell 1 _ rfl);have e2 := (hbel.cell (p := ⟨b, o + j * 3 + 2, none⟩) hbl).trans (hcell 2 _ rfl);simp only [Nat.add_zero] at e0;have HNO := zh (fun h => Zed (p := Ze4) hlt h);have HYES := zh (fun (h : Ze4 l[j] = true) => Zda HD.o (fun _ => h));have HREC := zh (show ∀ r, l[j] = r → Ze4 r = (Zb5 r.name && (decide (r.fields.length ≤ 6) && (r.fields.all Zb5 && (!twB r.fields && decide (0 ≤ r.line))))) from fun _ _ => rfl);obtain ⟨r, hrj⟩ : ∃ r, l[j] = r := ⟨_, rfl⟩;have hrec := HREC.o r hrj;rw [hrj] at e0 e1 e2 HNO HYES hnm hfl' hfc;clear hcell hnm' hfl hln hln' hrj HREC hfm;have hx := hbel.alloc hsz (.cells #[.string r.name, .slice AF r.fields.length cF, .int .i64 r.line] 136);have hD := heap_alloc_new wr (.cells #[.string r.name, .slice AF r.fields.length cF, .int .i64 r.line] 136);obtain ⟨x, hxw⟩ : ∃ x, x = wr.alloc (.cells #[.string r.name, .slice AF r.fields.length cF, .int .i64 r.line] 136) := ⟨_, rfl⟩;rw [← hxw] at hx hD;have HX := zh hx;have HDB := zh hD;have HFL := zh (hfl'.later Zad (show Za wr x by rw [hxw]; exact (Za.refl _).alloc _));have HN := zh (Zgl r.name x hnm (HT.o.below hx));obtain ⟨D, hDD⟩ : ∃ D, wr.heap.size = D := ⟨_, rfl⟩;rw [hDD] at HDB;obtain ⟨n0, hn0⟩ : ∃ q : Bool, Zb5 r.name = q := ⟨_, rfl⟩;obtain ⟨n1, hn1⟩ : ∃ q : Bool, decide ((6 : Int) < (r.fields.length : Int)) = q := ⟨_, rfl⟩
   obtain ⟨n2, hn2⟩ : ∃ q : Bool, r.fields.all Zb5 = q := ⟨_, rfl⟩;obtain ⟨n3, hn3⟩ : ∃ q : Bool, twB r.fields = q := ⟨_, rfl⟩;obtain ⟨n4, hn4⟩ : ∃ q : Bool, decide (r.line < 0) = q := ⟨_, rfl⟩;rw [hn0, hn2, hn3, show decide (r.fields.length ≤ 6) = !n1 by rw [← hn1]; exact Zpp, show decide (0 ≤ r.line) = !n4 by rw [← hn4]; exact Znt] at hrec;rw [hn0] at HN;have HREC := zh hrec;clear hx hD hnm hfl' hrec;go_upto_region 4 with (fail);rw [← hxw]
   try rw [hDD]
   clear e0 e1 e2 hxw hDD;obtain ⟨d0, d1, d2⟩ := Zil HDB.o;go_wp2_with fail;refine HN.o.mono ?_;rintro e x1 ⟨rfl, hb1⟩;have HX1 := zh (HX.o.trans (Below.mono hb1 HX.o.size));have HD1 := zC hb1 HDB;have HF1 := zh (HFL.o.later Zad hb1);clear hb1 d0 d1 d2;obtain ⟨d0, d1, d2⟩ := Zil HD1.o
   cases n0
   ·have hR0 : R = false := by rw [← HR.o, HNO.o (by rw [HREC.o]; rfl)]; rfl
    subst hR0;go_wp2_with fail;go_ret;exact ⟨rfl, HX1.o⟩
   cases n1
   rotate_left
   ·have hR0 : R = false := by rw [← HR.o, HNO.o (by rw [HREC.o]; rfl)]; rfl
    subst hR0;go_wp2_with fail;go_ret;exact ⟨rfl, HX1.o⟩
   have HA := zh (Zik r.fields _ F x1 HF1.o (HT.o.below HX1.o));rw [hn2] at HA;go_wp2_with fail;refine HA.o.mono ?_;rintro e x2 ⟨rfl, hb2⟩;have HX2 := zh (HX1.o.trans (Below.mono hb2 HX1.o.size));have HD2 := zC hb2 HD1;have HF2 := zh (HF1.o.later Zad hb2);clear hb2 d0 d1 d2 HA;obtain ⟨d0, d1, d2⟩ := Zil HD2.o
   cases n2
   ·have hR0 : R = false := by rw [← HR.o, HNO.o (by rw [HREC.o]; rfl)]; rfl
    subst hR0;go_wp2_with fail;go_ret;exact ⟨rfl, HX2.o⟩
   have HA := zh (Zmk r.fields _ F x2 HF2.o);rw [hn3] at HA;go_wp2_with fail;refine HA.o.mono ?_;rintro e x3 ⟨rfl, hb3⟩;have HX3 := zh (HX2.o.trans (Below.mono hb3 HX2.o.size));have HD3 := zC hb3 HD2;clear hb3 d0 d1 d2 HA;obtain ⟨d0, d1, d2⟩ := Zil HD3.o
   cases n3
   rotate_left
   ·have hR0 : R = false := by rw [← HR.o, HNO.o (by rw [HREC.o]; rfl)]; rfl
    subst hR0;go_wp2_with fail;go_ret;exact ⟨rfl, HX3.o⟩
   cases n4
   rotate_left
   ·have hR0 : R = false := by rw [← HR.o, HNO.o (by rw [HREC.o]; rfl)]; rfl
    subst hR0;go_wp2_with fail;go_ret;exact ⟨rfl, HX3.o⟩
   have HD4 := zh (HYES.o (by rw [HREC.o]; rfl));have hbel3 := HX3.o;go_wp2_with fail
   go_roundw
   case rel => exact ⟨j + 1, by go_num, by omega, HD4, hbel3⟩
   case measure => simp [intOf]; omega
  ·have t1 : decide ((j : Int) < l.length) = false := decide_eq_false (by omega);have hR0 : R = decide ((l.length : Int) ≤ 8) := by rw [← HR.o, Zfh (fun k hk => HD.o k hk (by omega)), Bool.true_and]; exact decide_eq_decide.2 (by omega)
   subst hR0;go_wp2_with fail;go_ret;exact ⟨rfl, hbel⟩
/-- Equal values. -/
def eqV (a b : Zd) : Bool := a.kind == b.kind && (a.aH == b.aH && (a.index == b.index && (a.text.toList == b.text.toList && (a.set_.low == b.set_.low && a.set_.high == b.set_.high))))
theorem Zhc {a b : Zd} : eqV a b = true ↔ a = b := by
 obtain ⟨k, n, i, t, l, h⟩ := a;obtain ⟨k', n', i', t', l', h'⟩ := b;simp only [eqV, Bool.and_eq_true, beq_iff_eq, Zd.mk.injEq, Zjx.mk.injEq]
 constructor
 ·rintro ⟨rfl, rfl, rfl, ht, rfl, rfl⟩;exact ⟨rfl, rfl, rfl, Zid ht, rfl, rfl⟩
 ·rintro ⟨rfl, rfl, rfl, rfl, rfl, rfl⟩;exact ⟨rfl, rfl, rfl, rfl, rfl, rfl⟩
theorem Zim (a : Zd) : eqV a a = true := Zhc.2 rfl
/-- The first place of a value in a row, or the row's length. -/
def Zlo : List Zd → Zd → Nat
 | [], _ => 0
 | a :: l, v => if eqV a v = true then 0 else Zlo l v + 1
def Zfn (l : List Zd) (v : Zd) : Bool := l.any fun a => eqV a v
theorem Zml : ∀ (l : List Zd) (v : Zd), Zlo l v ≤ l.length
 | [], _ => Nat.le_refl _
 | a :: l, v => by
  unfold Zlo
  split
  ·omega
  ·have := Zml l v; simp; omega
theorem Zuv : ∀ {l : List Zd} {v : Zd}, Zfn l v = true ↔ Zlo l v < l.length
 | [], v => by simp [Zfn, Zlo]
 | a :: l, v => by
  have := @Zuv l v;unfold Zfn at this ⊢;rw [List.any_cons];unfold Zlo
  cases h : eqV a v with
  | true => simp
  | false => simpa using this
theorem Zk1 {l : List Zd} {v : Zd} : Zfn l v = true ↔ v ∈ l := by
 unfold Zfn;rw [List.any_eq_true];exact ⟨fun ⟨a, h1, h2⟩ => by rw [Zhc] at h2; exact h2 ▸ h1, fun h => ⟨v, h, Zim v⟩⟩
theorem Zuw {l : List Zd} {v : Zd} {j : Nat} (h : j < l.length) (he : eqV l[j] v = true) : Zfn l v = true := Zk1.2 (by rw [Zhc] at he; rw [← he]; exact List.getElem_mem h)
theorem Zqw {l : List Zd} {v : Zd} (h : ∀ k (hk : k < l.length), eqV l[k] v = false) : Zfn l v = false := by
 rw [← Bool.not_eq_true, Zk1];intro hm;obtain ⟨k, hk, rfl⟩ := List.getElem_of_mem hm;have := h k hk;rw [Zim] at this
 cases this
theorem Zqx : ∀ {l : List Zd} {v : Zd} {j : Nat} (h : j < l.length), eqV l[j] v = true → (∀ k (hk : k < l.length), k < j → eqV l[k] v = false) → Zlo l v = j
 | a :: l, v, 0, _, he, _ => by
  unfold Zlo;rw [if_pos (by simpa using he)]
 | a :: l, v, j + 1, h, he, hn => by
  unfold Zlo;have h0 := hn 0 (by simp) (by omega);simp only [List.getElem_cons_zero] at h0;rw [h0];simp only [Bool.false_eq_true, if_false];rw [Zqx (j := j) (by simpa using h) (by simpa using he) (fun k hk hj => hn (k + 1) (Nat.succ_lt_succ hk) (Nat.succ_lt_succ hj))]
/-- The place, or -1. -/
def Zei (l : List Zd) (v : Zd) : Int := if Zfn l v = true then (Zlo l v : Int) else -1
theorem Znu {l : List Zd} {v : Zd} {j : Nat} (h : j < l.length) (he : eqV l[j] v = true) (hn : ∀ k (hk : k < l.length), k < j → eqV l[k] v = false) : Zei l v = j := by
 unfold Zei;rw [if_pos (Zuw h he), Zqx h he hn]
theorem Znv {l : List Zd} {v : Zd} (h : ∀ k (hk : k < l.length), eqV l[k] v = false) : Zei l v = -1 := by
 unfold Zei;rw [Zqw h]
 rfl
/-- No value twice. -/
def Zb0 (l : List Zd) : Bool := (List.range l.length).all fun i => match l[i]? with | some v => !Zfn (l.take i) v | none => true
theorem Zhr {l : List Zd} (h : ∀ k (hk : k < l.length), Zfn (l.take k) l[k] = false) : Zb0 l = true := by
 unfold Zb0;rw [List.all_eq_true];intro i hi;rw [List.mem_range] at hi;rw [List.getElem?_eq_getElem hi];simp [h i hi]
theorem Zin {l : List Zd} {j : Nat} (hj : j < l.length) (h : Zfn (l.take j) l[j] = true) : Zb0 l = false := by
 unfold Zb0;rw [List.all_eq_false];refine ⟨j, List.mem_range.2 hj, ?_⟩;rw [List.getElem?_eq_getElem hj];simp [h]
/-- What the aJ of a pattern object are: 13 a variable. -/
def Zar (op : Int) : List Int :=
 if op = 1 then [2] else if 2 ≤ op ∧ op ≤ 6 then [1] else if 7 ≤ op ∧ op ≤ 10 then [3] else if op = 13 then [12] else if op = 18 ∨ op = 20 then [13] else if op = 14 ∨ op = 15 then [12, 12] else if op = 16 ∨ op = 17 then [12, 13] else []
def Zx (r : Zf) (k : Int) (v : Zd) : Bool := (if k = 13 then v.kind == 13 || v.kind == 14 else v.kind == k) && Zj r v
def Zh (r : Zf) : List Int → List Zd → Bool
 | [], [] => true
 | k :: ks, v :: vs => Zx r k v && Zh r ks vs
 | _, _ => false
def Zab (r : Zf) (op : Int) (l : List Zd) : Bool := decide (1 ≤ op) && (decide (op ≤ 23) && Zh r (Zar op) l)
def Zao (r : Zf) (l : List Zd) : Bool := l.all (Zbn r)
/-- The aJ and aK of an object fit its kind. -/
def Zag (r : Zf) (o : Zam) : Bool :=
 if o.kind = 1 then decide (o.aJ.length ≤ 24) && Zao r o.aJ
 else if o.kind = 2 then decide (o.aJ.length ≤ 40) && Zao r o.aJ
 else if o.kind = 3 then decide (o.aK.length ≤ 40) && (decide (o.aJ.length = o.aK.length + 1) && (Zao r o.aJ && (Zao r o.aK && Zb0 o.aK)))
 else if o.kind = 4 then decide (o.aK.length ≤ 40) && (decide (o.aJ.length = 0) && (Zao r o.aK && Zb0 o.aK))
 else if o.kind = 5 then decide (0 ≤ o.tag) && (match r.aB[o.tag.toNat]? with | some t => decide (o.aJ.length = t.fields.length) && Zao r o.aJ | none => false)
 else if o.kind = 6 then decide (1 ≤ o.tag) && (match o.aJ with | [a, b, c] => a.kind == 19 && (Zj r a && (b.kind == 19 && (Zj r b && (c.kind == 1 && (Zj r c && decide (0 ≤ c.aH)))))) | _ => false)
 else if o.kind = 7 then Zab r o.tag o.aJ
 else if o.kind = 8 then (match o.aJ with | [a, b] => a.kind == 5 && (Zbn r a && Zbn r b) | _ => false)
 else if o.kind = 9 then (match o.aJ with | [a, b] => a.kind == 2 && (b.kind == 1 && (Zbn r a && (Zbn r b && (decide (1 ≤ b.aH) && decide (b.aH ≤ (a.text.size : Int) + 1))))) | _ => false)
 else false
def Zai (r : Zf) (o : Zam) : Bool :=
 (if 2 ≤ o.kind ∧ o.kind ≤ 7 then decide (1 ≤ o.aI) && decide (o.aI ≤ r.made) else o.aI == 0) &&
 ((if o.kind = 5 ∨ o.kind = 6 ∨ o.kind = 7 then true else o.tag == 0) && ((if o.kind = 3 ∨ o.kind = 4 then true else decide (o.aK.length = 0)) && Zag r o))
/-- No aI aH twice. -/
def Zcp (l : List Zam) : Bool := (List.range l.length).all fun i => match l[i]? with | some o => o.aI == 0 || !((l.take i).any fun p => p.aI == o.aI) | none => true
theorem Zio {l : List Zam} (h : ∀ k (hk : k < l.length), l[k].aI = 0 ∨ ∀ i (hi : i < l.length), i < k → l[i].aI ≠ l[k].aI) : Zcp l = true := by
 unfold Zcp;rw [List.all_eq_true];intro i hi;rw [List.mem_range] at hi;rw [List.getElem?_eq_getElem hi];simp only [Bool.or_eq_true, beq_iff_eq, Bool.not_eq_true', List.any_eq_false]
 rcases h i hi with h1 | h1
 ·exact .inl h1
 ·refine .inr fun p hp => ?_;obtain ⟨k, hk, rfl⟩ := List.getElem_of_mem hp;rw [List.length_take] at hk;rw [List.getElem_take];exact h1 k (by omega) (by omega)
theorem Zj2 {l : List Zam} {j i : Nat} (hj : j < l.length) (h0 : l[j].aI ≠ 0) (hi : i < j) (h : l[i].aI = l[j].aI) : Zcp l = false := by
 unfold Zcp;rw [List.all_eq_false];refine ⟨j, List.mem_range.2 hj, ?_⟩;rw [List.getElem?_eq_getElem hj];simp only [Bool.or_eq_true, beq_iff_eq, Bool.not_eq_true', List.any_eq_false, not_or];refine ⟨h0, fun hn => ?_⟩;exact hn l[i] (List.mem_take_iff_getElem.2 ⟨i, by omega, rfl⟩) h
def Zcy (r : Zf) (a : Zc4) : Bool := decide (0 ≤ a.routine) && (decide (a.routine < (r.names.length : Int)) && Za9 r a.frame 1)
def Zgn (s : ByteArray) : Bool := decide (s.size ≤ 120)
/-- A valid Store. -/
def Zap (r : Zf) : Bool :=
 decide (r.names.length ≤ 12) && (r.names.all Zb5 && (decide (r.aB.length ≤ 8) && (r.aB.all Ze4 && (decide (r.globals.length ≤ 12) && (decide (r.aC.size ≤ 120) && (decide (1 ≤ r.aD) && (decide (r.aD ≤ (r.aC.size : Int) + 1) &&
 (decide (r.aE.length ≤ 40) && (r.aE.all (Zcy r) && (r.output.all Zgn && (decide (0 ≤ r.aG) && (decide (r.aG ≤ 4000) && (decide (0 ≤ r.ticks) && (decide (r.ticks ≤ r.aG) && (decide (0 ≤ r.made) && (Zao r r.globals &&
 (r.aA.all (Zai r) && Zcp r.aA)))))))))))))))))
/-- The six cells of a value. -/
structure VAt (w : World) (b o : Nat) (v : Zd) : Prop where
 c0 : w.cell? ⟨b, o, none⟩ = some (.int .i64 v.kind)
 c1 : w.cell? ⟨b, o + 1, none⟩ = some (.int .i64 v.aH)
 c2 : w.cell? ⟨b, o + 2, none⟩ = some (.int .i64 v.index)
 c3 : w.cell? ⟨b, o + 3, none⟩ = some (.string v.text)
 c4 : w.cell? ⟨b, o + 4, none⟩ = some (.int .i64 v.set_.low)
 c5 : w.cell? ⟨b, o + 5, none⟩ = some (.int .i64 v.set_.high)
theorem Zhd {w : World} {b o : Nat} {v : Value} (h : w.cell? ⟨b, o, none⟩ = some v) : b < w.heap.size := by
 unfold World.cell? at h
 rcases hh : w.heap[b]? with _ | o
 ·simp [hh] at h
 ·exact (Array.getElem?_eq_some_iff.1 hh).1
theorem VAt.later {w x : World} {b o : Nat} {v : Zd} (h : VAt w b o v) (hl : Za w x) : VAt x b o v :=
 ⟨(hl.cell _ (Zhd h.c0)).trans h.c0, (hl.cell _ (Zhd h.c0)).trans h.c1, (hl.cell _ (Zhd h.c0)).trans h.c2, (hl.cell _ (Zhd h.c0)).trans h.c3, (hl.cell _ (Zhd h.c0)).trans h.c4, (hl.cell _ (Zhd h.c0)).trans h.c5⟩
theorem Znw (a b : Zd) : eqV a b = eqV b a := by
 cases h : eqV b a with
 | true => rw [Zhc] at h; rw [h]; exact Zim _
 | false =>
  cases h2 : eqV a b with
  | false => rfl
  | true => rw [Zhc] at h2; rw [h2, Zim] at h; cases h
theorem Zk2 {β : Type} (a b : Zd) (f : Bool → β) :
  (if a.kind = b.kind then if a.aH = b.aH then if a.index = b.index then if a.text.toList = b.text.toList then if a.set_.low = b.set_.low then if a.set_.high = b.set_.high then f true else f false else f false else f false else f false else f false else f false) = f (eqV a b) := by
 have ht : eqV a b = true ↔ (a.kind = b.kind ∧ a.aH = b.aH ∧ a.index = b.index ∧ a.text.toList = b.text.toList ∧ a.set_.low = b.set_.low ∧ a.set_.high = b.set_.high) := by simp only [eqV, Bool.and_eq_true, beq_iff_eq]
 cases h : eqV a b with
 | true =>
  obtain ⟨h1, h2, h3, h4, h5, h6⟩ := ht.1 h;rw [if_pos h1, if_pos h2, if_pos h3, if_pos h4, if_pos h5, if_pos h6]
 | false =>
  have hn := mt ht.2 (by rw [h]; decide)
  split
  ·split
   ·split
    ·split
     ·split
      ·split
       ·exact absurd ⟨by assumption, by assumption, by assumption, by assumption, by assumption, by assumption⟩ hn
       ·rfl
      ·rfl
     ·rfl
    ·rfl
   ·rfl
  ·rfl
/-- A row of values, thing by thing. -/
theorem Zo.vat {F : Nat → Prop} {w : World} {l : List Zd} {A : Option Addr} {n c : Nat} (h : Zo Zg 6 F w l (.slice A n c)) {j : Nat} (hj : j < l.length) :
  ∃ b o, A = some ⟨b, o, none⟩ ∧ b < w.heap.size ∧ VAt w b (o + j * 6) l[j] ∧ Zg F w l[j] [.int .i64 l[j].kind, .int .i64 l[j].aH, .int .i64 l[j].index, .string l[j].text, .int .i64 l[j].set_.low, .int .i64 l[j].set_.high] := by
 obtain ⟨A', c', e, _, _, hel⟩ := h;cases e;obtain ⟨b, o, cs, rfl, _, hb, hE, hc⟩ := hel j hj;have hE0 := hE;obtain ⟨rfl, _⟩ := hE;exact ⟨b, o, rfl, hb, ⟨hc 0 _ rfl, hc 1 _ rfl, hc 2 _ rfl, hc 3 _ rfl, hc 4 _ rfl, hc 5 _ rfl⟩, hE0⟩
/-- A value that was just laid. -/
theorem VAt.new (w : World) (v : Zd) : VAt (w.alloc (.cells #[.int .i64 v.kind, .int .i64 v.aH, .int .i64 v.index, .string v.text, .int .i64 v.set_.low, .int .i64 v.set_.high] 34)) w.heap.size 0 v := by
 have h := heap_alloc_new w (.cells #[.int .i64 v.kind, .int .i64 v.aH, .int .i64 v.index, .string v.text, .int .i64 v.set_.low, .int .i64 v.set_.high] 34);refine ⟨?_, ?_, ?_, ?_, ?_, ?_⟩ <;> rw [cell_of_row _ _ _ _ _ _ h] <;> rfl
theorem Zk3 (l : List Zd) (v : Value) (y : Zd) (F : Nat → Prop) (w : World) (hr : Zo Zg 6 F w l v) :
  Calls Tryz.prog 158 #[v, .agg #[.int .i64 y.kind, .int .i64 y.aH, .int .i64 y.index, .string y.text, .int .i64 y.set_.low, .int .i64 y.set_.high]] w fun e w' => e = .returned (.int .i64 (Zei l y)) ∧ Za w w' := by
 obtain ⟨A, c, rfl, hc, hcm, _⟩ := id hr;unfold maxLen at hcm;have HR0 := zh hr;clear hr;obtain ⟨R, hR⟩ : ∃ R, Zei l y = R := ⟨_, rfl⟩;rw [hR];have HR := zh hR;clear hR;have HV := zh (VAt.new w y);have HL := zh ((Za.refl w).alloc (.cells #[.int .i64 y.kind, .int .i64 y.aH, .int .i64 y.index, .string y.text, .int .i64 y.set_.low, .int .i64 y.set_.high] 34));go_enter Tryz.func158, Tryz.ntmps158;go_wp2_with fail
 go_loopw [8] (fun i wr => ∃ j : Nat, i = .int .i64 j ∧ j ≤ l.length ∧ Hd (∀ k (h : k < l.length), k < j → eqV l[k] y = false) ∧ Hd (Za w wr) ∧ VAt wr w.heap.size 0 y) (fun i _ => l.length - (intOf i).toNat)
 case atStart => exact ⟨0, rfl, Nat.zero_le _, zh (fun k _ h => by omega), HL, HV.o⟩
 case round =>
  obtain ⟨j, rfl, hj, HD, HLW, hv⟩ := hrel
  by_cases hlt : j < l.length
  ·obtain ⟨b, o, rfl, hb, hat, _⟩ := (HR0.o.later Zc HLW.o).vat hlt;have t1 : decide ((j : Int) < l.length) = true := decide_eq_true (by omega);go_wp2_with fail;refine Zax [] [] (by kernel_rfl) (fun W hW => ?_);have hWL : Za wr W := by rw [hW]; exact (Za.refl _).drew
   have HAT := zh (hat.later hWL);have HVW := zh (hv.later hWL);have HLW2 := zh (HLW.o.trans hWL);clear hW hWL hat hv;obtain ⟨p, hp⟩ : ∃ p, eqV l[j] y = p := ⟨_, rfl⟩;refine tU 0 11 (v := ?_) rfl rfl (fun x hx => ?_) ?_;rotate_left
   ·obtain ⟨c0, c1, c2, c3, c4, c5⟩ := HAT.o.later hx; obtain ⟨d0, d1, d2, d3, d4, d5⟩ := HVW.o.later hx; go_simp;first|done|with_reducible rfl
   simp only [Act.put, nA, nB, nC];refine tU 1 12 (v := ?_) rfl rfl (fun x hx => ?_) ?_;rotate_left
   ·go_simp;first|done|with_reducible rfl
   simp only [Act.put, nA, nB, nC];refine tU 2 13 (v := ?_) rfl rfl (fun x hx => ?_) ?_;rotate_left
   ·go_simp;first|done|with_reducible rfl
   simp only [Act.put, nA, nB, nC];refine tU 3 14 (v := ?_) rfl rfl (fun x hx => ?_) ?_;rotate_left
   ·go_simp;first|done|with_reducible rfl|rw[if_neg (by omega)]|rw[if_pos (by omega)]
   simp only [Act.put, nA, nB, nC];refine tU 4 15 (v := ?_) rfl rfl (fun x hx => ?_) ?_;rotate_left
   ·obtain ⟨c0, c1, c2, c3, c4, c5⟩ := HAT.o.later hx; obtain ⟨d0, d1, d2, d3, d4, d5⟩ := HVW.o.later hx; go_simp;first|done|with_reducible rfl
   simp only [Act.put, nA, nB, nC];refine tU 5 16 (v := ?_) rfl rfl (fun x hx => ?_) ?_;rotate_left
   ·go_simp; refine (Zk2 y l[j] (fun q => Result.ok (Next.value (Value.bool q)) x)).trans ?_; rw [Znw, hp];first|done|with_reducible rfl|rw[if_neg (by omega)]|rw[if_pos (by omega)]
   simp only [Act.put, nA, nB, nC];refine Za7 [] (by kernel_rfl) rfl rfl ?_;have HP := zh hp;clear hp
   cases p with
   | true =>
    have hR0 : R = (j : Int) := by rw [← HR.o, Znu hlt HP.o HD.o]
    subst hR0;go_wp2_with fail;go_ret;exact ⟨rfl, HLW2.o⟩
   | false =>
    have HD2 : Hd (∀ k (h : k < l.length), k < j + 1 → eqV l[k] y = false) := zh (fun k hk h => by
     rcases Nat.lt_or_ge k j with h1 | h1
     ·exact HD.o k hk h1
     ·obtain rfl : k = j := by omega
      exact HP.o)
    go_wp2_with fail
    go_roundw
    case rel => exact ⟨j + 1, by go_num, by omega, HD2, HLW2, HVW.o⟩
    case measure => simp [intOf]; omega
  ·have t1 : decide ((j : Int) < l.length) = false := decide_eq_false (by omega);have hR0 : R = -1 := by rw [← HR.o, Znv (fun k hk => HD.o k hk (by omega))]
   subst hR0;clear hv;go_wp2_with fail;go_ret;exact ⟨rfl, HLW.o⟩
theorem Zs5 (l : List Zd) (y : Zd) : decide (0 ≤ Zei l y) = Zfn l y := by
 unfold Zei
 cases h : Zfn l y with
 | true => rw [if_pos rfl]; simp
 | false => rw [if_neg (by simp)]; rfl
theorem Zlp (l : List Zd) (v : Value) (y : Zd) (F : Nat → Prop) (w : World) (hr : Zo Zg 6 F w l v) :
  Calls Tryz.prog 155 #[v, .agg #[.int .i64 y.kind, .int .i64 y.aH, .int .i64 y.index, .string y.text, .int .i64 y.set_.low, .int .i64 y.set_.high]] w fun e w' => e = .returned (.bool (Zfn l y)) ∧ Za w w' := by
 obtain ⟨A, c, rfl, hc, hcm, _⟩ := id hr;have hl0 := (Za.refl w).alloc (.cells #[.int .i64 y.kind, .int .i64 y.aH, .int .i64 y.index, .string y.text, .int .i64 y.set_.low, .int .i64 y.set_.high] 34);have HI := Zk3 l _ y F _ (hr.later Zc hl0);obtain ⟨R, hR⟩ : ∃ R, Zei l y = R := ⟨_, rfl⟩;have hd : decide (0 ≤ R) = Zfn l y := by rw [← hR, Zs5]
 rw [hR] at HI;have HL := zh hl0;have HH := zh HI;clear hr hR HI hl0 hcm;go_enter Tryz.func155, Tryz.ntmps155;go_wp2_with fail;refine HH.o.mono ?_;rintro e w2 ⟨rfl, hl⟩;have HL2 := zh (HL.o.trans hl);clear hl;go_wp2_with fail;go_ret;exact ⟨rfl, HL2.o⟩
theorem Ze5 (l : List Zd) (v : Value) (F : Nat → Prop) (w : World) (hr : Zo Zg 6 F w l v) :
  Calls Tryz.prog 106 #[v] w fun e w' => e = .returned (.bool (Zb0 l)) ∧ Za w w' := by
 obtain ⟨A, c, rfl, hc, hcm, _⟩ := id hr;unfold maxLen at hcm;have HR0 := zh hr;clear hr;obtain ⟨R, hR⟩ : ∃ R, Zb0 l = R := ⟨_, rfl⟩;rw [hR];have HR := zh hR;clear hR;go_enter Tryz.func106, Tryz.ntmps106;go_wp2_with fail
 go_loopw [6] (fun i wr => ∃ j : Nat, i = .int .i64 j ∧ j ≤ l.length ∧ Hd (∀ k (h : k < l.length), k < j → Zfn (l.take k) l[k] = false) ∧ Hd (Za w wr)) (fun i _ => l.length - (intOf i).toNat)
 case atStart => exact ⟨0, rfl, Nat.zero_le _, zh (fun k _ h => by omega), zh (Za.refl w)⟩
 case round =>
  obtain ⟨j, rfl, hj, HD, HLW⟩ := hrel
  by_cases hlt : j < l.length
  ·obtain ⟨b, o, rfl, hb, hat, _⟩ := (HR0.o.later Zc HLW.o).vat hlt;have t1 : decide ((j : Int) < l.length) = true := decide_eq_true (by omega);go_wp2_with fail;refine Zax [7] [] (by kernel_rfl) (fun W hW => ?_);have hWL : Za wr W := by rw [hW]; exact (Za.refl _).drew
   have HAT := zh (hat.later hWL);have HLW2 := zh (HLW.o.trans hWL);clear hW hWL hat;refine tU 0 9 (v := ?_) rfl rfl (fun x hx => ?_) ?_;rotate_left
   ·go_simp;first|done|with_reducible rfl
   simp only [Act.put, nA, nB, nC];refine tU 1 10 (v := ?_) rfl rfl (fun x hx => ?_) ?_;rotate_left
   ·go_simp;first|done|with_reducible rfl
   simp only [Act.put, nA, nB, nC];refine tU 2 11 (v := ?_) rfl rfl (fun x hx => ?_) ?_;rotate_left
   ·go_simp;first|done|with_reducible rfl|rw[if_neg (by omega)]|rw[if_pos (by omega)]
   simp only [Act.put, nA, nB, nC];refine tU 3 12 (v := ?_) rfl rfl (fun x hx => ?_) ?_;rotate_left
   ·go_simp;first|done|with_reducible rfl
   simp only [Act.put, nA, nB, nC];refine tU 4 13 (v := ?_) rfl rfl (fun x hx => ?_) ?_;rotate_left
   ·go_simp;first|done|with_reducible rfl
   simp only [Act.put, nA, nB, nC];refine tU 5 14 (v := ?_) rfl rfl (fun x hx => ?_) ?_;rotate_left
   ·go_simp;first|done|with_reducible rfl|rw[if_neg (by omega)]|rw[if_pos (by omega)]
   simp only [Act.put, nA, nB, nC];refine tU 6 15 (v := ?_) rfl rfl (fun x hx => ?_) ?_;rotate_left
   ·obtain ⟨c0, c1, c2, c3, c4, c5⟩ := HAT.o.later hx; go_simp;first|done|with_reducible rfl
   simp only [Act.put, nA, nB, nC];refine Za7 [_] (by kernel_rfl) rfl rfl ?_;simp only [List.getElem_toArray, List.getElem_cons_succ, List.getElem_cons_zero];have hjc : j ≤ c := by omega
   go_wp2_with fail;refine (Zlp (l.take j) _ l[j] F _ ((HR0.o.later Zc HLW2.o).take (by omega))).mono ?_;obtain ⟨p, hp⟩ : ∃ p, Zfn (l.take j) l[j] = p := ⟨_, rfl⟩;rw [hp];have HP := zh hp;clear hp;rintro e w2 ⟨rfl, hl⟩;have HL2 := zh (HLW2.o.trans hl);clear hl
   cases p with
   | true =>
    have hR0 : R = false := by rw [← HR.o, Zin hlt HP.o]
    subst hR0;go_wp2_with fail;go_ret;exact ⟨rfl, HL2.o⟩
   | false =>
    have HD2 : Hd (∀ k (h : k < l.length), k < j + 1 → Zfn (l.take k) l[k] = false) := zh (fun k hk h => by
     rcases Nat.lt_or_ge k j with h1 | h1
     ·exact HD.o k hk h1
     ·obtain rfl : k = j := by omega
      exact HP.o)
    go_wp2_with fail
    go_roundw
    case rel => exact ⟨j + 1, by go_num, by omega, HD2, HL2⟩
    case measure => simp [intOf]; omega
  ·have t1 : decide ((j : Int) < l.length) = false := decide_eq_false (by omega);have hR0 : R = true := by rw [← HR.o, Zhr (fun k hk => HD.o k hk (by omega))]
   subst hR0;go_wp2_with fail;go_ret;exact ⟨rfl, HLW.o⟩
theorem Zgd (l : List Zd) (v : Value) (F : Nat → Prop) (w : World) (hr : Zo Zg 6 F w l v) :
  Calls Tryz.prog 149 #[v] w fun e w' => e = .returned (.bool (Zb0 l)) ∧ Za w w' := by
 obtain ⟨A, c, rfl, hc, hcm, _⟩ := id hr;unfold maxLen at hcm;have HR0 := zh hr;clear hr;obtain ⟨R, hR⟩ : ∃ R, Zb0 l = R := ⟨_, rfl⟩;rw [hR];have HR := zh hR;clear hR;go_enter Tryz.func149, Tryz.ntmps149;go_wp2_with fail
 go_loopw [3] (fun i wr => ∃ j : Nat, i = .int .i64 j ∧ j ≤ l.length ∧ Hd (∀ k (h : k < l.length), k < j → Zfn (l.take k) l[k] = false) ∧ Hd (Za w wr)) (fun i _ => l.length - (intOf i).toNat)
 case atStart => exact ⟨0, rfl, Nat.zero_le _, zh (fun k _ h => by omega), zh (Za.refl w)⟩
 case round =>
  obtain ⟨j, rfl, hj, HD, HLW⟩ := hrel
  by_cases hlt : j < l.length
  ·have t1 : decide ((j : Int) < l.length) = true := decide_eq_true (by omega);go_wp2_with fail
   go_loopw [4] (fun i wr2 => ∃ k : Nat, i = .int .i64 k ∧ k ≤ j ∧ Hd (∀ q (h : q < l.length), q < k → eqV l[q] l[j] = false) ∧ Hd (Za w wr2)) (fun i _ => j - (intOf i).toNat)
   case atStart => exact ⟨0, rfl, Nat.zero_le _, zh (fun k _ h => by omega), HLW⟩
   case round =>
    obtain ⟨i, rfl, hi, HE, HLX⟩ := hrel;clear HLW
    by_cases hlt2 : i < j
    ·have hil : i < l.length := by omega
     obtain ⟨b, o, rfl, hb, hat, _⟩ := (HR0.o.later Zc HLX.o).vat hlt;obtain ⟨b', o', e, _, hau, _⟩ := (HR0.o.later Zc HLX.o).vat hil;cases e;have t2 : decide ((i : Int) < j) = true := decide_eq_true (by omega);go_wp2_with fail;refine Zax [] [] (by kernel_rfl) (fun W hW => ?_);have hWL := (show Za _ W by rw [hW]; exact (Za.refl _).drew);have HAT := zh (hat.later hWL);have HAU := zh (hau.later hWL);have HLW2 := zh (HLX.o.trans hWL);clear hW hWL hat hau;obtain ⟨p, hp⟩ : ∃ p, eqV l[i] l[j] = p := ⟨_, rfl⟩;refine tU 0 16 (v := ?_) rfl rfl (fun x hx => ?_) ?_;rotate_left
     ·go_simp;first|done|with_reducible rfl
     simp only [Act.put, nA, nB, nC];refine tU 1 17 (v := ?_) rfl rfl (fun x hx => ?_) ?_;rotate_left
     ·go_simp;first|done|with_reducible rfl
     simp only [Act.put, nA, nB, nC];refine tU 2 18 (v := ?_) rfl rfl (fun x hx => ?_) ?_;rotate_left
     ·go_simp;first|done|with_reducible rfl|rw[if_neg (by omega)]|rw[if_pos (by omega)]
     simp only [Act.put, nA, nB, nC];refine tU 3 19 (v := ?_) rfl rfl (fun x hx => ?_) ?_;rotate_left
     ·obtain ⟨c0, c1, c2, c3, c4, c5⟩ := HAT.o.later hx; obtain ⟨d0, d1, d2, d3, d4, d5⟩ := HAU.o.later hx; go_simp;first|done|with_reducible rfl
     simp only [Act.put, nA, nB, nC];refine tU 4 20 (v := ?_) rfl rfl (fun x hx => ?_) ?_;rotate_left
     ·go_simp;first|done|with_reducible rfl
     simp only [Act.put, nA, nB, nC];refine tU 5 21 (v := ?_) rfl rfl (fun x hx => ?_) ?_;rotate_left
     ·go_simp;first|done|with_reducible rfl
     simp only [Act.put, nA, nB, nC];refine tU 6 22 (v := ?_) rfl rfl (fun x hx => ?_) ?_;rotate_left
     ·go_simp;first|done|with_reducible rfl|rw[if_neg (by omega)]|rw[if_pos (by omega)]
     simp only [Act.put, nA, nB, nC];refine tU 7 23 (v := ?_) rfl rfl (fun x hx => ?_) ?_;rotate_left
     ·obtain ⟨c0, c1, c2, c3, c4, c5⟩ := HAT.o.later hx; obtain ⟨d0, d1, d2, d3, d4, d5⟩ := HAU.o.later hx; go_simp;first|done|with_reducible rfl
     simp only [Act.put, nA, nB, nC];refine tU 8 24 (v := ?_) rfl rfl (fun x hx => ?_) ?_;rotate_left
     ·go_simp; refine (Zk2 l[j] l[i] (fun q => Result.ok (Next.value (Value.bool q)) x)).trans ?_; rw [Znw, hp];first|done|with_reducible rfl|rw[if_neg (by omega)]|rw[if_pos (by omega)]
     simp only [Act.put, nA, nB, nC];refine Za7 [] (by kernel_rfl) rfl rfl ?_;have HP := zh hp;clear hp
     cases p with
     | true =>
      have hR0 : R = false := by rw [← HR.o, Zin hlt (Zk1.2 (by rw [List.mem_take_iff_getElem]; exact ⟨i, by omega, Zhc.1 HP.o⟩))]
      subst hR0;go_wp2_with fail;go_ret;exact ⟨rfl, HLW2.o⟩
     | false =>
      have HE2 : Hd (∀ q (h : q < l.length), q < i + 1 → eqV l[q] l[j] = false) := zh (fun q hq h => by
       rcases Nat.lt_or_ge q i with h1 | h1
       ·exact HE.o q hq h1
       ·obtain rfl : q = i := by omega
        exact HP.o)
      go_wp2_with fail
      go_roundw
      case rel => exact ⟨i + 1, by go_num, by omega, HE2, HLW2⟩
      case measure => simp [intOf]; omega
    ·have t2 : decide ((i : Int) < j) = false := decide_eq_false (by omega);have HD2 : Hd (∀ k (h : k < l.length), k < j + 1 → Zfn (l.take k) l[k] = false) := zh (fun k hk h => by
      rcases Nat.lt_or_ge k j with h1 | h1
      ·exact HD.o k hk h1
      ·obtain rfl : k = j := by omega
       exact Zqw (fun q hq => by rw [List.length_take] at hq; rw [List.getElem_take]; exact HE.o q (by omega) (by omega)))
     go_wp2_with fail
     go_roundw
     case rel => exact ⟨j + 1, by go_num, by omega, HD2, HLX⟩
     case measure => simp [intOf]; omega
  ·have t1 : decide ((j : Int) < l.length) = false := decide_eq_false (by omega);have hR0 : R = true := by rw [← HR.o, Zhr (fun k hk => HD.o k hk (by omega))]
   subst hR0;go_wp2_with fail;go_ret;exact ⟨rfl, HLW.o⟩
theorem Zpq (l : List Zd) (kd tg sr : Int) (vi v : Value) (y : Zd) (F : Nat → Prop) (w : World) (hr : Zo Zg 6 F w l v) :
  Calls Tryz.prog 134 #[.agg #[.int .i64 kd, .int .i64 tg, .int .i64 sr, vi, v], .agg #[.int .i64 y.kind, .int .i64 y.aH, .int .i64 y.index, .string y.text, .int .i64 y.set_.low, .int .i64 y.set_.high]] w fun e w' => e = .returned (.int .i64 (Zei l y)) ∧ Za w w' := by
 obtain ⟨A, c, rfl, hc, hcm, _⟩ := id hr;unfold maxLen at hcm;have HR0 := zh hr;clear hr;obtain ⟨R, hR⟩ : ∃ R, Zei l y = R := ⟨_, rfl⟩;rw [hR];have HR := zh hR;clear hR;have HM0 := zh (((Za.refl (w.alloc (.cells #[.int .i64 kd, .int .i64 tg, .int .i64 sr, vi, .slice A l.length c] 94))).alloc (.cells #[.int .i64 y.kind, .int .i64 y.aH, .int .i64 y.index, .string y.text, .int .i64 y.set_.low, .int .i64 y.set_.high] 34)).block _ (Zb (heap_alloc_new w (.cells #[.int .i64 kd, .int .i64 tg, .int .i64 sr, vi, .slice A l.length c] 94))) |>.trans (heap_alloc_new w (.cells #[.int .i64 kd, .int .i64 tg, .int .i64 sr, vi, .slice A l.length c] 94)));have HV0 := zh (VAt.new (w.alloc (.cells #[.int .i64 kd, .int .i64 tg, .int .i64 sr, vi, .slice A l.length c] 94)) y);have HL := zh (((Za.refl w).alloc (.cells #[.int .i64 kd, .int .i64 tg, .int .i64 sr, vi, .slice A l.length c] 94)).trans ((Za.refl _).alloc (.cells #[.int .i64 y.kind, .int .i64 y.aH, .int .i64 y.index, .string y.text, .int .i64 y.set_.low, .int .i64 y.set_.high] 34)));go_enter Tryz.func134, Tryz.ntmps134;go_wp2_with fail
 go_loopw [5] (fun i wr => ∃ j : Nat, i = .int .i64 j ∧ j ≤ l.length ∧ Hd (∀ k (h : k < l.length), k < j → eqV l[k] y = false) ∧ Hd (Za w wr) ∧ Hd (wr.heap[w.heap.size]? = some (.cells #[.int .i64 kd, .int .i64 tg, .int .i64 sr, vi, .slice A l.length c] 94 (0, 0))) ∧ Hd (VAt wr (w.heap.size + 1) 0 y)) (fun i _ => l.length - (intOf i).toNat)
 case atStart => exact ⟨0, rfl, Nat.zero_le _, zh (fun k _ h => by omega), HL, HM0, zh (by have := HV0.o; simpa using this)⟩
 case round =>
  obtain ⟨j, rfl, hj, HD, HLW, HM, HV⟩ := hrel;have q4 := cq HM.o 4;simp only [nD, nE, nF] at q4
  by_cases hlt : j < l.length
  ·obtain ⟨b, o, rfl, hb, hat, _⟩ := (HR0.o.later Zc HLW.o).vat hlt;have t1 : decide ((j : Int) < l.length) = true := decide_eq_true (by omega);go_wp2_with fail;refine Zax [] [] (by kernel_rfl) (fun W hW => ?_);have hWL : Za wr W := by rw [hW]; exact (Za.refl _).drew
   have HMW := zC hWL HM;have m4 := cq HMW.o 4;simp only [nD, nE, nF] at m4;have HAT := zh (hat.later hWL);have HVW := zh (HV.o.later hWL);have HLW2 := zh (HLW.o.trans hWL);clear hW hWL hat q4;obtain ⟨p, hp⟩ : ∃ p, eqV l[j] y = p := ⟨_, rfl⟩;refine tU 0 13 (v := ?_) rfl rfl (fun x hx => ?_) ?_;rotate_left
   ·go_simp;first|done|with_reducible rfl
   simp only [Act.put, nA, nB, nC];refine tU 1 14 (v := ?_) rfl rfl (fun x hx => ?_) ?_;rotate_left
   ·have x4 := (hx.cell ⟨w.heap.size, 4, none⟩ (Zb HMW.o)).trans m4; obtain ⟨c0, c1, c2, c3, c4, c5⟩ := HAT.o.later hx; obtain ⟨d0, d1, d2, d3, d4, d5⟩ := HVW.o.later hx; go_simp;first|done|with_reducible rfl
   simp only [Act.put, nA, nB, nC];refine tU 2 15 (v := ?_) rfl rfl (fun x hx => ?_) ?_;rotate_left
   ·go_simp;first|done|with_reducible rfl
   simp only [Act.put, nA, nB, nC];refine tU 3 16 (v := ?_) rfl rfl (fun x hx => ?_) ?_;rotate_left
   ·go_simp;first|done|with_reducible rfl|rw[if_neg (by omega)]|rw[if_pos (by omega)]
   simp only [Act.put, nA, nB, nC];refine tU 4 17 (v := ?_) rfl rfl (fun x hx => ?_) ?_;rotate_left
   ·have x4 := (hx.cell ⟨w.heap.size, 4, none⟩ (Zb HMW.o)).trans m4; obtain ⟨c0, c1, c2, c3, c4, c5⟩ := HAT.o.later hx; obtain ⟨d0, d1, d2, d3, d4, d5⟩ := HVW.o.later hx; go_simp;first|done|with_reducible rfl
   simp only [Act.put, nA, nB, nC];refine tU 5 18 (v := ?_) rfl rfl (fun x hx => ?_) ?_;rotate_left
   ·have x4 := (hx.cell ⟨w.heap.size, 4, none⟩ (Zb HMW.o)).trans m4; obtain ⟨c0, c1, c2, c3, c4, c5⟩ := HAT.o.later hx; obtain ⟨d0, d1, d2, d3, d4, d5⟩ := HVW.o.later hx; go_simp;first|done|with_reducible rfl
   simp only [Act.put, nA, nB, nC];refine tU 6 19 (v := ?_) rfl rfl (fun x hx => ?_) ?_;rotate_left
   ·go_simp; refine (Zk2 l[j] y (fun q => Result.ok (Next.value (Value.bool q)) x)).trans ?_; rw [hp];first|done|with_reducible rfl|rw[if_neg (by omega)]|rw[if_pos (by omega)]
   simp only [Act.put, nA, nB, nC];refine Za7 [] (by kernel_rfl) rfl rfl ?_;have HP := zh hp;clear hp
   cases p with
   | true =>
    have hR0 : R = (j : Int) := by rw [← HR.o, Znu hlt HP.o HD.o]
    subst hR0;go_wp2_with fail;go_ret;exact ⟨rfl, HLW2.o⟩
   | false =>
    have HD2 : Hd (∀ k (h : k < l.length), k < j + 1 → eqV l[k] y = false) := zh (fun k hk h => by
     rcases Nat.lt_or_ge k j with h1 | h1
     ·exact HD.o k hk h1
     ·obtain rfl : k = j := by omega
      exact HP.o)
    go_wp2_with fail
    go_roundw
    case rel => exact ⟨j + 1, by go_num, by omega, HD2, HLW2, HMW, HVW⟩
    case measure => simp [intOf]; omega
  ·have t1 : decide ((j : Int) < l.length) = false := decide_eq_false (by omega);have hR0 : R = -1 := by rw [← HR.o, Znv (fun k hk => HD.o k hk (by omega))]
   subst hR0;go_wp2_with fail;go_ret;exact ⟨rfl, HLW.o⟩
theorem Za2 (r : Zf) (B : Nat) (cs : List Value) (F : Nat → Prop) (w : World) (n k : Int) (h : Z3 F w B r cs) :
  Calls Tryz.prog 49 #[.pointer (some ⟨B, 0, none⟩), .int .i64 n, .int .i64 k] w fun e w' => e = .returned (.bool (Za9 r n k)) ∧ w' = w := by
 obtain ⟨A, c, c2, hc, hcm, hrow⟩ := h.aA;unfold maxLen at hcm
 by_cases h0 : 0 ≤ n
 ·have t1 : decide (0 ≤ n) = true := decide_eq_true h0;obtain ⟨i, rfl⟩ : ∃ i : Nat, n = i := ⟨n.toNat, by omega⟩
  by_cases hlt : i < r.aA.length
  ·have hlt' : (i : Int) < r.aA.length := by omega
   have t2 : decide ((i : Int) < r.aA.length) = true := decide_eq_true hlt';obtain ⟨b, o, Ai, ci, Ak, ck, rfl, hb, e0, _⟩ := Z3.obj hrow hlt;rw [Zdi hlt];clear hrow h;go_enter Tryz.func49, Tryz.ntmps49;go_wp2_with fail;go_ret;exact ⟨rfl, rfl⟩
  ·have t2 : decide ((i : Int) < r.aA.length) = false := decide_eq_false (by omega);rw [Zd3 (by omega)];clear hrow h;go_enter Tryz.func49, Tryz.ntmps49;go_wp2_with fail;go_ret;exact ⟨rfl, rfl⟩
 ·have t1 : decide (0 ≤ n) = false := decide_eq_false h0;rw [Zks h0];clear hrow h;go_enter Tryz.func49, Tryz.ntmps49;go_wp2_with fail;go_ret;exact ⟨rfl, rfl⟩
theorem Zs6 (aH index low high : Int) (text : ByteArray) (w : World) :
  Calls Tryz.prog 108 #[.agg #[.int .i64 (0), .int .i64 aH, .int .i64 index, .string text, .int .i64 low, .int .i64 high]] w fun e w' => e = .returned (.bool (Zn ⟨0, aH, index, text, ⟨low, high⟩⟩)) ∧ Below w.heap.size w w' := by
 have HTS := zh (fun h => Zr (t := text) h);obtain ⟨R, hR⟩ : ∃ R, Zn ⟨0, aH, index, text, ⟨low, high⟩⟩ = R := ⟨_, rfl⟩;rw [hR];have HR := zh hR;clear hR;go_enter Tryz.func108, Tryz.ntmps108;go_wp2_with fail
 all_goals go_ret
 all_goals (refine ⟨?_, (Below.refl _ _).alloc (Nat.le_refl _) _⟩; rw [← HR.o])
 all_goals first
  | (simp [Zn, *]; done)
  | (simp only [Zn]; simp [*]; omega)
  | (have h0 := HTS.o (by assumption); simp only [Zn]; simp [*] <;> omega)
theorem Zs7 (aH index low high : Int) (text : ByteArray) (w : World) :
  Calls Tryz.prog 108 #[.agg #[.int .i64 (1), .int .i64 aH, .int .i64 index, .string text, .int .i64 low, .int .i64 high]] w fun e w' => e = .returned (.bool (Zn ⟨1, aH, index, text, ⟨low, high⟩⟩)) ∧ Below w.heap.size w w' := by
 have HTS := zh (fun h => Zr (t := text) h);obtain ⟨R, hR⟩ : ∃ R, Zn ⟨1, aH, index, text, ⟨low, high⟩⟩ = R := ⟨_, rfl⟩;rw [hR];have HR := zh hR;clear hR;go_enter Tryz.func108, Tryz.ntmps108;go_wp2_with fail
 all_goals go_ret
 all_goals (refine ⟨?_, (Below.refl _ _).alloc (Nat.le_refl _) _⟩; rw [← HR.o])
 all_goals first
  | (simp [Zn, *]; done)
  | (simp only [Zn]; simp [*]; omega)
  | (have h0 := HTS.o (by assumption); simp only [Zn]; simp [*] <;> omega)
theorem Zs8 (aH index low high : Int) (text : ByteArray) (w : World) :
  Calls Tryz.prog 108 #[.agg #[.int .i64 (2), .int .i64 aH, .int .i64 index, .string text, .int .i64 low, .int .i64 high]] w fun e w' => e = .returned (.bool (Zn ⟨2, aH, index, text, ⟨low, high⟩⟩)) ∧ Below w.heap.size w w' := by
 have HTS := zh (fun h => Zr (t := text) h);obtain ⟨R, hR⟩ : ∃ R, Zn ⟨2, aH, index, text, ⟨low, high⟩⟩ = R := ⟨_, rfl⟩;rw [hR];have HR := zh hR;clear hR;go_enter Tryz.func108, Tryz.ntmps108;go_wp2_with fail
 all_goals go_ret
 all_goals (refine ⟨?_, (Below.refl _ _).alloc (Nat.le_refl _) _⟩; rw [← HR.o])
 all_goals first
  | (simp [Zn, *]; done)
  | (simp only [Zn]; simp [*]; omega)
  | (have h0 := HTS.o (by assumption); simp only [Zn]; simp [*] <;> omega)
theorem Zs9 (aH index low high : Int) (text : ByteArray) (w : World) :
  Calls Tryz.prog 108 #[.agg #[.int .i64 (3), .int .i64 aH, .int .i64 index, .string text, .int .i64 low, .int .i64 high]] w fun e w' => e = .returned (.bool (Zn ⟨3, aH, index, text, ⟨low, high⟩⟩)) ∧ Below w.heap.size w w' := by
 have HTS := zh (fun h => Zr (t := text) h);obtain ⟨R, hR⟩ : ∃ R, Zn ⟨3, aH, index, text, ⟨low, high⟩⟩ = R := ⟨_, rfl⟩;rw [hR];have HR := zh hR;clear hR;go_enter Tryz.func108, Tryz.ntmps108;go_wp2_with fail
 all_goals go_ret
 all_goals (refine ⟨?_, (Below.refl _ _).alloc (Nat.le_refl _) _⟩; rw [← HR.o])
 all_goals first
  | (simp [Zn, *]; done)
  | (simp only [Zn]; simp [*]; omega)
  | (have h0 := HTS.o (by assumption); simp only [Zn]; simp [*] <;> omega)
theorem Zta (aH index low high : Int) (text : ByteArray) (w : World) :
  Calls Tryz.prog 108 #[.agg #[.int .i64 (4), .int .i64 aH, .int .i64 index, .string text, .int .i64 low, .int .i64 high]] w fun e w' => e = .returned (.bool (Zn ⟨4, aH, index, text, ⟨low, high⟩⟩)) ∧ Below w.heap.size w w' := by
 have HTS := zh (fun h => Zr (t := text) h);obtain ⟨R, hR⟩ : ∃ R, Zn ⟨4, aH, index, text, ⟨low, high⟩⟩ = R := ⟨_, rfl⟩;rw [hR];have HR := zh hR;clear hR;go_enter Tryz.func108, Tryz.ntmps108;go_wp2_with fail
 all_goals go_ret
 all_goals (refine ⟨?_, (Below.refl _ _).alloc (Nat.le_refl _) _⟩; rw [← HR.o])
 all_goals first
  | (simp [Zn, *]; done)
  | (simp only [Zn]; simp [*]; omega)
  | (have h0 := HTS.o (by assumption); simp only [Zn]; simp [*] <;> omega)
theorem Ztb (aH index low high : Int) (text : ByteArray) (w : World) :
  Calls Tryz.prog 108 #[.agg #[.int .i64 (5), .int .i64 aH, .int .i64 index, .string text, .int .i64 low, .int .i64 high]] w fun e w' => e = .returned (.bool (Zn ⟨5, aH, index, text, ⟨low, high⟩⟩)) ∧ Below w.heap.size w w' := by
 have HTS := zh (fun h => Zr (t := text) h);obtain ⟨R, hR⟩ : ∃ R, Zn ⟨5, aH, index, text, ⟨low, high⟩⟩ = R := ⟨_, rfl⟩;rw [hR];have HR := zh hR;clear hR;go_enter Tryz.func108, Tryz.ntmps108;go_wp2_with fail
 all_goals go_ret
 all_goals (refine ⟨?_, (Below.refl _ _).alloc (Nat.le_refl _) _⟩; rw [← HR.o])
 all_goals first
  | (simp [Zn, *]; done)
  | (simp only [Zn]; simp [*]; omega)
  | (have h0 := HTS.o (by assumption); simp only [Zn]; simp [*] <;> omega)
theorem Ztc (aH index low high : Int) (text : ByteArray) (w : World) :
  Calls Tryz.prog 108 #[.agg #[.int .i64 (6), .int .i64 aH, .int .i64 index, .string text, .int .i64 low, .int .i64 high]] w fun e w' => e = .returned (.bool (Zn ⟨6, aH, index, text, ⟨low, high⟩⟩)) ∧ Below w.heap.size w w' := by
 have HTS := zh (fun h => Zr (t := text) h);obtain ⟨R, hR⟩ : ∃ R, Zn ⟨6, aH, index, text, ⟨low, high⟩⟩ = R := ⟨_, rfl⟩;rw [hR];have HR := zh hR;clear hR;go_enter Tryz.func108, Tryz.ntmps108;go_wp2_with fail
 all_goals go_ret
 all_goals (refine ⟨?_, (Below.refl _ _).alloc (Nat.le_refl _) _⟩; rw [← HR.o])
 all_goals first
  | (simp [Zn, *]; done)
  | (simp only [Zn]; simp [*]; omega)
  | (have h0 := HTS.o (by assumption); simp only [Zn]; simp [*] <;> omega)
theorem Ztd (aH index low high : Int) (text : ByteArray) (w : World) :
  Calls Tryz.prog 108 #[.agg #[.int .i64 (7), .int .i64 aH, .int .i64 index, .string text, .int .i64 low, .int .i64 high]] w fun e w' => e = .returned (.bool (Zn ⟨7, aH, index, text, ⟨low, high⟩⟩)) ∧ Below w.heap.size w w' := by
 have HTS := zh (fun h => Zr (t := text) h);obtain ⟨R, hR⟩ : ∃ R, Zn ⟨7, aH, index, text, ⟨low, high⟩⟩ = R := ⟨_, rfl⟩;rw [hR];have HR := zh hR;clear hR;go_enter Tryz.func108, Tryz.ntmps108;go_wp2_with fail
 all_goals go_ret
 all_goals (refine ⟨?_, (Below.refl _ _).alloc (Nat.le_refl _) _⟩; rw [← HR.o])
 all_goals first
  | (simp [Zn, *]; done)
  | (simp only [Zn]; simp [*]; omega)
  | (have h0 := HTS.o (by assumption); simp only [Zn]; simp [*] <;> omega)
theorem Zte (aH index low high : Int) (text : ByteArray) (w : World) :
  Calls Tryz.prog 108 #[.agg #[.int .i64 (8), .int .i64 aH, .int .i64 index, .string text, .int .i64 low, .int .i64 high]] w fun e w' => e = .returned (.bool (Zn ⟨8, aH, index, text, ⟨low, high⟩⟩)) ∧ Below w.heap.size w w' := by
 have HTS := zh (fun h => Zr (t := text) h);obtain ⟨R, hR⟩ : ∃ R, Zn ⟨8, aH, index, text, ⟨low, high⟩⟩ = R := ⟨_, rfl⟩;rw [hR];have HR := zh hR;clear hR;go_enter Tryz.func108, Tryz.ntmps108;go_wp2_with fail
 all_goals go_ret
 all_goals (refine ⟨?_, (Below.refl _ _).alloc (Nat.le_refl _) _⟩; rw [← HR.o])
 all_goals first
  | (simp [Zn, *]; done)
  | (simp only [Zn]; simp [*]; omega)
  | (have h0 := HTS.o (by assumption); simp only [Zn]; simp [*] <;> omega)
theorem Ztf (aH index low high : Int) (text : ByteArray) (w : World) :
  Calls Tryz.prog 108 #[.agg #[.int .i64 (9), .int .i64 aH, .int .i64 index, .string text, .int .i64 low, .int .i64 high]] w fun e w' => e = .returned (.bool (Zn ⟨9, aH, index, text, ⟨low, high⟩⟩)) ∧ Below w.heap.size w w' := by
 have HTS := zh (fun h => Zr (t := text) h);obtain ⟨R, hR⟩ : ∃ R, Zn ⟨9, aH, index, text, ⟨low, high⟩⟩ = R := ⟨_, rfl⟩;rw [hR];have HR := zh hR;clear hR;go_enter Tryz.func108, Tryz.ntmps108;go_wp2_with fail
 all_goals go_ret
 all_goals (refine ⟨?_, (Below.refl _ _).alloc (Nat.le_refl _) _⟩; rw [← HR.o])
 all_goals first
  | (simp [Zn, *]; done)
  | (simp only [Zn]; simp [*]; omega)
  | (have h0 := HTS.o (by assumption); simp only [Zn]; simp [*] <;> omega)
theorem Zrc (aH index low high : Int) (text : ByteArray) (w : World) :
  Calls Tryz.prog 108 #[.agg #[.int .i64 (10), .int .i64 aH, .int .i64 index, .string text, .int .i64 low, .int .i64 high]] w fun e w' => e = .returned (.bool (Zn ⟨10, aH, index, text, ⟨low, high⟩⟩)) ∧ Below w.heap.size w w' := by
 have HTS := zh (fun h => Zr (t := text) h);obtain ⟨R, hR⟩ : ∃ R, Zn ⟨10, aH, index, text, ⟨low, high⟩⟩ = R := ⟨_, rfl⟩;rw [hR];have HR := zh hR;clear hR;go_enter Tryz.func108, Tryz.ntmps108;go_wp2_with fail
 all_goals go_ret
 all_goals (refine ⟨?_, (Below.refl _ _).alloc (Nat.le_refl _) _⟩; rw [← HR.o])
 all_goals first
  | (simp [Zn, *]; done)
  | (simp only [Zn]; simp [*]; omega)
  | (have h0 := HTS.o (by assumption); simp only [Zn]; simp [*] <;> omega)
theorem Zrd (aH index low high : Int) (text : ByteArray) (w : World) :
  Calls Tryz.prog 108 #[.agg #[.int .i64 (11), .int .i64 aH, .int .i64 index, .string text, .int .i64 low, .int .i64 high]] w fun e w' => e = .returned (.bool (Zn ⟨11, aH, index, text, ⟨low, high⟩⟩)) ∧ Below w.heap.size w w' := by
 have HTS := zh (fun h => Zr (t := text) h);obtain ⟨R, hR⟩ : ∃ R, Zn ⟨11, aH, index, text, ⟨low, high⟩⟩ = R := ⟨_, rfl⟩;rw [hR];have HR := zh hR;clear hR;go_enter Tryz.func108, Tryz.ntmps108;go_wp2_with fail
 all_goals go_ret
 all_goals (refine ⟨?_, (Below.refl _ _).alloc (Nat.le_refl _) _⟩; rw [← HR.o])
 all_goals first
  | (simp [Zn, *]; done)
  | (simp only [Zn]; simp [*]; omega)
  | (have h0 := HTS.o (by assumption); simp only [Zn]; simp [*] <;> omega)
theorem Zre (aH index low high : Int) (text : ByteArray) (w : World) :
  Calls Tryz.prog 108 #[.agg #[.int .i64 (12), .int .i64 aH, .int .i64 index, .string text, .int .i64 low, .int .i64 high]] w fun e w' => e = .returned (.bool (Zn ⟨12, aH, index, text, ⟨low, high⟩⟩)) ∧ Below w.heap.size w w' := by
 have HTS := zh (fun h => Zr (t := text) h);obtain ⟨R, hR⟩ : ∃ R, Zn ⟨12, aH, index, text, ⟨low, high⟩⟩ = R := ⟨_, rfl⟩;rw [hR];have HR := zh hR;clear hR;go_enter Tryz.func108, Tryz.ntmps108;go_wp2_with fail
 all_goals go_ret
 all_goals (refine ⟨?_, (Below.refl _ _).alloc (Nat.le_refl _) _⟩; rw [← HR.o])
 all_goals first
  | (simp [Zn, *]; done)
  | (simp only [Zn]; simp [*]; omega)
  | (have h0 := HTS.o (by assumption); simp only [Zn]; simp [*] <;> omega)
theorem Zrf (aH index low high : Int) (text : ByteArray) (w : World) :
  Calls Tryz.prog 108 #[.agg #[.int .i64 (13), .int .i64 aH, .int .i64 index, .string text, .int .i64 low, .int .i64 high]] w fun e w' => e = .returned (.bool (Zn ⟨13, aH, index, text, ⟨low, high⟩⟩)) ∧ Below w.heap.size w w' := by
 have HTS := zh (fun h => Zr (t := text) h);obtain ⟨R, hR⟩ : ∃ R, Zn ⟨13, aH, index, text, ⟨low, high⟩⟩ = R := ⟨_, rfl⟩;rw [hR];have HR := zh hR;clear hR;go_enter Tryz.func108, Tryz.ntmps108;go_wp2_with fail
 all_goals go_ret
 all_goals (refine ⟨?_, (Below.refl _ _).alloc (Nat.le_refl _) _⟩; rw [← HR.o])
 all_goals first
  | (simp [Zn, *]; done)
  | (simp only [Zn]; simp [*]; omega)
  | (have h0 := HTS.o (by assumption); simp only [Zn]; simp [*] <;> omega)
theorem Zrg (aH index low high : Int) (text : ByteArray) (w : World) :
  Calls Tryz.prog 108 #[.agg #[.int .i64 (14), .int .i64 aH, .int .i64 index, .string text, .int .i64 low, .int .i64 high]] w fun e w' => e = .returned (.bool (Zn ⟨14, aH, index, text, ⟨low, high⟩⟩)) ∧ Below w.heap.size w w' := by
 have HTS := zh (fun h => Zr (t := text) h);obtain ⟨R, hR⟩ : ∃ R, Zn ⟨14, aH, index, text, ⟨low, high⟩⟩ = R := ⟨_, rfl⟩;rw [hR];have HR := zh hR;clear hR;go_enter Tryz.func108, Tryz.ntmps108;go_wp2_with fail
 all_goals go_ret
 all_goals (refine ⟨?_, (Below.refl _ _).alloc (Nat.le_refl _) _⟩; rw [← HR.o])
 all_goals first
  | (simp [Zn, *]; done)
  | (simp only [Zn]; simp [*]; omega)
  | (have h0 := HTS.o (by assumption); simp only [Zn]; simp [*] <;> omega)
theorem Zrh (aH index low high : Int) (text : ByteArray) (w : World) :
  Calls Tryz.prog 108 #[.agg #[.int .i64 (15), .int .i64 aH, .int .i64 index, .string text, .int .i64 low, .int .i64 high]] w fun e w' => e = .returned (.bool (Zn ⟨15, aH, index, text, ⟨low, high⟩⟩)) ∧ Below w.heap.size w w' := by
 have HTS := zh (fun h => Zr (t := text) h);obtain ⟨R, hR⟩ : ∃ R, Zn ⟨15, aH, index, text, ⟨low, high⟩⟩ = R := ⟨_, rfl⟩;rw [hR];have HR := zh hR;clear hR;go_enter Tryz.func108, Tryz.ntmps108;go_wp2_with fail
 all_goals go_ret
 all_goals (refine ⟨?_, (Below.refl _ _).alloc (Nat.le_refl _) _⟩; rw [← HR.o])
 all_goals first
  | (simp [Zn, *]; done)
  | (simp only [Zn]; simp [*]; omega)
  | (have h0 := HTS.o (by assumption); simp only [Zn]; simp [*] <;> omega)
theorem Zri (aH index low high : Int) (text : ByteArray) (w : World) :
  Calls Tryz.prog 108 #[.agg #[.int .i64 (16), .int .i64 aH, .int .i64 index, .string text, .int .i64 low, .int .i64 high]] w fun e w' => e = .returned (.bool (Zn ⟨16, aH, index, text, ⟨low, high⟩⟩)) ∧ Below w.heap.size w w' := by
 have HTS := zh (fun h => Zr (t := text) h);obtain ⟨R, hR⟩ : ∃ R, Zn ⟨16, aH, index, text, ⟨low, high⟩⟩ = R := ⟨_, rfl⟩;rw [hR];have HR := zh hR;clear hR;go_enter Tryz.func108, Tryz.ntmps108;go_wp2_with fail
 all_goals go_ret
 all_goals (refine ⟨?_, (Below.refl _ _).alloc (Nat.le_refl _) _⟩; rw [← HR.o])
 all_goals first
  | (simp [Zn, *]; done)
  | (simp only [Zn]; simp [*]; omega)
  | (have h0 := HTS.o (by assumption); simp only [Zn]; simp [*] <;> omega)
theorem Zrj (aH index low high : Int) (text : ByteArray) (w : World) :
  Calls Tryz.prog 108 #[.agg #[.int .i64 (17), .int .i64 aH, .int .i64 index, .string text, .int .i64 low, .int .i64 high]] w fun e w' => e = .returned (.bool (Zn ⟨17, aH, index, text, ⟨low, high⟩⟩)) ∧ Below w.heap.size w w' := by
 have HTS := zh (fun h => Zr (t := text) h);obtain ⟨R, hR⟩ : ∃ R, Zn ⟨17, aH, index, text, ⟨low, high⟩⟩ = R := ⟨_, rfl⟩;rw [hR];have HR := zh hR;clear hR;go_enter Tryz.func108, Tryz.ntmps108;go_wp2_with fail
 all_goals go_ret
 all_goals (refine ⟨?_, (Below.refl _ _).alloc (Nat.le_refl _) _⟩; rw [← HR.o])
 all_goals first
  | (simp [Zn, *]; done)
  | (simp only [Zn]; simp [*]; omega)
  | (have h0 := HTS.o (by assumption); simp only [Zn]; simp [*] <;> omega)
theorem Zrk (aH index low high : Int) (text : ByteArray) (w : World) :
  Calls Tryz.prog 108 #[.agg #[.int .i64 (18), .int .i64 aH, .int .i64 index, .string text, .int .i64 low, .int .i64 high]] w fun e w' => e = .returned (.bool (Zn ⟨18, aH, index, text, ⟨low, high⟩⟩)) ∧ Below w.heap.size w w' := by
 have HTS := zh (fun h => Zr (t := text) h);obtain ⟨R, hR⟩ : ∃ R, Zn ⟨18, aH, index, text, ⟨low, high⟩⟩ = R := ⟨_, rfl⟩;rw [hR];have HR := zh hR;clear hR;go_enter Tryz.func108, Tryz.ntmps108;go_wp2_with fail
 all_goals go_ret
 all_goals (refine ⟨?_, (Below.refl _ _).alloc (Nat.le_refl _) _⟩; rw [← HR.o])
 all_goals first
  | (simp [Zn, *]; done)
  | (simp only [Zn]; simp [*]; omega)
  | (have h0 := HTS.o (by assumption); simp only [Zn]; simp [*] <;> omega)
theorem Zrl (aH index low high : Int) (text : ByteArray) (w : World) :
  Calls Tryz.prog 108 #[.agg #[.int .i64 (19), .int .i64 aH, .int .i64 index, .string text, .int .i64 low, .int .i64 high]] w fun e w' => e = .returned (.bool (Zn ⟨19, aH, index, text, ⟨low, high⟩⟩)) ∧ Below w.heap.size w w' := by
 have HTS := zh (fun h => Zr (t := text) h);obtain ⟨R, hR⟩ : ∃ R, Zn ⟨19, aH, index, text, ⟨low, high⟩⟩ = R := ⟨_, rfl⟩;rw [hR];have HR := zh hR;clear hR;go_enter Tryz.func108, Tryz.ntmps108;go_wp2_with fail
 all_goals go_ret
 all_goals (refine ⟨?_, (Below.refl _ _).alloc (Nat.le_refl _) _⟩; rw [← HR.o])
 all_goals first
  | (simp [Zn, *]; done)
  | (simp only [Zn]; simp [*]; omega)
  | (have h0 := HTS.o (by assumption); simp only [Zn]; simp [*] <;> omega)
theorem Zrm (aH index low high : Int) (text : ByteArray) (w : World) :
  Calls Tryz.prog 108 #[.agg #[.int .i64 (20), .int .i64 aH, .int .i64 index, .string text, .int .i64 low, .int .i64 high]] w fun e w' => e = .returned (.bool (Zn ⟨20, aH, index, text, ⟨low, high⟩⟩)) ∧ Below w.heap.size w w' := by
 have HTS := zh (fun h => Zr (t := text) h);obtain ⟨R, hR⟩ : ∃ R, Zn ⟨20, aH, index, text, ⟨low, high⟩⟩ = R := ⟨_, rfl⟩;rw [hR];have HR := zh hR;clear hR;go_enter Tryz.func108, Tryz.ntmps108;go_wp2_with fail
 all_goals go_ret
 all_goals (refine ⟨?_, (Below.refl _ _).alloc (Nat.le_refl _) _⟩; rw [← HR.o])
 all_goals first
  | (simp [Zn, *]; done)
  | (simp only [Zn]; simp [*]; omega)
  | (have h0 := HTS.o (by assumption); simp only [Zn]; simp [*] <;> omega)
theorem Zpr (kind aH index low high : Int) (text : ByteArray) (w : World) (hk : kind < 0) :
  Calls Tryz.prog 108 #[.agg #[.int .i64 (kind), .int .i64 aH, .int .i64 index, .string text, .int .i64 low, .int .i64 high]] w fun e w' => e = .returned (.bool (Zn ⟨kind, aH, index, text, ⟨low, high⟩⟩)) ∧ Below w.heap.size w w' := by
 have HTS := zh (fun h => Zr (t := text) h);obtain ⟨R, hR⟩ : ∃ R, Zn ⟨kind, aH, index, text, ⟨low, high⟩⟩ = R := ⟨_, rfl⟩;rw [hR];have HR := zh hR;clear hR;have t0 : (kind == 0) = false := by rw [nH]; omega
 have t1 : (kind == 1) = false := by rw [nH]; omega
 have t2 : (kind == 2) = false := by rw [nH]; omega
 have t3 : (kind == 3) = false := by rw [nH]; omega
 have t4 : (kind == 4) = false := by rw [nH]; omega
 have t5 : (kind == 5) = false := by rw [nH]; omega
 have t6 : (kind == 6) = false := by rw [nH]; omega
 have t7 : (kind == 7) = false := by rw [nH]; omega
 have t8 : (kind == 8) = false := by rw [nH]; omega
 have t9 : (kind == 9) = false := by rw [nH]; omega
 have t10 : (kind == 10) = false := by rw [nH]; omega
 have t11 : (kind == 11) = false := by rw [nH]; omega
 have t12 : (kind == 12) = false := by rw [nH]; omega
 have t13 : (kind == 13) = false := by rw [nH]; omega
 have t14 : (kind == 14) = false := by rw [nH]; omega
 have t15 : (kind == 15) = false := by rw [nH]; omega
 have t16 : (kind == 16) = false := by rw [nH]; omega
 have t17 : (kind == 17) = false := by rw [nH]; omega
 have t18 : (kind == 18) = false := by rw [nH]; omega
 have t19 : (kind == 19) = false := by rw [nH]; omega
 have t20 : (kind == 20) = false := by rw [nH]; omega
 have HK := zh (show kind < 0 ∨ 20 < kind by omega);have s1 : decide (kind < 0) = true := by simp; omega
 have s2 : decide ((20 : Int) < kind) = false := by simp; omega
 clear hk;go_enter Tryz.func108, Tryz.ntmps108;go_wp2_with fail
 all_goals go_ret
 all_goals (refine ⟨?_, (Below.refl _ _).alloc (Nat.le_refl _) _⟩; rw [← HR.o])
 all_goals first
  | (simp [Zn, *]; done)
  | (have h0 := HK.o; simp only [Zn]; rw [if_neg (by omega), if_neg (by omega), if_neg (by omega), if_neg (by omega), if_neg (by omega), if_neg (by omega), if_neg (by omega), if_neg (by omega)]; first | done | rfl | simp)
theorem Zps (kind aH index low high : Int) (text : ByteArray) (w : World) (hk : 20 < kind) :
  Calls Tryz.prog 108 #[.agg #[.int .i64 (kind), .int .i64 aH, .int .i64 index, .string text, .int .i64 low, .int .i64 high]] w fun e w' => e = .returned (.bool (Zn ⟨kind, aH, index, text, ⟨low, high⟩⟩)) ∧ Below w.heap.size w w' := by
 have HTS := zh (fun h => Zr (t := text) h);obtain ⟨R, hR⟩ : ∃ R, Zn ⟨kind, aH, index, text, ⟨low, high⟩⟩ = R := ⟨_, rfl⟩;rw [hR];have HR := zh hR;clear hR;have t0 : (kind == 0) = false := by rw [nH]; omega
 have t1 : (kind == 1) = false := by rw [nH]; omega
 have t2 : (kind == 2) = false := by rw [nH]; omega
 have t3 : (kind == 3) = false := by rw [nH]; omega
 have t4 : (kind == 4) = false := by rw [nH]; omega
 have t5 : (kind == 5) = false := by rw [nH]; omega
 have t6 : (kind == 6) = false := by rw [nH]; omega
 have t7 : (kind == 7) = false := by rw [nH]; omega
 have t8 : (kind == 8) = false := by rw [nH]; omega
 have t9 : (kind == 9) = false := by rw [nH]; omega
 have t10 : (kind == 10) = false := by rw [nH]; omega
 have t11 : (kind == 11) = false := by rw [nH]; omega
 have t12 : (kind == 12) = false := by rw [nH]; omega
 have t13 : (kind == 13) = false := by rw [nH]; omega
 have t14 : (kind == 14) = false := by rw [nH]; omega
 have t15 : (kind == 15) = false := by rw [nH]; omega
 have t16 : (kind == 16) = false := by rw [nH]; omega
 have t17 : (kind == 17) = false := by rw [nH]; omega
 have t18 : (kind == 18) = false := by rw [nH]; omega
 have t19 : (kind == 19) = false := by rw [nH]; omega
 have t20 : (kind == 20) = false := by rw [nH]; omega
 have HK := zh (show kind < 0 ∨ 20 < kind by omega);have s1 : decide (kind < 0) = false := by simp; omega
 have s2 : decide ((20 : Int) < kind) = true := by simp; omega
 clear hk;go_enter Tryz.func108, Tryz.ntmps108;go_wp2_with fail
 all_goals go_ret
 all_goals (refine ⟨?_, (Below.refl _ _).alloc (Nat.le_refl _) _⟩; rw [← HR.o])
 all_goals first
  | (simp [Zn, *]; done)
  | (have h0 := HK.o; simp only [Zn]; rw [if_neg (by omega), if_neg (by omega), if_neg (by omega), if_neg (by omega), if_neg (by omega), if_neg (by omega), if_neg (by omega), if_neg (by omega)]; first | done | rfl | simp)
theorem Zu (v : Zd) (cs : List Value) (F : Nat → Prop) (w : World) (h : Zg F w v cs) :
  Calls Tryz.prog 108 #[.agg cs.toArray] w fun e w' => e = .returned (.bool (Zn v)) ∧ Below w.heap.size w w' := by
 obtain ⟨rfl, _⟩ := h;obtain ⟨kind, aH, index, text, low, high⟩ := v;have hk : kind = 0 ∨ kind = 1 ∨ kind = 2 ∨ kind = 3 ∨ kind = 4 ∨ kind = 5 ∨ kind = 6 ∨ kind = 7 ∨ kind = 8 ∨ kind = 9 ∨ kind = 10 ∨ kind = 11 ∨ kind = 12 ∨ kind = 13 ∨ kind = 14 ∨ kind = 15 ∨ kind = 16 ∨ kind = 17 ∨ kind = 18 ∨ kind = 19 ∨ kind = 20 ∨ kind < 0 ∨ 20 < kind := by omega
 rcases hk with rfl | rfl | rfl | rfl | rfl | rfl | rfl | rfl | rfl | rfl | rfl | rfl | rfl | rfl | rfl | rfl | rfl | rfl | rfl | rfl | rfl | hk
 ·exact Zs6 aH index low high text w
 ·exact Zs7 aH index low high text w
 ·exact Zs8 aH index low high text w
 ·exact Zs9 aH index low high text w
 ·exact Zta aH index low high text w
 ·exact Ztb aH index low high text w
 ·exact Ztc aH index low high text w
 ·exact Ztd aH index low high text w
 ·exact Zte aH index low high text w
 ·exact Ztf aH index low high text w
 ·exact Zrc aH index low high text w
 ·exact Zrd aH index low high text w
 ·exact Zre aH index low high text w
 ·exact Zrf aH index low high text w
 ·exact Zrg aH index low high text w
 ·exact Zrh aH index low high text w
 ·exact Zri aH index low high text w
 ·exact Zrj aH index low high text w
 ·exact Zrk aH index low high text w
 ·exact Zrl aH index low high text w
 ·exact Zrm aH index low high text w
 ·rcases hk with hk | hk
  ·exact Zpr kind aH index low high text w hk
  ·exact Zps kind aH index low high text w hk
end Go.Proofs.YtpmhelkiicigfaaGreatDoor
namespace Go.Proofs.YtpmhelkiicigfaaGreatDoor
open Go.RowKit
variable {P : Program} {ops : Array Oper} {Q : Exit → Act → World → Prop}
end Go.Proofs.YtpmhelkiicigfaaGreatDoor
namespace Go.Proofs.YtpmhelkiicigfaaGreatDoor
open Go.RowKit
theorem Zux (r : Zf) (B : Nat) (cs : List Value) (F : Nat → Prop) (w : World) (aH index low high : Int) (text : ByteArray) (h : Z3 F w B r cs) (hv : Zg F w ⟨0, aH, index, text, ⟨low, high⟩⟩ [.int .i64 0, .int .i64 aH, .int .i64 index, .string text, .int .i64 low, .int .i64 high]) :
  Calls Tryz.prog 52 #[.pointer (some ⟨B, 0, none⟩), .agg #[.int .i64 0, .int .i64 aH, .int .i64 index, .string text, .int .i64 low, .int .i64 high]] w fun e w' => e = .returned (.bool (Zj r ⟨0, aH, index, text, ⟨low, high⟩⟩)) ∧ Below w.heap.size w w' := by
 have HWF := zh (fun x => Zu ⟨0, aH, index, text, ⟨low, high⟩⟩ _ F x (show Zg F x _ _ from hv));have hin : Zy aH ∧ Zy index := ⟨hv.2.2.1, hv.2.2.2.1⟩;have HST := zh (h.later ((Za.refl w).alloc (.cells #[.int .i64 0, .int .i64 aH, .int .i64 index, .string text, .int .i64 low, .int .i64 high] 34)));have HM := zh (heap_alloc_new w (.cells #[.int .i64 0, .int .i64 aH, .int .i64 index, .string text, .int .i64 low, .int .i64 high] 34));have HB := zh ((Below.refl w.heap.size w).alloc (Nat.le_refl _) (.cells #[.int .i64 0, .int .i64 aH, .int .i64 index, .string text, .int .i64 low, .int .i64 high] 34));obtain ⟨p, hp⟩ : ∃ p, Zn ⟨0, aH, index, text, ⟨low, high⟩⟩ = p := ⟨_, rfl⟩;obtain ⟨R, hR⟩ : ∃ R, Zj r ⟨0, aH, index, text, ⟨low, high⟩⟩ = R := ⟨_, rfl⟩;rw [hR];rw [hp] at HWF;unfold Zj at hR;rw [hp] at hR;clear h hv;have HP := zh hp;clear hp
 cases p with
 | false =>
  have HR := zh (show R = false from hR.symm);clear hR;go_enter Tryz.func52, Tryz.ntmps52;go_wp2_with fail;refine (HWF.o _).mono ?_;rintro e w2 ⟨rfl, hb2⟩;have HB2 := zh (HB.o.trans (Below.mono hb2 HB.o.size));clear hb2;go_wp2_with fail;go_ret;exact ⟨Z0 HR.o.symm, HB2.o⟩
 | true =>
  rw [Bool.true_and] at hR;have HR := zh (show R = true from by rw [← hR]; simp [Zbi, Zbf]);clear hR;go_enter Tryz.func52, Tryz.ntmps52;go_wp2_with fail;refine (HWF.o _).mono ?_;rintro e w2 ⟨rfl, hb2⟩;replace HST := zh (HST.o.later hb2);replace HM := zC hb2 HM;replace HB := zh (HB.o.trans (Below.mono hb2 HB.o.size));clear hb2;have m0 := cz3 HM.o;go_wp2_with fail;go_ret;exact ⟨Z0 HR.o.symm, HB.o⟩
theorem Zuy (r : Zf) (B : Nat) (cs : List Value) (F : Nat → Prop) (w : World) (aH index low high : Int) (text : ByteArray) (h : Z3 F w B r cs) (hv : Zg F w ⟨1, aH, index, text, ⟨low, high⟩⟩ [.int .i64 1, .int .i64 aH, .int .i64 index, .string text, .int .i64 low, .int .i64 high]) :
  Calls Tryz.prog 52 #[.pointer (some ⟨B, 0, none⟩), .agg #[.int .i64 1, .int .i64 aH, .int .i64 index, .string text, .int .i64 low, .int .i64 high]] w fun e w' => e = .returned (.bool (Zj r ⟨1, aH, index, text, ⟨low, high⟩⟩)) ∧ Below w.heap.size w w' := by
 have HWF := zh (fun x => Zu ⟨1, aH, index, text, ⟨low, high⟩⟩ _ F x (show Zg F x _ _ from hv));have hin : Zy aH ∧ Zy index := ⟨hv.2.2.1, hv.2.2.2.1⟩;have HST := zh (h.later ((Za.refl w).alloc (.cells #[.int .i64 1, .int .i64 aH, .int .i64 index, .string text, .int .i64 low, .int .i64 high] 34)));have HM := zh (heap_alloc_new w (.cells #[.int .i64 1, .int .i64 aH, .int .i64 index, .string text, .int .i64 low, .int .i64 high] 34));have HB := zh ((Below.refl w.heap.size w).alloc (Nat.le_refl _) (.cells #[.int .i64 1, .int .i64 aH, .int .i64 index, .string text, .int .i64 low, .int .i64 high] 34));obtain ⟨p, hp⟩ : ∃ p, Zn ⟨1, aH, index, text, ⟨low, high⟩⟩ = p := ⟨_, rfl⟩;obtain ⟨R, hR⟩ : ∃ R, Zj r ⟨1, aH, index, text, ⟨low, high⟩⟩ = R := ⟨_, rfl⟩;rw [hR];rw [hp] at HWF;unfold Zj at hR;rw [hp] at hR;clear h hv;have HP := zh hp;clear hp
 cases p with
 | false =>
  have HR := zh (show R = false from hR.symm);clear hR;go_enter Tryz.func52, Tryz.ntmps52;go_wp2_with fail;refine (HWF.o _).mono ?_;rintro e w2 ⟨rfl, hb2⟩;have HB2 := zh (HB.o.trans (Below.mono hb2 HB.o.size));clear hb2;go_wp2_with fail;go_ret;exact ⟨Z0 HR.o.symm, HB2.o⟩
 | true =>
  rw [Bool.true_and] at hR;have HR := zh (show R = true from by rw [← hR]; simp [Zbi, Zbf]);clear hR;go_enter Tryz.func52, Tryz.ntmps52;go_wp2_with fail;refine (HWF.o _).mono ?_;rintro e w2 ⟨rfl, hb2⟩;replace HST := zh (HST.o.later hb2);replace HM := zC hb2 HM;replace HB := zh (HB.o.trans (Below.mono hb2 HB.o.size));clear hb2;have m0 := cz3 HM.o;go_wp2_with fail;go_ret;exact ⟨Z0 HR.o.symm, HB.o⟩
theorem Zuz (r : Zf) (B : Nat) (cs : List Value) (F : Nat → Prop) (w : World) (aH index low high : Int) (text : ByteArray) (h : Z3 F w B r cs) (hv : Zg F w ⟨2, aH, index, text, ⟨low, high⟩⟩ [.int .i64 2, .int .i64 aH, .int .i64 index, .string text, .int .i64 low, .int .i64 high]) :
  Calls Tryz.prog 52 #[.pointer (some ⟨B, 0, none⟩), .agg #[.int .i64 2, .int .i64 aH, .int .i64 index, .string text, .int .i64 low, .int .i64 high]] w fun e w' => e = .returned (.bool (Zj r ⟨2, aH, index, text, ⟨low, high⟩⟩)) ∧ Below w.heap.size w w' := by
 have HWF := zh (fun x => Zu ⟨2, aH, index, text, ⟨low, high⟩⟩ _ F x (show Zg F x _ _ from hv));have hin : Zy aH ∧ Zy index := ⟨hv.2.2.1, hv.2.2.2.1⟩;have HST := zh (h.later ((Za.refl w).alloc (.cells #[.int .i64 2, .int .i64 aH, .int .i64 index, .string text, .int .i64 low, .int .i64 high] 34)));have HM := zh (heap_alloc_new w (.cells #[.int .i64 2, .int .i64 aH, .int .i64 index, .string text, .int .i64 low, .int .i64 high] 34));have HB := zh ((Below.refl w.heap.size w).alloc (Nat.le_refl _) (.cells #[.int .i64 2, .int .i64 aH, .int .i64 index, .string text, .int .i64 low, .int .i64 high] 34));obtain ⟨p, hp⟩ : ∃ p, Zn ⟨2, aH, index, text, ⟨low, high⟩⟩ = p := ⟨_, rfl⟩;obtain ⟨R, hR⟩ : ∃ R, Zj r ⟨2, aH, index, text, ⟨low, high⟩⟩ = R := ⟨_, rfl⟩;rw [hR];rw [hp] at HWF;unfold Zj at hR;rw [hp] at hR;clear h hv;have HP := zh hp;clear hp
 cases p with
 | false =>
  have HR := zh (show R = false from hR.symm);clear hR;go_enter Tryz.func52, Tryz.ntmps52;go_wp2_with fail;refine (HWF.o _).mono ?_;rintro e w2 ⟨rfl, hb2⟩;have HB2 := zh (HB.o.trans (Below.mono hb2 HB.o.size));clear hb2;go_wp2_with fail;go_ret;exact ⟨Z0 HR.o.symm, HB2.o⟩
 | true =>
  rw [Bool.true_and] at hR;have HR := zh (show R = true from by rw [← hR]; simp [Zbi, Zbf]);clear hR;go_enter Tryz.func52, Tryz.ntmps52;go_wp2_with fail;refine (HWF.o _).mono ?_;rintro e w2 ⟨rfl, hb2⟩;replace HST := zh (HST.o.later hb2);replace HM := zC hb2 HM;replace HB := zh (HB.o.trans (Below.mono hb2 HB.o.size));clear hb2;have m0 := cz3 HM.o;go_wp2_with fail;go_ret;exact ⟨Z0 HR.o.symm, HB.o⟩
theorem Zu0 (r : Zf) (B : Nat) (cs : List Value) (F : Nat → Prop) (w : World) (aH index low high : Int) (text : ByteArray) (h : Z3 F w B r cs) (hv : Zg F w ⟨3, aH, index, text, ⟨low, high⟩⟩ [.int .i64 3, .int .i64 aH, .int .i64 index, .string text, .int .i64 low, .int .i64 high]) :
  Calls Tryz.prog 52 #[.pointer (some ⟨B, 0, none⟩), .agg #[.int .i64 3, .int .i64 aH, .int .i64 index, .string text, .int .i64 low, .int .i64 high]] w fun e w' => e = .returned (.bool (Zj r ⟨3, aH, index, text, ⟨low, high⟩⟩)) ∧ Below w.heap.size w w' := by
 have HWF := zh (fun x => Zu ⟨3, aH, index, text, ⟨low, high⟩⟩ _ F x (show Zg F x _ _ from hv));have hin : Zy aH ∧ Zy index := ⟨hv.2.2.1, hv.2.2.2.1⟩;have HST := zh (h.later ((Za.refl w).alloc (.cells #[.int .i64 3, .int .i64 aH, .int .i64 index, .string text, .int .i64 low, .int .i64 high] 34)));have HM := zh (heap_alloc_new w (.cells #[.int .i64 3, .int .i64 aH, .int .i64 index, .string text, .int .i64 low, .int .i64 high] 34));have HB := zh ((Below.refl w.heap.size w).alloc (Nat.le_refl _) (.cells #[.int .i64 3, .int .i64 aH, .int .i64 index, .string text, .int .i64 low, .int .i64 high] 34));obtain ⟨p, hp⟩ : ∃ p, Zn ⟨3, aH, index, text, ⟨low, high⟩⟩ = p := ⟨_, rfl⟩;obtain ⟨R, hR⟩ : ∃ R, Zj r ⟨3, aH, index, text, ⟨low, high⟩⟩ = R := ⟨_, rfl⟩;rw [hR];rw [hp] at HWF;unfold Zj at hR;rw [hp] at hR;clear h hv;have HP := zh hp;clear hp
 cases p with
 | false =>
  have HR := zh (show R = false from hR.symm);clear hR;go_enter Tryz.func52, Tryz.ntmps52;go_wp2_with fail;refine (HWF.o _).mono ?_;rintro e w2 ⟨rfl, hb2⟩;have HB2 := zh (HB.o.trans (Below.mono hb2 HB.o.size));clear hb2;go_wp2_with fail;go_ret;exact ⟨Z0 HR.o.symm, HB2.o⟩
 | true =>
  rw [Bool.true_and] at hR;have HR := zh (show R = true from by rw [← hR]; simp [Zbi, Zbf]);clear hR;go_enter Tryz.func52, Tryz.ntmps52;go_wp2_with fail;refine (HWF.o _).mono ?_;rintro e w2 ⟨rfl, hb2⟩;replace HST := zh (HST.o.later hb2);replace HM := zC hb2 HM;replace HB := zh (HB.o.trans (Below.mono hb2 HB.o.size));clear hb2;have m0 := cz3 HM.o;go_wp2_with fail;go_ret;exact ⟨Z0 HR.o.symm, HB.o⟩
theorem Zu1 (r : Zf) (B : Nat) (cs : List Value) (F : Nat → Prop) (w : World) (aH index low high : Int) (text : ByteArray) (h : Z3 F w B r cs) (hv : Zg F w ⟨4, aH, index, text, ⟨low, high⟩⟩ [.int .i64 4, .int .i64 aH, .int .i64 index, .string text, .int .i64 low, .int .i64 high]) :
  Calls Tryz.prog 52 #[.pointer (some ⟨B, 0, none⟩), .agg #[.int .i64 4, .int .i64 aH, .int .i64 index, .string text, .int .i64 low, .int .i64 high]] w fun e w' => e = .returned (.bool (Zj r ⟨4, aH, index, text, ⟨low, high⟩⟩)) ∧ Below w.heap.size w w' := by
 have HWF := zh (fun x => Zu ⟨4, aH, index, text, ⟨low, high⟩⟩ _ F x (show Zg F x _ _ from hv));have hin : Zy aH ∧ Zy index := ⟨hv.2.2.1, hv.2.2.2.1⟩;have HST := zh (h.later ((Za.refl w).alloc (.cells #[.int .i64 4, .int .i64 aH, .int .i64 index, .string text, .int .i64 low, .int .i64 high] 34)));have HM := zh (heap_alloc_new w (.cells #[.int .i64 4, .int .i64 aH, .int .i64 index, .string text, .int .i64 low, .int .i64 high] 34));have HB := zh ((Below.refl w.heap.size w).alloc (Nat.le_refl _) (.cells #[.int .i64 4, .int .i64 aH, .int .i64 index, .string text, .int .i64 low, .int .i64 high] 34));obtain ⟨p, hp⟩ : ∃ p, Zn ⟨4, aH, index, text, ⟨low, high⟩⟩ = p := ⟨_, rfl⟩;obtain ⟨R, hR⟩ : ∃ R, Zj r ⟨4, aH, index, text, ⟨low, high⟩⟩ = R := ⟨_, rfl⟩;rw [hR];rw [hp] at HWF;unfold Zj at hR;rw [hp] at hR;clear h hv;have HP := zh hp;clear hp
 cases p with
 | false =>
  have HR := zh (show R = false from hR.symm);clear hR;go_enter Tryz.func52, Tryz.ntmps52;go_wp2_with fail;refine (HWF.o _).mono ?_;rintro e w2 ⟨rfl, hb2⟩;have HB2 := zh (HB.o.trans (Below.mono hb2 HB.o.size));clear hb2;go_wp2_with fail;go_ret;exact ⟨Z0 HR.o.symm, HB2.o⟩
 | true =>
  rw [Bool.true_and] at hR;have HR := zh (show R = Za9 r aH 2 from by rw [← hR]; simp [Zbi, Zbf]);clear hR;go_enter Tryz.func52, Tryz.ntmps52;go_wp2_with fail;refine (HWF.o _).mono ?_;rintro e w2 ⟨rfl, hb2⟩;replace HST := zh (HST.o.later hb2);replace HM := zC hb2 HM;replace HB := zh (HB.o.trans (Below.mono hb2 HB.o.size));clear hb2;have m0 := cz3 HM.o;go_wp2_with fail;refine (Za2 r B cs F w2 aH 2 HST.o).mono ?_;rintro e w3 ⟨rfl, rfl⟩;go_wp2_with fail;go_ret;exact ⟨Z0 HR.o.symm, HB.o⟩
theorem Zu2 (r : Zf) (B : Nat) (cs : List Value) (F : Nat → Prop) (w : World) (aH index low high : Int) (text : ByteArray) (h : Z3 F w B r cs) (hv : Zg F w ⟨5, aH, index, text, ⟨low, high⟩⟩ [.int .i64 5, .int .i64 aH, .int .i64 index, .string text, .int .i64 low, .int .i64 high]) :
  Calls Tryz.prog 52 #[.pointer (some ⟨B, 0, none⟩), .agg #[.int .i64 5, .int .i64 aH, .int .i64 index, .string text, .int .i64 low, .int .i64 high]] w fun e w' => e = .returned (.bool (Zj r ⟨5, aH, index, text, ⟨low, high⟩⟩)) ∧ Below w.heap.size w w' := by
 have HWF := zh (fun x => Zu ⟨5, aH, index, text, ⟨low, high⟩⟩ _ F x (show Zg F x _ _ from hv));have hin : Zy aH ∧ Zy index := ⟨hv.2.2.1, hv.2.2.2.1⟩;have HST := zh (h.later ((Za.refl w).alloc (.cells #[.int .i64 5, .int .i64 aH, .int .i64 index, .string text, .int .i64 low, .int .i64 high] 34)));have HM := zh (heap_alloc_new w (.cells #[.int .i64 5, .int .i64 aH, .int .i64 index, .string text, .int .i64 low, .int .i64 high] 34));have HB := zh ((Below.refl w.heap.size w).alloc (Nat.le_refl _) (.cells #[.int .i64 5, .int .i64 aH, .int .i64 index, .string text, .int .i64 low, .int .i64 high] 34));obtain ⟨p, hp⟩ : ∃ p, Zn ⟨5, aH, index, text, ⟨low, high⟩⟩ = p := ⟨_, rfl⟩;obtain ⟨R, hR⟩ : ∃ R, Zj r ⟨5, aH, index, text, ⟨low, high⟩⟩ = R := ⟨_, rfl⟩;rw [hR];rw [hp] at HWF;unfold Zj at hR;rw [hp] at hR;clear h hv;have HP := zh hp;clear hp
 cases p with
 | false =>
  have HR := zh (show R = false from hR.symm);clear hR;go_enter Tryz.func52, Tryz.ntmps52;go_wp2_with fail;refine (HWF.o _).mono ?_;rintro e w2 ⟨rfl, hb2⟩;have HB2 := zh (HB.o.trans (Below.mono hb2 HB.o.size));clear hb2;go_wp2_with fail;go_ret;exact ⟨Z0 HR.o.symm, HB2.o⟩
 | true =>
  rw [Bool.true_and] at hR;have HR := zh (show R = Za9 r aH 3 from by rw [← hR]; simp [Zbi, Zbf]);clear hR;go_enter Tryz.func52, Tryz.ntmps52;go_wp2_with fail;refine (HWF.o _).mono ?_;rintro e w2 ⟨rfl, hb2⟩;replace HST := zh (HST.o.later hb2);replace HM := zC hb2 HM;replace HB := zh (HB.o.trans (Below.mono hb2 HB.o.size));clear hb2;have m0 := cz3 HM.o;go_wp2_with fail;refine (Za2 r B cs F w2 aH 3 HST.o).mono ?_;rintro e w3 ⟨rfl, rfl⟩;go_wp2_with fail;go_ret;exact ⟨Z0 HR.o.symm, HB.o⟩
theorem Zu3 (r : Zf) (B : Nat) (cs : List Value) (F : Nat → Prop) (w : World) (aH index low high : Int) (text : ByteArray) (h : Z3 F w B r cs) (hv : Zg F w ⟨6, aH, index, text, ⟨low, high⟩⟩ [.int .i64 6, .int .i64 aH, .int .i64 index, .string text, .int .i64 low, .int .i64 high]) :
  Calls Tryz.prog 52 #[.pointer (some ⟨B, 0, none⟩), .agg #[.int .i64 6, .int .i64 aH, .int .i64 index, .string text, .int .i64 low, .int .i64 high]] w fun e w' => e = .returned (.bool (Zj r ⟨6, aH, index, text, ⟨low, high⟩⟩)) ∧ Below w.heap.size w w' := by
 have HWF := zh (fun x => Zu ⟨6, aH, index, text, ⟨low, high⟩⟩ _ F x (show Zg F x _ _ from hv));have hin : Zy aH ∧ Zy index := ⟨hv.2.2.1, hv.2.2.2.1⟩;have HST := zh (h.later ((Za.refl w).alloc (.cells #[.int .i64 6, .int .i64 aH, .int .i64 index, .string text, .int .i64 low, .int .i64 high] 34)));have HM := zh (heap_alloc_new w (.cells #[.int .i64 6, .int .i64 aH, .int .i64 index, .string text, .int .i64 low, .int .i64 high] 34));have HB := zh ((Below.refl w.heap.size w).alloc (Nat.le_refl _) (.cells #[.int .i64 6, .int .i64 aH, .int .i64 index, .string text, .int .i64 low, .int .i64 high] 34));obtain ⟨p, hp⟩ : ∃ p, Zn ⟨6, aH, index, text, ⟨low, high⟩⟩ = p := ⟨_, rfl⟩;obtain ⟨R, hR⟩ : ∃ R, Zj r ⟨6, aH, index, text, ⟨low, high⟩⟩ = R := ⟨_, rfl⟩;rw [hR];rw [hp] at HWF;unfold Zj at hR;rw [hp] at hR;clear h hv;have HP := zh hp;clear hp
 cases p with
 | false =>
  have HR := zh (show R = false from hR.symm);clear hR;go_enter Tryz.func52, Tryz.ntmps52;go_wp2_with fail;refine (HWF.o _).mono ?_;rintro e w2 ⟨rfl, hb2⟩;have HB2 := zh (HB.o.trans (Below.mono hb2 HB.o.size));clear hb2;go_wp2_with fail;go_ret;exact ⟨Z0 HR.o.symm, HB2.o⟩
 | true =>
  rw [Bool.true_and] at hR;have HR := zh (show R = Za9 r aH 4 from by rw [← hR]; simp [Zbi, Zbf]);clear hR;go_enter Tryz.func52, Tryz.ntmps52;go_wp2_with fail;refine (HWF.o _).mono ?_;rintro e w2 ⟨rfl, hb2⟩;replace HST := zh (HST.o.later hb2);replace HM := zC hb2 HM;replace HB := zh (HB.o.trans (Below.mono hb2 HB.o.size));clear hb2;have m0 := cz3 HM.o;go_wp2_with fail;refine (Za2 r B cs F w2 aH 4 HST.o).mono ?_;rintro e w3 ⟨rfl, rfl⟩;go_wp2_with fail;go_ret;exact ⟨Z0 HR.o.symm, HB.o⟩
theorem Zu4 (r : Zf) (B : Nat) (cs : List Value) (F : Nat → Prop) (w : World) (aH index low high : Int) (text : ByteArray) (h : Z3 F w B r cs) (hv : Zg F w ⟨7, aH, index, text, ⟨low, high⟩⟩ [.int .i64 7, .int .i64 aH, .int .i64 index, .string text, .int .i64 low, .int .i64 high]) :
  Calls Tryz.prog 52 #[.pointer (some ⟨B, 0, none⟩), .agg #[.int .i64 7, .int .i64 aH, .int .i64 index, .string text, .int .i64 low, .int .i64 high]] w fun e w' => e = .returned (.bool (Zj r ⟨7, aH, index, text, ⟨low, high⟩⟩)) ∧ Below w.heap.size w w' := by
 have HWF := zh (fun x => Zu ⟨7, aH, index, text, ⟨low, high⟩⟩ _ F x (show Zg F x _ _ from hv));have hin : Zy aH ∧ Zy index := ⟨hv.2.2.1, hv.2.2.2.1⟩;have HST := zh (h.later ((Za.refl w).alloc (.cells #[.int .i64 7, .int .i64 aH, .int .i64 index, .string text, .int .i64 low, .int .i64 high] 34)));have HM := zh (heap_alloc_new w (.cells #[.int .i64 7, .int .i64 aH, .int .i64 index, .string text, .int .i64 low, .int .i64 high] 34));have HB := zh ((Below.refl w.heap.size w).alloc (Nat.le_refl _) (.cells #[.int .i64 7, .int .i64 aH, .int .i64 index, .string text, .int .i64 low, .int .i64 high] 34));obtain ⟨p, hp⟩ : ∃ p, Zn ⟨7, aH, index, text, ⟨low, high⟩⟩ = p := ⟨_, rfl⟩;obtain ⟨R, hR⟩ : ∃ R, Zj r ⟨7, aH, index, text, ⟨low, high⟩⟩ = R := ⟨_, rfl⟩;rw [hR];rw [hp] at HWF;unfold Zj at hR;rw [hp] at hR;clear h hv;have HP := zh hp;clear hp
 cases p with
 | false =>
  have HR := zh (show R = false from hR.symm);clear hR;go_enter Tryz.func52, Tryz.ntmps52;go_wp2_with fail;refine (HWF.o _).mono ?_;rintro e w2 ⟨rfl, hb2⟩;have HB2 := zh (HB.o.trans (Below.mono hb2 HB.o.size));clear hb2;go_wp2_with fail;go_ret;exact ⟨Z0 HR.o.symm, HB2.o⟩
 | true =>
  rw [Bool.true_and] at hR;have HR := zh (show R = Za9 r aH 5 from by rw [← hR]; simp [Zbi, Zbf]);clear hR;go_enter Tryz.func52, Tryz.ntmps52;go_wp2_with fail;refine (HWF.o _).mono ?_;rintro e w2 ⟨rfl, hb2⟩;replace HST := zh (HST.o.later hb2);replace HM := zC hb2 HM;replace HB := zh (HB.o.trans (Below.mono hb2 HB.o.size));clear hb2;have m0 := cz3 HM.o;go_wp2_with fail;refine (Za2 r B cs F w2 aH 5 HST.o).mono ?_;rintro e w3 ⟨rfl, rfl⟩;go_wp2_with fail;go_ret;exact ⟨Z0 HR.o.symm, HB.o⟩
theorem Zu5 (r : Zf) (B : Nat) (cs : List Value) (F : Nat → Prop) (w : World) (aH index low high : Int) (text : ByteArray) (h : Z3 F w B r cs) (hv : Zg F w ⟨8, aH, index, text, ⟨low, high⟩⟩ [.int .i64 8, .int .i64 aH, .int .i64 index, .string text, .int .i64 low, .int .i64 high]) :
  Calls Tryz.prog 52 #[.pointer (some ⟨B, 0, none⟩), .agg #[.int .i64 8, .int .i64 aH, .int .i64 index, .string text, .int .i64 low, .int .i64 high]] w fun e w' => e = .returned (.bool (Zj r ⟨8, aH, index, text, ⟨low, high⟩⟩)) ∧ Below w.heap.size w w' := by
 have HWF := zh (fun x => Zu ⟨8, aH, index, text, ⟨low, high⟩⟩ _ F x (show Zg F x _ _ from hv));have hin : Zy aH ∧ Zy index := ⟨hv.2.2.1, hv.2.2.2.1⟩;have HST := zh (h.later ((Za.refl w).alloc (.cells #[.int .i64 8, .int .i64 aH, .int .i64 index, .string text, .int .i64 low, .int .i64 high] 34)));have HM := zh (heap_alloc_new w (.cells #[.int .i64 8, .int .i64 aH, .int .i64 index, .string text, .int .i64 low, .int .i64 high] 34));have HB := zh ((Below.refl w.heap.size w).alloc (Nat.le_refl _) (.cells #[.int .i64 8, .int .i64 aH, .int .i64 index, .string text, .int .i64 low, .int .i64 high] 34));obtain ⟨p, hp⟩ : ∃ p, Zn ⟨8, aH, index, text, ⟨low, high⟩⟩ = p := ⟨_, rfl⟩;obtain ⟨R, hR⟩ : ∃ R, Zj r ⟨8, aH, index, text, ⟨low, high⟩⟩ = R := ⟨_, rfl⟩;rw [hR];rw [hp] at HWF;unfold Zj at hR;rw [hp] at hR;clear h hv;have HP := zh hp;clear hp
 cases p with
 | false =>
  have HR := zh (show R = false from hR.symm);clear hR;go_enter Tryz.func52, Tryz.ntmps52;go_wp2_with fail;refine (HWF.o _).mono ?_;rintro e w2 ⟨rfl, hb2⟩;have HB2 := zh (HB.o.trans (Below.mono hb2 HB.o.size));clear hb2;go_wp2_with fail;go_ret;exact ⟨Z0 HR.o.symm, HB2.o⟩
 | true =>
  rw [Bool.true_and] at hR;have HR := zh (show R = decide (aH < (r.names.length : Int)) from by rw [← hR]; simp [Zbi, Zbf]);clear hR;go_enter Tryz.func52, Tryz.ntmps52;go_wp2_with fail;refine (HWF.o _).mono ?_;rintro e w2 ⟨rfl, hb2⟩;replace HST := zh (HST.o.later hb2);replace HM := zC hb2 HM;replace HB := zh (HB.o.trans (Below.mono hb2 HB.o.size));clear hb2;have m0 := cz3 HM.o;go_upto_region 29 with (fail);clear m0;obtain ⟨M, hM⟩ : ∃ M, w.heap.size = M := ⟨_, rfl⟩;rw [hM] at HM ⊢;refine Z4 (fun W hW => ?_);have hWL : Za w2 W := by rw [hW]; exact (Za.refl _).drew
  have HMW := zC hWL HM;have HSW := zh (HST.o.later hWL);have HBW := zh (HB.o.trans (Below.mono hWL HB.o.size));have hMW : M < W.heap.size := Zb HMW.o;have mW0 := cz3 HMW.o;obtain ⟨A, c, cW, hc, hcm, hrow⟩ := HSW.o.names;have hSB := HSW.o.lt;unfold maxLen at hcm;clear hW hWL hrow
  repeat go_big_quiet_step (fail)
  refine wpQuiet_nil ?_;go_wp2_with fail;go_ret;exact ⟨Z0 HR.o.symm, HBW.o⟩
theorem Zu6 (r : Zf) (B : Nat) (cs : List Value) (F : Nat → Prop) (w : World) (aH index low high : Int) (text : ByteArray) (h : Z3 F w B r cs) (hv : Zg F w ⟨9, aH, index, text, ⟨low, high⟩⟩ [.int .i64 9, .int .i64 aH, .int .i64 index, .string text, .int .i64 low, .int .i64 high]) :
  Calls Tryz.prog 52 #[.pointer (some ⟨B, 0, none⟩), .agg #[.int .i64 9, .int .i64 aH, .int .i64 index, .string text, .int .i64 low, .int .i64 high]] w fun e w' => e = .returned (.bool (Zj r ⟨9, aH, index, text, ⟨low, high⟩⟩)) ∧ Below w.heap.size w w' := by
 have HWF := zh (fun x => Zu ⟨9, aH, index, text, ⟨low, high⟩⟩ _ F x (show Zg F x _ _ from hv));have hin : Zy aH ∧ Zy index := ⟨hv.2.2.1, hv.2.2.2.1⟩;have HST := zh (h.later ((Za.refl w).alloc (.cells #[.int .i64 9, .int .i64 aH, .int .i64 index, .string text, .int .i64 low, .int .i64 high] 34)));have HM := zh (heap_alloc_new w (.cells #[.int .i64 9, .int .i64 aH, .int .i64 index, .string text, .int .i64 low, .int .i64 high] 34));have HB := zh ((Below.refl w.heap.size w).alloc (Nat.le_refl _) (.cells #[.int .i64 9, .int .i64 aH, .int .i64 index, .string text, .int .i64 low, .int .i64 high] 34));obtain ⟨p, hp⟩ : ∃ p, Zn ⟨9, aH, index, text, ⟨low, high⟩⟩ = p := ⟨_, rfl⟩;obtain ⟨R, hR⟩ : ∃ R, Zj r ⟨9, aH, index, text, ⟨low, high⟩⟩ = R := ⟨_, rfl⟩;rw [hR];rw [hp] at HWF;unfold Zj at hR;rw [hp] at hR;clear h hv;have HP := zh hp;clear hp
 cases p with
 | false =>
  have HR := zh (show R = false from hR.symm);clear hR;go_enter Tryz.func52, Tryz.ntmps52;go_wp2_with fail;refine (HWF.o _).mono ?_;rintro e w2 ⟨rfl, hb2⟩;have HB2 := zh (HB.o.trans (Below.mono hb2 HB.o.size));clear hb2;go_wp2_with fail;go_ret;exact ⟨Z0 HR.o.symm, HB2.o⟩
 | true =>
  rw [Bool.true_and] at hR;have HR := zh (show R = decide (aH ≤ 54) from by rw [← hR]; simp [Zbi, Zbf]);clear hR;go_enter Tryz.func52, Tryz.ntmps52;go_wp2_with fail;refine (HWF.o _).mono ?_;rintro e w2 ⟨rfl, hb2⟩;replace HST := zh (HST.o.later hb2);replace HM := zC hb2 HM;replace HB := zh (HB.o.trans (Below.mono hb2 HB.o.size));clear hb2;have m0 := cz3 HM.o;go_wp2_with fail;go_ret;exact ⟨Z0 HR.o.symm, HB.o⟩
theorem Ztg (r : Zf) (B : Nat) (cs : List Value) (F : Nat → Prop) (w : World) (aH index low high : Int) (text : ByteArray) (h : Z3 F w B r cs) (hv : Zg F w ⟨10, aH, index, text, ⟨low, high⟩⟩ [.int .i64 10, .int .i64 aH, .int .i64 index, .string text, .int .i64 low, .int .i64 high]) :
  Calls Tryz.prog 52 #[.pointer (some ⟨B, 0, none⟩), .agg #[.int .i64 10, .int .i64 aH, .int .i64 index, .string text, .int .i64 low, .int .i64 high]] w fun e w' => e = .returned (.bool (Zj r ⟨10, aH, index, text, ⟨low, high⟩⟩)) ∧ Below w.heap.size w w' := by
 have HWF := zh (fun x => Zu ⟨10, aH, index, text, ⟨low, high⟩⟩ _ F x (show Zg F x _ _ from hv));have hin : Zy aH ∧ Zy index := ⟨hv.2.2.1, hv.2.2.2.1⟩;have HST := zh (h.later ((Za.refl w).alloc (.cells #[.int .i64 10, .int .i64 aH, .int .i64 index, .string text, .int .i64 low, .int .i64 high] 34)));have HM := zh (heap_alloc_new w (.cells #[.int .i64 10, .int .i64 aH, .int .i64 index, .string text, .int .i64 low, .int .i64 high] 34));have HB := zh ((Below.refl w.heap.size w).alloc (Nat.le_refl _) (.cells #[.int .i64 10, .int .i64 aH, .int .i64 index, .string text, .int .i64 low, .int .i64 high] 34));obtain ⟨p, hp⟩ : ∃ p, Zn ⟨10, aH, index, text, ⟨low, high⟩⟩ = p := ⟨_, rfl⟩;obtain ⟨R, hR⟩ : ∃ R, Zj r ⟨10, aH, index, text, ⟨low, high⟩⟩ = R := ⟨_, rfl⟩;rw [hR];rw [hp] at HWF;unfold Zj at hR;rw [hp] at hR;clear h hv;have HP := zh hp;clear hp
 cases p with
 | false =>
  have HR := zh (show R = false from hR.symm);clear hR;go_enter Tryz.func52, Tryz.ntmps52;go_wp2_with fail;refine (HWF.o _).mono ?_;rintro e w2 ⟨rfl, hb2⟩;have HB2 := zh (HB.o.trans (Below.mono hb2 HB.o.size));clear hb2;go_wp2_with fail;go_ret;exact ⟨Z0 HR.o.symm, HB2.o⟩
 | true =>
  rw [Bool.true_and] at hR;have HR := zh (show R = decide (aH < (r.aB.length : Int)) from by rw [← hR]; simp [Zbi, Zbf]);clear hR;go_enter Tryz.func52, Tryz.ntmps52;go_wp2_with fail;refine (HWF.o _).mono ?_;rintro e w2 ⟨rfl, hb2⟩;replace HST := zh (HST.o.later hb2);replace HM := zC hb2 HM;replace HB := zh (HB.o.trans (Below.mono hb2 HB.o.size));clear hb2;have m0 := cz3 HM.o;go_upto_region 33 with (fail);clear m0;obtain ⟨M, hM⟩ : ∃ M, w.heap.size = M := ⟨_, rfl⟩;rw [hM] at HM ⊢;refine Z4 (fun W hW => ?_);have hWL : Za w2 W := by rw [hW]; exact (Za.refl _).drew
  have HMW := zC hWL HM;have HSW := zh (HST.o.later hWL);have HBW := zh (HB.o.trans (Below.mono hWL HB.o.size));have hMW : M < W.heap.size := Zb HMW.o;have mW0 := cz3 HMW.o;obtain ⟨A, c, cW, hc, hcm, hrow⟩ := HSW.o.aB;have hSB := HSW.o.lt;unfold maxLen at hcm;clear hW hWL hrow
  repeat go_big_quiet_step (fail)
  refine wpQuiet_nil ?_;go_wp2_with fail;go_ret;exact ⟨Z0 HR.o.symm, HBW.o⟩
theorem Zth (r : Zf) (B : Nat) (cs : List Value) (F : Nat → Prop) (w : World) (aH index low high : Int) (text : ByteArray) (h : Z3 F w B r cs) (hv : Zg F w ⟨11, aH, index, text, ⟨low, high⟩⟩ [.int .i64 11, .int .i64 aH, .int .i64 index, .string text, .int .i64 low, .int .i64 high]) :
  Calls Tryz.prog 52 #[.pointer (some ⟨B, 0, none⟩), .agg #[.int .i64 11, .int .i64 aH, .int .i64 index, .string text, .int .i64 low, .int .i64 high]] w fun e w' => e = .returned (.bool (Zj r ⟨11, aH, index, text, ⟨low, high⟩⟩)) ∧ Below w.heap.size w w' := by
 have HWF := zh (fun x => Zu ⟨11, aH, index, text, ⟨low, high⟩⟩ _ F x (show Zg F x _ _ from hv));have hin : Zy aH ∧ Zy index := ⟨hv.2.2.1, hv.2.2.2.1⟩;have HST := zh (h.later ((Za.refl w).alloc (.cells #[.int .i64 11, .int .i64 aH, .int .i64 index, .string text, .int .i64 low, .int .i64 high] 34)));have HM := zh (heap_alloc_new w (.cells #[.int .i64 11, .int .i64 aH, .int .i64 index, .string text, .int .i64 low, .int .i64 high] 34));have HB := zh ((Below.refl w.heap.size w).alloc (Nat.le_refl _) (.cells #[.int .i64 11, .int .i64 aH, .int .i64 index, .string text, .int .i64 low, .int .i64 high] 34));obtain ⟨p, hp⟩ : ∃ p, Zn ⟨11, aH, index, text, ⟨low, high⟩⟩ = p := ⟨_, rfl⟩;obtain ⟨R, hR⟩ : ∃ R, Zj r ⟨11, aH, index, text, ⟨low, high⟩⟩ = R := ⟨_, rfl⟩;rw [hR];rw [hp] at HWF;unfold Zj at hR;rw [hp] at hR;clear h hv;have HP := zh hp;clear hp
 cases p with
 | false =>
  have HR := zh (show R = false from hR.symm);clear hR;go_enter Tryz.func52, Tryz.ntmps52;go_wp2_with fail;refine (HWF.o _).mono ?_;rintro e w2 ⟨rfl, hb2⟩;have HB2 := zh (HB.o.trans (Below.mono hb2 HB.o.size));clear hb2;go_wp2_with fail;go_ret;exact ⟨Z0 HR.o.symm, HB2.o⟩
 | true =>
  rw [Bool.true_and] at hR;have HR := zh (show R = Za9 r aH 6 from by rw [← hR]; simp [Zbi, Zbf]);clear hR;go_enter Tryz.func52, Tryz.ntmps52;go_wp2_with fail;refine (HWF.o _).mono ?_;rintro e w2 ⟨rfl, hb2⟩;replace HST := zh (HST.o.later hb2);replace HM := zC hb2 HM;replace HB := zh (HB.o.trans (Below.mono hb2 HB.o.size));clear hb2;have m0 := cz3 HM.o;go_wp2_with fail;refine (Za2 r B cs F w2 aH 6 HST.o).mono ?_;rintro e w3 ⟨rfl, rfl⟩;go_wp2_with fail;go_ret;exact ⟨Z0 HR.o.symm, HB.o⟩
theorem Zti (r : Zf) (B : Nat) (cs : List Value) (F : Nat → Prop) (w : World) (aH index low high : Int) (text : ByteArray) (h : Z3 F w B r cs) (hv : Zg F w ⟨12, aH, index, text, ⟨low, high⟩⟩ [.int .i64 12, .int .i64 aH, .int .i64 index, .string text, .int .i64 low, .int .i64 high]) :
  Calls Tryz.prog 52 #[.pointer (some ⟨B, 0, none⟩), .agg #[.int .i64 12, .int .i64 aH, .int .i64 index, .string text, .int .i64 low, .int .i64 high]] w fun e w' => e = .returned (.bool (Zj r ⟨12, aH, index, text, ⟨low, high⟩⟩)) ∧ Below w.heap.size w w' := by
 have HWF := zh (fun x => Zu ⟨12, aH, index, text, ⟨low, high⟩⟩ _ F x (show Zg F x _ _ from hv));have hin : Zy aH ∧ Zy index := ⟨hv.2.2.1, hv.2.2.2.1⟩;have HST := zh (h.later ((Za.refl w).alloc (.cells #[.int .i64 12, .int .i64 aH, .int .i64 index, .string text, .int .i64 low, .int .i64 high] 34)));have HM := zh (heap_alloc_new w (.cells #[.int .i64 12, .int .i64 aH, .int .i64 index, .string text, .int .i64 low, .int .i64 high] 34));have HB := zh ((Below.refl w.heap.size w).alloc (Nat.le_refl _) (.cells #[.int .i64 12, .int .i64 aH, .int .i64 index, .string text, .int .i64 low, .int .i64 high] 34));obtain ⟨p, hp⟩ : ∃ p, Zn ⟨12, aH, index, text, ⟨low, high⟩⟩ = p := ⟨_, rfl⟩;obtain ⟨R, hR⟩ : ∃ R, Zj r ⟨12, aH, index, text, ⟨low, high⟩⟩ = R := ⟨_, rfl⟩;rw [hR];rw [hp] at HWF;unfold Zj at hR;rw [hp] at hR;clear h hv;have HP := zh hp;clear hp
 cases p with
 | false =>
  have HR := zh (show R = false from hR.symm);clear hR;go_enter Tryz.func52, Tryz.ntmps52;go_wp2_with fail;refine (HWF.o _).mono ?_;rintro e w2 ⟨rfl, hb2⟩;have HB2 := zh (HB.o.trans (Below.mono hb2 HB.o.size));clear hb2;go_wp2_with fail;go_ret;exact ⟨Z0 HR.o.symm, HB2.o⟩
 | true =>
  rw [Bool.true_and] at hR;have HR := zh (show R = Za9 r aH 7 from by rw [← hR]; simp [Zbi, Zbf]);clear hR;go_enter Tryz.func52, Tryz.ntmps52;go_wp2_with fail;refine (HWF.o _).mono ?_;rintro e w2 ⟨rfl, hb2⟩;replace HST := zh (HST.o.later hb2);replace HM := zC hb2 HM;replace HB := zh (HB.o.trans (Below.mono hb2 HB.o.size));clear hb2;have m0 := cz3 HM.o;go_wp2_with fail;refine (Za2 r B cs F w2 aH 7 HST.o).mono ?_;rintro e w3 ⟨rfl, rfl⟩;go_wp2_with fail;go_ret;exact ⟨Z0 HR.o.symm, HB.o⟩
theorem Ztj (r : Zf) (B : Nat) (cs : List Value) (F : Nat → Prop) (w : World) (aH index low high : Int) (text : ByteArray) (h : Z3 F w B r cs) (hv : Zg F w ⟨13, aH, index, text, ⟨low, high⟩⟩ [.int .i64 13, .int .i64 aH, .int .i64 index, .string text, .int .i64 low, .int .i64 high]) :
  Calls Tryz.prog 52 #[.pointer (some ⟨B, 0, none⟩), .agg #[.int .i64 13, .int .i64 aH, .int .i64 index, .string text, .int .i64 low, .int .i64 high]] w fun e w' => e = .returned (.bool (Zj r ⟨13, aH, index, text, ⟨low, high⟩⟩)) ∧ Below w.heap.size w w' := by
 have HWF := zh (fun x => Zu ⟨13, aH, index, text, ⟨low, high⟩⟩ _ F x (show Zg F x _ _ from hv));have hin : Zy aH ∧ Zy index := ⟨hv.2.2.1, hv.2.2.2.1⟩;have HST := zh (h.later ((Za.refl w).alloc (.cells #[.int .i64 13, .int .i64 aH, .int .i64 index, .string text, .int .i64 low, .int .i64 high] 34)));have HM := zh (heap_alloc_new w (.cells #[.int .i64 13, .int .i64 aH, .int .i64 index, .string text, .int .i64 low, .int .i64 high] 34));have HB := zh ((Below.refl w.heap.size w).alloc (Nat.le_refl _) (.cells #[.int .i64 13, .int .i64 aH, .int .i64 index, .string text, .int .i64 low, .int .i64 high] 34));obtain ⟨p, hp⟩ : ∃ p, Zn ⟨13, aH, index, text, ⟨low, high⟩⟩ = p := ⟨_, rfl⟩;obtain ⟨R, hR⟩ : ∃ R, Zj r ⟨13, aH, index, text, ⟨low, high⟩⟩ = R := ⟨_, rfl⟩;rw [hR];rw [hp] at HWF;unfold Zj at hR;rw [hp] at hR;clear h hv;have HP := zh hp;clear hp
 cases p with
 | false =>
  have HR := zh (show R = false from hR.symm);clear hR;go_enter Tryz.func52, Tryz.ntmps52;go_wp2_with fail;refine (HWF.o _).mono ?_;rintro e w2 ⟨rfl, hb2⟩;have HB2 := zh (HB.o.trans (Below.mono hb2 HB.o.size));clear hb2;go_wp2_with fail;go_ret;exact ⟨Z0 HR.o.symm, HB2.o⟩
 | true =>
  rw [Bool.true_and] at hR;have HR := zh (show R = (Za9 r aH 1 && decide (index < (Zcw r aH : Int))) from by rw [← hR]; simp [Zbi, Zbf]);have HN := zh (Ze9 HP.o (Or.inl (by simp [Zbf])));have HI := zh (Zf0 HP.o);clear hR;go_enter Tryz.func52, Tryz.ntmps52;go_wp2_with fail;refine (HWF.o _).mono ?_;rintro e w2 ⟨rfl, hb2⟩;replace HST := zh (HST.o.later hb2);replace HM := zC hb2 HM;replace HB := zh (HB.o.trans (Below.mono hb2 HB.o.size));clear hb2;have m0 := cz3 HM.o;go_upto_region 25 with (fail);clear m0;obtain ⟨M, hM⟩ : ∃ M, w.heap.size = M := ⟨_, rfl⟩;rw [hM] at HM ⊢;obtain ⟨q, hq⟩ : ∃ q, Za9 r aH 1 = q := ⟨_, rfl⟩;rw [hq] at HR;have HQ := zh hq;clear hq
  cases q with
  | false =>
   refine Z4 (fun W hW => ?_);have hWL : Za w2 W := by rw [hW]; exact (Za.refl _).drew
   have HMW := zC hWL HM;have HSW := zh (HST.o.later hWL);have HBW := zh (HB.o.trans (Below.mono hWL HB.o.size));have hMW : M < W.heap.size := Zb HMW.o;have mW0 := cz3 HMW.o;have hSB := HSW.o.lt;clear hW hWL
   repeat go_big_quiet_step (fail)
   go_big_quiet_want
   go_big_quiet_op
   apply Exists.intro
   refine ⟨?_, ?_⟩
   ·refine (Za2 r B cs F W aH 1 HSW.o).mono ?_; rw [HQ.o]; rintro e w6 ⟨rfl, rfl⟩; exact ⟨rfl, rfl⟩
   go_big_quiet_on
   repeat go_big_quiet_step (fail)
   refine wpQuiet_nil ?_;go_wp2_with fail;go_ret;exact ⟨Z0 HR.o.symm, HBW.o⟩
  | true =>
   have hlen : aH < (r.aA.length : Int) := by
    rcases Int.lt_or_le aH r.aA.length with h | h
    ·exact h
    ·have := Zd3 (r := r) (n := aH) (k := 1) (by omega); rw [HQ.o] at this; cases this
   obtain ⟨i, hi⟩ : ∃ i : Nat, aH = i := ⟨aH.toNat, by have := HN.o; omega⟩;subst hi;have hlt : i < r.aA.length := by omega
   have hlt' : (i : Int) < r.aA.length := hlen;have HR2 := zh (show R = decide (index < (r.aA[i].aJ.length : Int)) from by rw [HR.o, Zfz hlt]; rfl);refine Z4 (fun W hW => ?_);have hWL : Za w2 W := by rw [hW]; exact (Za.refl _).drew
   have HMW := zC hWL HM;have HSW := zh (HST.o.later hWL);have HBW := zh (HB.o.trans (Below.mono hWL HB.o.size));have hMW : M < W.heap.size := Zb HMW.o;have mW0 := cz3 HMW.o;obtain ⟨A, c, cW, hc, hcm, hrow⟩ := HSW.o.aA;have hSB := HSW.o.lt;unfold maxLen at hcm;obtain ⟨b, o, Ai, ci, Ak, ck, rfl, hb, e0, e1, e2, e3, e4, hIt, hKy, _⟩ := Z3.obj hrow hlt;clear hW hWL hrow hIt hKy
   repeat go_big_quiet_step (fail)
   go_big_quiet_want
   go_big_quiet_op
   apply Exists.intro
   refine ⟨?_, ?_⟩
   ·refine (Za2 r B cs F W (i : Int) 1 HSW.o).mono ?_; rw [HQ.o]; rintro e w6 ⟨rfl, rfl⟩; exact ⟨rfl, rfl⟩
   go_big_quiet_on
   repeat go_big_quiet_step (fail)
   refine wpQuiet_nil ?_;go_wp2_with fail;go_ret;exact ⟨Z0 HR2.o.symm, HBW.o⟩
theorem Ztk (r : Zf) (B : Nat) (cs : List Value) (F : Nat → Prop) (w : World) (aH index low high : Int) (text : ByteArray) (h : Z3 F w B r cs) (hv : Zg F w ⟨14, aH, index, text, ⟨low, high⟩⟩ [.int .i64 14, .int .i64 aH, .int .i64 index, .string text, .int .i64 low, .int .i64 high]) :
  Calls Tryz.prog 52 #[.pointer (some ⟨B, 0, none⟩), .agg #[.int .i64 14, .int .i64 aH, .int .i64 index, .string text, .int .i64 low, .int .i64 high]] w fun e w' => e = .returned (.bool (Zj r ⟨14, aH, index, text, ⟨low, high⟩⟩)) ∧ Below w.heap.size w w' := by
 have HWF := zh (fun x => Zu ⟨14, aH, index, text, ⟨low, high⟩⟩ _ F x (show Zg F x _ _ from hv));have hin : Zy aH ∧ Zy index := ⟨hv.2.2.1, hv.2.2.2.1⟩;have HST := zh (h.later ((Za.refl w).alloc (.cells #[.int .i64 14, .int .i64 aH, .int .i64 index, .string text, .int .i64 low, .int .i64 high] 34)));have HM := zh (heap_alloc_new w (.cells #[.int .i64 14, .int .i64 aH, .int .i64 index, .string text, .int .i64 low, .int .i64 high] 34));have HB := zh ((Below.refl w.heap.size w).alloc (Nat.le_refl _) (.cells #[.int .i64 14, .int .i64 aH, .int .i64 index, .string text, .int .i64 low, .int .i64 high] 34));obtain ⟨p, hp⟩ : ∃ p, Zn ⟨14, aH, index, text, ⟨low, high⟩⟩ = p := ⟨_, rfl⟩;obtain ⟨R, hR⟩ : ∃ R, Zj r ⟨14, aH, index, text, ⟨low, high⟩⟩ = R := ⟨_, rfl⟩;rw [hR];rw [hp] at HWF;unfold Zj at hR;rw [hp] at hR;clear h hv;have HP := zh hp;clear hp
 cases p with
 | false =>
  have HR := zh (show R = false from hR.symm);clear hR;go_enter Tryz.func52, Tryz.ntmps52;go_wp2_with fail;refine (HWF.o _).mono ?_;rintro e w2 ⟨rfl, hb2⟩;have HB2 := zh (HB.o.trans (Below.mono hb2 HB.o.size));clear hb2;go_wp2_with fail;go_ret;exact ⟨Z0 HR.o.symm, HB2.o⟩
 | true =>
  rw [Bool.true_and] at hR;have HR := zh (show R = decide (index < (r.globals.length : Int)) from by rw [← hR]; simp [Zbi, Zbf]);clear hR;go_enter Tryz.func52, Tryz.ntmps52;go_wp2_with fail;refine (HWF.o _).mono ?_;rintro e w2 ⟨rfl, hb2⟩;replace HST := zh (HST.o.later hb2);replace HM := zC hb2 HM;replace HB := zh (HB.o.trans (Below.mono hb2 HB.o.size));clear hb2;have m0 := cz3 HM.o;go_upto_region 35 with (fail);clear m0;obtain ⟨M, hM⟩ : ∃ M, w.heap.size = M := ⟨_, rfl⟩;rw [hM] at HM ⊢;refine Z4 (fun W hW => ?_);have hWL : Za w2 W := by rw [hW]; exact (Za.refl _).drew
  have HMW := zC hWL HM;have HSW := zh (HST.o.later hWL);have HBW := zh (HB.o.trans (Below.mono hWL HB.o.size));have hMW : M < W.heap.size := Zb HMW.o;have mW0 := cz3 HMW.o;obtain ⟨A, c, cW, hc, hcm, hrow⟩ := HSW.o.globals;have hSB := HSW.o.lt;unfold maxLen at hcm;clear hW hWL hrow
  repeat go_big_quiet_step (fail)
  refine wpQuiet_nil ?_;go_wp2_with fail;go_ret;exact ⟨Z0 HR.o.symm, HBW.o⟩
theorem Ztl (r : Zf) (B : Nat) (cs : List Value) (F : Nat → Prop) (w : World) (aH index low high : Int) (text : ByteArray) (h : Z3 F w B r cs) (hv : Zg F w ⟨15, aH, index, text, ⟨low, high⟩⟩ [.int .i64 15, .int .i64 aH, .int .i64 index, .string text, .int .i64 low, .int .i64 high]) :
  Calls Tryz.prog 52 #[.pointer (some ⟨B, 0, none⟩), .agg #[.int .i64 15, .int .i64 aH, .int .i64 index, .string text, .int .i64 low, .int .i64 high]] w fun e w' => e = .returned (.bool (Zj r ⟨15, aH, index, text, ⟨low, high⟩⟩)) ∧ Below w.heap.size w w' := by
 have HWF := zh (fun x => Zu ⟨15, aH, index, text, ⟨low, high⟩⟩ _ F x (show Zg F x _ _ from hv));have hin : Zy aH ∧ Zy index := ⟨hv.2.2.1, hv.2.2.2.1⟩;have HST := zh (h.later ((Za.refl w).alloc (.cells #[.int .i64 15, .int .i64 aH, .int .i64 index, .string text, .int .i64 low, .int .i64 high] 34)));have HM := zh (heap_alloc_new w (.cells #[.int .i64 15, .int .i64 aH, .int .i64 index, .string text, .int .i64 low, .int .i64 high] 34));have HB := zh ((Below.refl w.heap.size w).alloc (Nat.le_refl _) (.cells #[.int .i64 15, .int .i64 aH, .int .i64 index, .string text, .int .i64 low, .int .i64 high] 34));obtain ⟨p, hp⟩ : ∃ p, Zn ⟨15, aH, index, text, ⟨low, high⟩⟩ = p := ⟨_, rfl⟩;obtain ⟨R, hR⟩ : ∃ R, Zj r ⟨15, aH, index, text, ⟨low, high⟩⟩ = R := ⟨_, rfl⟩;rw [hR];rw [hp] at HWF;unfold Zj at hR;rw [hp] at hR;clear h hv;have HP := zh hp;clear hp
 cases p with
 | false =>
  have HR := zh (show R = false from hR.symm);clear hR;go_enter Tryz.func52, Tryz.ntmps52;go_wp2_with fail;refine (HWF.o _).mono ?_;rintro e w2 ⟨rfl, hb2⟩;have HB2 := zh (HB.o.trans (Below.mono hb2 HB.o.size));clear hb2;go_wp2_with fail;go_ret;exact ⟨Z0 HR.o.symm, HB2.o⟩
 | true =>
  rw [Bool.true_and] at hR;have HR := zh (show R = Za9 r aH 2 from by rw [← hR]; simp [Zbi, Zbf]);clear hR;go_enter Tryz.func52, Tryz.ntmps52;go_wp2_with fail;refine (HWF.o _).mono ?_;rintro e w2 ⟨rfl, hb2⟩;replace HST := zh (HST.o.later hb2);replace HM := zC hb2 HM;replace HB := zh (HB.o.trans (Below.mono hb2 HB.o.size));clear hb2;have m0 := cz3 HM.o;go_wp2_with fail;refine (Za2 r B cs F w2 aH 2 HST.o).mono ?_;rintro e w3 ⟨rfl, rfl⟩;go_wp2_with fail;go_ret;exact ⟨Z0 HR.o.symm, HB.o⟩
theorem Ztm (r : Zf) (B : Nat) (cs : List Value) (F : Nat → Prop) (w : World) (aH index low high : Int) (text : ByteArray) (h : Z3 F w B r cs) (hv : Zg F w ⟨16, aH, index, text, ⟨low, high⟩⟩ [.int .i64 16, .int .i64 aH, .int .i64 index, .string text, .int .i64 low, .int .i64 high]) :
  Calls Tryz.prog 52 #[.pointer (some ⟨B, 0, none⟩), .agg #[.int .i64 16, .int .i64 aH, .int .i64 index, .string text, .int .i64 low, .int .i64 high]] w fun e w' => e = .returned (.bool (Zj r ⟨16, aH, index, text, ⟨low, high⟩⟩)) ∧ Below w.heap.size w w' := by
 have HWF := zh (fun x => Zu ⟨16, aH, index, text, ⟨low, high⟩⟩ _ F x (show Zg F x _ _ from hv));have hin : Zy aH ∧ Zy index := ⟨hv.2.2.1, hv.2.2.2.1⟩;have HST := zh (h.later ((Za.refl w).alloc (.cells #[.int .i64 16, .int .i64 aH, .int .i64 index, .string text, .int .i64 low, .int .i64 high] 34)));have HM := zh (heap_alloc_new w (.cells #[.int .i64 16, .int .i64 aH, .int .i64 index, .string text, .int .i64 low, .int .i64 high] 34));have HB := zh ((Below.refl w.heap.size w).alloc (Nat.le_refl _) (.cells #[.int .i64 16, .int .i64 aH, .int .i64 index, .string text, .int .i64 low, .int .i64 high] 34));obtain ⟨p, hp⟩ : ∃ p, Zn ⟨16, aH, index, text, ⟨low, high⟩⟩ = p := ⟨_, rfl⟩;obtain ⟨R, hR⟩ : ∃ R, Zj r ⟨16, aH, index, text, ⟨low, high⟩⟩ = R := ⟨_, rfl⟩;rw [hR];rw [hp] at HWF;unfold Zj at hR;rw [hp] at hR;clear h hv;have HP := zh hp;clear hp
 cases p with
 | false =>
  have HR := zh (show R = false from hR.symm);clear hR;go_enter Tryz.func52, Tryz.ntmps52;go_wp2_with fail;refine (HWF.o _).mono ?_;rintro e w2 ⟨rfl, hb2⟩;have HB2 := zh (HB.o.trans (Below.mono hb2 HB.o.size));clear hb2;go_wp2_with fail;go_ret;exact ⟨Z0 HR.o.symm, HB2.o⟩
 | true =>
  rw [Bool.true_and] at hR;have HR := zh (show R = (Za9 r aH 5 && decide (index < (Zcw r aH : Int))) from by rw [← hR]; simp [Zbi, Zbf]);have HN := zh (Ze9 HP.o (Or.inl (by simp [Zbf])));have HI := zh (Zf0 HP.o);clear hR;go_enter Tryz.func52, Tryz.ntmps52;go_wp2_with fail;refine (HWF.o _).mono ?_;rintro e w2 ⟨rfl, hb2⟩;replace HST := zh (HST.o.later hb2);replace HM := zC hb2 HM;replace HB := zh (HB.o.trans (Below.mono hb2 HB.o.size));clear hb2;have m0 := cz3 HM.o;go_upto_region 27 with (fail);clear m0;obtain ⟨M, hM⟩ : ∃ M, w.heap.size = M := ⟨_, rfl⟩;rw [hM] at HM ⊢;obtain ⟨q, hq⟩ : ∃ q, Za9 r aH 5 = q := ⟨_, rfl⟩;rw [hq] at HR;have HQ := zh hq;clear hq
  cases q with
  | false =>
   refine Z4 (fun W hW => ?_);have hWL : Za w2 W := by rw [hW]; exact (Za.refl _).drew
   have HMW := zC hWL HM;have HSW := zh (HST.o.later hWL);have HBW := zh (HB.o.trans (Below.mono hWL HB.o.size));have hMW : M < W.heap.size := Zb HMW.o;have mW0 := cz3 HMW.o;have hSB := HSW.o.lt;clear hW hWL
   repeat go_big_quiet_step (fail)
   go_big_quiet_want
   go_big_quiet_op
   apply Exists.intro
   refine ⟨?_, ?_⟩
   ·refine (Za2 r B cs F W aH 5 HSW.o).mono ?_; rw [HQ.o]; rintro e w6 ⟨rfl, rfl⟩; exact ⟨rfl, rfl⟩
   go_big_quiet_on
   repeat go_big_quiet_step (fail)
   refine wpQuiet_nil ?_;go_wp2_with fail;go_ret;exact ⟨Z0 HR.o.symm, HBW.o⟩
  | true =>
   have hlen : aH < (r.aA.length : Int) := by
    rcases Int.lt_or_le aH r.aA.length with h | h
    ·exact h
    ·have := Zd3 (r := r) (n := aH) (k := 5) (by omega); rw [HQ.o] at this; cases this
   obtain ⟨i, hi⟩ : ∃ i : Nat, aH = i := ⟨aH.toNat, by have := HN.o; omega⟩;subst hi;have hlt : i < r.aA.length := by omega
   have hlt' : (i : Int) < r.aA.length := hlen;have HR2 := zh (show R = decide (index < (r.aA[i].aJ.length : Int)) from by rw [HR.o, Zfz hlt]; rfl);refine Z4 (fun W hW => ?_);have hWL : Za w2 W := by rw [hW]; exact (Za.refl _).drew
   have HMW := zC hWL HM;have HSW := zh (HST.o.later hWL);have HBW := zh (HB.o.trans (Below.mono hWL HB.o.size));have hMW : M < W.heap.size := Zb HMW.o;have mW0 := cz3 HMW.o;obtain ⟨A, c, cW, hc, hcm, hrow⟩ := HSW.o.aA;have hSB := HSW.o.lt;unfold maxLen at hcm;obtain ⟨b, o, Ai, ci, Ak, ck, rfl, hb, e0, e1, e2, e3, e4, hIt, hKy, _⟩ := Z3.obj hrow hlt;clear hW hWL hrow hIt hKy
   repeat go_big_quiet_step (fail)
   go_big_quiet_want
   go_big_quiet_op
   apply Exists.intro
   refine ⟨?_, ?_⟩
   ·refine (Za2 r B cs F W (i : Int) 5 HSW.o).mono ?_; rw [HQ.o]; rintro e w6 ⟨rfl, rfl⟩; exact ⟨rfl, rfl⟩
   go_big_quiet_on
   repeat go_big_quiet_step (fail)
   refine wpQuiet_nil ?_;go_wp2_with fail;go_ret;exact ⟨Z0 HR2.o.symm, HBW.o⟩
theorem Ztn (r : Zf) (B : Nat) (cs : List Value) (F : Nat → Prop) (w : World) (aH index low high : Int) (text : ByteArray) (h : Z3 F w B r cs) (hv : Zg F w ⟨17, aH, index, text, ⟨low, high⟩⟩ [.int .i64 17, .int .i64 aH, .int .i64 index, .string text, .int .i64 low, .int .i64 high]) :
  Calls Tryz.prog 52 #[.pointer (some ⟨B, 0, none⟩), .agg #[.int .i64 17, .int .i64 aH, .int .i64 index, .string text, .int .i64 low, .int .i64 high]] w fun e w' => e = .returned (.bool (Zj r ⟨17, aH, index, text, ⟨low, high⟩⟩)) ∧ Below w.heap.size w w' := by
 have HWF := zh (fun x => Zu ⟨17, aH, index, text, ⟨low, high⟩⟩ _ F x (show Zg F x _ _ from hv));have hin : Zy aH ∧ Zy index := ⟨hv.2.2.1, hv.2.2.2.1⟩;have HST := zh (h.later ((Za.refl w).alloc (.cells #[.int .i64 17, .int .i64 aH, .int .i64 index, .string text, .int .i64 low, .int .i64 high] 34)));have HM := zh (heap_alloc_new w (.cells #[.int .i64 17, .int .i64 aH, .int .i64 index, .string text, .int .i64 low, .int .i64 high] 34));have HB := zh ((Below.refl w.heap.size w).alloc (Nat.le_refl _) (.cells #[.int .i64 17, .int .i64 aH, .int .i64 index, .string text, .int .i64 low, .int .i64 high] 34));obtain ⟨p, hp⟩ : ∃ p, Zn ⟨17, aH, index, text, ⟨low, high⟩⟩ = p := ⟨_, rfl⟩;obtain ⟨R, hR⟩ : ∃ R, Zj r ⟨17, aH, index, text, ⟨low, high⟩⟩ = R := ⟨_, rfl⟩;rw [hR];rw [hp] at HWF;unfold Zj at hR;rw [hp] at hR;clear h hv;have HP := zh hp;clear hp
 cases p with
 | false =>
  have HR := zh (show R = false from hR.symm);clear hR;go_enter Tryz.func52, Tryz.ntmps52;go_wp2_with fail;refine (HWF.o _).mono ?_;rintro e w2 ⟨rfl, hb2⟩;have HB2 := zh (HB.o.trans (Below.mono hb2 HB.o.size));clear hb2;go_wp2_with fail;go_ret;exact ⟨Z0 HR.o.symm, HB2.o⟩
 | true =>
  rw [Bool.true_and] at hR;have HR := zh (show R = Za9 r aH 8 from by rw [← hR]; simp [Zbi, Zbf]);clear hR;go_enter Tryz.func52, Tryz.ntmps52;go_wp2_with fail;refine (HWF.o _).mono ?_;rintro e w2 ⟨rfl, hb2⟩;replace HST := zh (HST.o.later hb2);replace HM := zC hb2 HM;replace HB := zh (HB.o.trans (Below.mono hb2 HB.o.size));clear hb2;have m0 := cz3 HM.o;go_wp2_with fail;refine (Za2 r B cs F w2 aH 8 HST.o).mono ?_;rintro e w3 ⟨rfl, rfl⟩;go_wp2_with fail;go_ret;exact ⟨Z0 HR.o.symm, HB.o⟩
theorem Zto (r : Zf) (B : Nat) (cs : List Value) (F : Nat → Prop) (w : World) (aH index low high : Int) (text : ByteArray) (h : Z3 F w B r cs) (hv : Zg F w ⟨18, aH, index, text, ⟨low, high⟩⟩ [.int .i64 18, .int .i64 aH, .int .i64 index, .string text, .int .i64 low, .int .i64 high]) :
  Calls Tryz.prog 52 #[.pointer (some ⟨B, 0, none⟩), .agg #[.int .i64 18, .int .i64 aH, .int .i64 index, .string text, .int .i64 low, .int .i64 high]] w fun e w' => e = .returned (.bool (Zj r ⟨18, aH, index, text, ⟨low, high⟩⟩)) ∧ Below w.heap.size w w' := by
 have HWF := zh (fun x => Zu ⟨18, aH, index, text, ⟨low, high⟩⟩ _ F x (show Zg F x _ _ from hv));have hin : Zy aH ∧ Zy index := ⟨hv.2.2.1, hv.2.2.2.1⟩;have HST := zh (h.later ((Za.refl w).alloc (.cells #[.int .i64 18, .int .i64 aH, .int .i64 index, .string text, .int .i64 low, .int .i64 high] 34)));have HM := zh (heap_alloc_new w (.cells #[.int .i64 18, .int .i64 aH, .int .i64 index, .string text, .int .i64 low, .int .i64 high] 34));have HB := zh ((Below.refl w.heap.size w).alloc (Nat.le_refl _) (.cells #[.int .i64 18, .int .i64 aH, .int .i64 index, .string text, .int .i64 low, .int .i64 high] 34));obtain ⟨p, hp⟩ : ∃ p, Zn ⟨18, aH, index, text, ⟨low, high⟩⟩ = p := ⟨_, rfl⟩;obtain ⟨R, hR⟩ : ∃ R, Zj r ⟨18, aH, index, text, ⟨low, high⟩⟩ = R := ⟨_, rfl⟩;rw [hR];rw [hp] at HWF;unfold Zj at hR;rw [hp] at hR;clear h hv;have HP := zh hp;clear hp
 cases p with
 | false =>
  have HR := zh (show R = false from hR.symm);clear hR;go_enter Tryz.func52, Tryz.ntmps52;go_wp2_with fail;refine (HWF.o _).mono ?_;rintro e w2 ⟨rfl, hb2⟩;have HB2 := zh (HB.o.trans (Below.mono hb2 HB.o.size));clear hb2;go_wp2_with fail;go_ret;exact ⟨Z0 HR.o.symm, HB2.o⟩
 | true =>
  rw [Bool.true_and] at hR;have HR := zh (show R = true from by rw [← hR]; simp [Zbi, Zbf]);clear hR;go_enter Tryz.func52, Tryz.ntmps52;go_wp2_with fail;refine (HWF.o _).mono ?_;rintro e w2 ⟨rfl, hb2⟩;replace HST := zh (HST.o.later hb2);replace HM := zC hb2 HM;replace HB := zh (HB.o.trans (Below.mono hb2 HB.o.size));clear hb2;have m0 := cz3 HM.o;go_wp2_with fail;go_ret;exact ⟨Z0 HR.o.symm, HB.o⟩
theorem Ztp (r : Zf) (B : Nat) (cs : List Value) (F : Nat → Prop) (w : World) (aH index low high : Int) (text : ByteArray) (h : Z3 F w B r cs) (hv : Zg F w ⟨19, aH, index, text, ⟨low, high⟩⟩ [.int .i64 19, .int .i64 aH, .int .i64 index, .string text, .int .i64 low, .int .i64 high]) :
  Calls Tryz.prog 52 #[.pointer (some ⟨B, 0, none⟩), .agg #[.int .i64 19, .int .i64 aH, .int .i64 index, .string text, .int .i64 low, .int .i64 high]] w fun e w' => e = .returned (.bool (Zj r ⟨19, aH, index, text, ⟨low, high⟩⟩)) ∧ Below w.heap.size w w' := by
 have HWF := zh (fun x => Zu ⟨19, aH, index, text, ⟨low, high⟩⟩ _ F x (show Zg F x _ _ from hv));have hin : Zy aH ∧ Zy index := ⟨hv.2.2.1, hv.2.2.2.1⟩;have HST := zh (h.later ((Za.refl w).alloc (.cells #[.int .i64 19, .int .i64 aH, .int .i64 index, .string text, .int .i64 low, .int .i64 high] 34)));have HM := zh (heap_alloc_new w (.cells #[.int .i64 19, .int .i64 aH, .int .i64 index, .string text, .int .i64 low, .int .i64 high] 34));have HB := zh ((Below.refl w.heap.size w).alloc (Nat.le_refl _) (.cells #[.int .i64 19, .int .i64 aH, .int .i64 index, .string text, .int .i64 low, .int .i64 high] 34));obtain ⟨p, hp⟩ : ∃ p, Zn ⟨19, aH, index, text, ⟨low, high⟩⟩ = p := ⟨_, rfl⟩;obtain ⟨R, hR⟩ : ∃ R, Zj r ⟨19, aH, index, text, ⟨low, high⟩⟩ = R := ⟨_, rfl⟩;rw [hR];rw [hp] at HWF;unfold Zj at hR;rw [hp] at hR;clear h hv;have HP := zh hp;clear hp
 cases p with
 | false =>
  have HR := zh (show R = false from hR.symm);clear hR;go_enter Tryz.func52, Tryz.ntmps52;go_wp2_with fail;refine (HWF.o _).mono ?_;rintro e w2 ⟨rfl, hb2⟩;have HB2 := zh (HB.o.trans (Below.mono hb2 HB.o.size));clear hb2;go_wp2_with fail;go_ret;exact ⟨Z0 HR.o.symm, HB2.o⟩
 | true =>
  rw [Bool.true_and] at hR;have HR := zh (show R = Za9 r aH 1 from by rw [← hR]; simp [Zbi, Zbf]);clear hR;go_enter Tryz.func52, Tryz.ntmps52;go_wp2_with fail;refine (HWF.o _).mono ?_;rintro e w2 ⟨rfl, hb2⟩;replace HST := zh (HST.o.later hb2);replace HM := zC hb2 HM;replace HB := zh (HB.o.trans (Below.mono hb2 HB.o.size));clear hb2;have m0 := cz3 HM.o;go_wp2_with fail;refine (Za2 r B cs F w2 aH 1 HST.o).mono ?_;rintro e w3 ⟨rfl, rfl⟩;go_wp2_with fail;go_ret;exact ⟨Z0 HR.o.symm, HB.o⟩
theorem Ztq (r : Zf) (B : Nat) (cs : List Value) (F : Nat → Prop) (w : World) (aH index low high : Int) (text : ByteArray) (h : Z3 F w B r cs) (hv : Zg F w ⟨20, aH, index, text, ⟨low, high⟩⟩ [.int .i64 20, .int .i64 aH, .int .i64 index, .string text, .int .i64 low, .int .i64 high]) :
  Calls Tryz.prog 52 #[.pointer (some ⟨B, 0, none⟩), .agg #[.int .i64 20, .int .i64 aH, .int .i64 index, .string text, .int .i64 low, .int .i64 high]] w fun e w' => e = .returned (.bool (Zj r ⟨20, aH, index, text, ⟨low, high⟩⟩)) ∧ Below w.heap.size w w' := by
 have HWF := zh (fun x => Zu ⟨20, aH, index, text, ⟨low, high⟩⟩ _ F x (show Zg F x _ _ from hv));have hin : Zy aH ∧ Zy index := ⟨hv.2.2.1, hv.2.2.2.1⟩;have HST := zh (h.later ((Za.refl w).alloc (.cells #[.int .i64 20, .int .i64 aH, .int .i64 index, .string text, .int .i64 low, .int .i64 high] 34)));have HM := zh (heap_alloc_new w (.cells #[.int .i64 20, .int .i64 aH, .int .i64 index, .string text, .int .i64 low, .int .i64 high] 34));have HB := zh ((Below.refl w.heap.size w).alloc (Nat.le_refl _) (.cells #[.int .i64 20, .int .i64 aH, .int .i64 index, .string text, .int .i64 low, .int .i64 high] 34));obtain ⟨p, hp⟩ : ∃ p, Zn ⟨20, aH, index, text, ⟨low, high⟩⟩ = p := ⟨_, rfl⟩;obtain ⟨R, hR⟩ : ∃ R, Zj r ⟨20, aH, index, text, ⟨low, high⟩⟩ = R := ⟨_, rfl⟩;rw [hR];rw [hp] at HWF;unfold Zj at hR;rw [hp] at hR;clear h hv;have HP := zh hp;clear hp
 cases p with
 | false =>
  have HR := zh (show R = false from hR.symm);clear hR;go_enter Tryz.func52, Tryz.ntmps52;go_wp2_with fail;refine (HWF.o _).mono ?_;rintro e w2 ⟨rfl, hb2⟩;have HB2 := zh (HB.o.trans (Below.mono hb2 HB.o.size));clear hb2;go_wp2_with fail;go_ret;exact ⟨Z0 HR.o.symm, HB2.o⟩
 | true =>
  rw [Bool.true_and] at hR;have HR := zh (show R = Za9 r aH 9 from by rw [← hR]; simp [Zbi, Zbf]);clear hR;go_enter Tryz.func52, Tryz.ntmps52;go_wp2_with fail;refine (HWF.o _).mono ?_;rintro e w2 ⟨rfl, hb2⟩;replace HST := zh (HST.o.later hb2);replace HM := zC hb2 HM;replace HB := zh (HB.o.trans (Below.mono hb2 HB.o.size));clear hb2;have m0 := cz3 HM.o;go_wp2_with fail;refine (Za2 r B cs F w2 aH 9 HST.o).mono ?_;rintro e w3 ⟨rfl, rfl⟩;go_wp2_with fail;go_ret;exact ⟨Z0 HR.o.symm, HB.o⟩
theorem Zay (r : Zf) (B : Nat) (cs : List Value) (F : Nat → Prop) (w : World) (v : Zd) (vs : List Value) (h : Z3 F w B r cs) (hv : Zg F w v vs) :
  Calls Tryz.prog 52 #[.pointer (some ⟨B, 0, none⟩), .agg vs.toArray] w fun e w' => e = .returned (.bool (Zj r v)) ∧ Below w.heap.size w w' := by
 have hv0 := hv;obtain ⟨rfl, _⟩ := hv;obtain ⟨kind, aH, index, text, low, high⟩ := v
 by_cases hk : 0 ≤ kind ∧ kind ≤ 20
 ·have hk2 : kind = 0 ∨ kind = 1 ∨ kind = 2 ∨ kind = 3 ∨ kind = 4 ∨ kind = 5 ∨ kind = 6 ∨ kind = 7 ∨ kind = 8 ∨ kind = 9 ∨ kind = 10 ∨ kind = 11 ∨ kind = 12 ∨ kind = 13 ∨ kind = 14 ∨ kind = 15 ∨ kind = 16 ∨ kind = 17 ∨ kind = 18 ∨ kind = 19 ∨ kind = 20 := by omega
  clear hk
  rcases hk2 with rfl | rfl | rfl | rfl | rfl | rfl | rfl | rfl | rfl | rfl | rfl | rfl | rfl | rfl | rfl | rfl | rfl | rfl | rfl | rfl | rfl
  ·exact Zux r B cs F w aH index low high text h hv0
  ·exact Zuy r B cs F w aH index low high text h hv0
  ·exact Zuz r B cs F w aH index low high text h hv0
  ·exact Zu0 r B cs F w aH index low high text h hv0
  ·exact Zu1 r B cs F w aH index low high text h hv0
  ·exact Zu2 r B cs F w aH index low high text h hv0
  ·exact Zu3 r B cs F w aH index low high text h hv0
  ·exact Zu4 r B cs F w aH index low high text h hv0
  ·exact Zu5 r B cs F w aH index low high text h hv0
  ·exact Zu6 r B cs F w aH index low high text h hv0
  ·exact Ztg r B cs F w aH index low high text h hv0
  ·exact Zth r B cs F w aH index low high text h hv0
  ·exact Zti r B cs F w aH index low high text h hv0
  ·exact Ztj r B cs F w aH index low high text h hv0
  ·exact Ztk r B cs F w aH index low high text h hv0
  ·exact Ztl r B cs F w aH index low high text h hv0
  ·exact Ztm r B cs F w aH index low high text h hv0
  ·exact Ztn r B cs F w aH index low high text h hv0
  ·exact Zto r B cs F w aH index low high text h hv0
  ·exact Ztp r B cs F w aH index low high text h hv0
  ·exact Ztq r B cs F w aH index low high text h hv0
 ·have hp : Zn ⟨kind, aH, index, text, ⟨low, high⟩⟩ = false := by
   cases hq : Zn ⟨kind, aH, index, text, ⟨low, high⟩⟩ with
   | false => rfl
   | true => exact absurd (Zja hq) hk
  have HWF := zh (fun x => Zu ⟨kind, aH, index, text, ⟨low, high⟩⟩ _ F x (show Zg F x _ _ from hv0));have HB := zh ((Below.refl w.heap.size w).alloc (Nat.le_refl _) (.cells #[.int .i64 kind, .int .i64 aH, .int .i64 index, .string text, .int .i64 low, .int .i64 high] 34));have HR := zh (show Zj r ⟨kind, aH, index, text, ⟨low, high⟩⟩ = false by unfold Zj; rw [hp]; rfl);rw [hp] at HWF;rw [HR.o];clear hp hk h hv0;go_enter Tryz.func52, Tryz.ntmps52;go_wp2_with fail;refine (HWF.o _).mono ?_;rintro e w2 ⟨rfl, hb2⟩;have HB2 := zh (HB.o.trans (Below.mono hb2 HB.o.size));clear hb2;go_wp2_with fail;go_ret;exact ⟨rfl, HB2.o⟩
theorem Znx (k : Int) (w : World) (h : 0 ≤ k ∧ k ≤ 20) :
  Calls Tryz.prog 103 #[.int .i64 k] w fun e w' => e = .returned (.int .i64 (Zbf k)) ∧ w' = w := by
 have hk : k = 0 ∨ k = 1 ∨ k = 2 ∨ k = 3 ∨ k = 4 ∨ k = 5 ∨ k = 6 ∨ k = 7 ∨ k = 8 ∨ k = 9 ∨ k = 10 ∨ k = 11 ∨ k = 12 ∨ k = 13 ∨ k = 14 ∨ k = 15 ∨ k = 16 ∨ k = 17 ∨ k = 18 ∨ k = 19 ∨ k = 20 := by omega
 clear h
 rcases hk with rfl | rfl | rfl | rfl | rfl | rfl | rfl | rfl | rfl | rfl | rfl | rfl | rfl | rfl | rfl | rfl | rfl | rfl | rfl | rfl | rfl
 all_goals
  go_enter Tryz.func103, Tryz.ntmps103;go_wp2_with fail;go_ret;exact ⟨rfl, rfl⟩
theorem Ztr (aH index low high : Int) (text : ByteArray) (w : World) :
  Calls Tryz.prog 102 #[.agg #[.int .i64 (0), .int .i64 aH, .int .i64 index, .string text, .int .i64 low, .int .i64 high]] w fun e w' => e = .returned (.bool (Zn ⟨0, aH, index, text, ⟨low, high⟩⟩)) ∧ Below w.heap.size w w' := by
 have HTS := zh (fun h => Zr (t := text) h);obtain ⟨R, hR⟩ : ∃ R, Zn ⟨0, aH, index, text, ⟨low, high⟩⟩ = R := ⟨_, rfl⟩;rw [hR];have HR := zh hR;clear hR;go_enter Tryz.func102, Tryz.ntmps102;go_wp2_with fail
 all_goals go_ret
 all_goals (refine ⟨?_, (Below.refl _ _).alloc (Nat.le_refl _) _⟩; rw [← HR.o])
 all_goals first
  | (simp [Zn, *]; done)
  | (simp only [Zn]; simp [*]; omega)
  | (have h0 := HTS.o (by assumption); simp only [Zn]; simp [*] <;> omega)
theorem Zts (aH index low high : Int) (text : ByteArray) (w : World) :
  Calls Tryz.prog 102 #[.agg #[.int .i64 (1), .int .i64 aH, .int .i64 index, .string text, .int .i64 low, .int .i64 high]] w fun e w' => e = .returned (.bool (Zn ⟨1, aH, index, text, ⟨low, high⟩⟩)) ∧ Below w.heap.size w w' := by
 have HTS := zh (fun h => Zr (t := text) h);obtain ⟨R, hR⟩ : ∃ R, Zn ⟨1, aH, index, text, ⟨low, high⟩⟩ = R := ⟨_, rfl⟩;rw [hR];have HR := zh hR;clear hR;go_enter Tryz.func102, Tryz.ntmps102;go_wp2_with fail
 all_goals go_ret
 all_goals (refine ⟨?_, (Below.refl _ _).alloc (Nat.le_refl _) _⟩; rw [← HR.o])
 all_goals first
  | (simp [Zn, *]; done)
  | (simp only [Zn]; simp [*]; omega)
  | (have h0 := HTS.o (by assumption); simp only [Zn]; simp [*] <;> omega)
theorem Ztt (aH index low high : Int) (text : ByteArray) (w : World) :
  Calls Tryz.prog 102 #[.agg #[.int .i64 (2), .int .i64 aH, .int .i64 index, .string text, .int .i64 low, .int .i64 high]] w fun e w' => e = .returned (.bool (Zn ⟨2, aH, index, text, ⟨low, high⟩⟩)) ∧ Below w.heap.size w w' := by
 have HTS := zh (fun h => Zr (t := text) h);obtain ⟨R, hR⟩ : ∃ R, Zn ⟨2, aH, index, text, ⟨low, high⟩⟩ = R := ⟨_, rfl⟩;rw [hR];have HR := zh hR;clear hR;go_enter Tryz.func102, Tryz.ntmps102;go_wp2_with fail
 all_goals go_ret
 all_goals (refine ⟨?_, (Below.refl _ _).alloc (Nat.le_refl _) _⟩; rw [← HR.o])
 all_goals first
  | (simp [Zn, *]; done)
  | (simp only [Zn]; simp [*]; omega)
  | (have h0 := HTS.o (by assumption); simp only [Zn]; simp [*] <;> omega)
theorem Ztu (aH index low high : Int) (text : ByteArray) (w : World) :
  Calls Tryz.prog 102 #[.agg #[.int .i64 (3), .int .i64 aH, .int .i64 index, .string text, .int .i64 low, .int .i64 high]] w fun e w' => e = .returned (.bool (Zn ⟨3, aH, index, text, ⟨low, high⟩⟩)) ∧ Below w.heap.size w w' := by
 have HTS := zh (fun h => Zr (t := text) h);obtain ⟨R, hR⟩ : ∃ R, Zn ⟨3, aH, index, text, ⟨low, high⟩⟩ = R := ⟨_, rfl⟩;rw [hR];have HR := zh hR;clear hR;go_enter Tryz.func102, Tryz.ntmps102;go_wp2_with fail
 all_goals go_ret
 all_goals (refine ⟨?_, (Below.refl _ _).alloc (Nat.le_refl _) _⟩; rw [← HR.o])
 all_goals first
  | (simp [Zn, *]; done)
  | (simp only [Zn]; simp [*]; omega)
  | (have h0 := HTS.o (by assumption); simp only [Zn]; simp [*] <;> omega)
theorem Ztv (aH index low high : Int) (text : ByteArray) (w : World) :
  Calls Tryz.prog 102 #[.agg #[.int .i64 (4), .int .i64 aH, .int .i64 index, .string text, .int .i64 low, .int .i64 high]] w fun e w' => e = .returned (.bool (Zn ⟨4, aH, index, text, ⟨low, high⟩⟩)) ∧ Below w.heap.size w w' := by
 have HTS := zh (fun h => Zr (t := text) h);obtain ⟨R, hR⟩ : ∃ R, Zn ⟨4, aH, index, text, ⟨low, high⟩⟩ = R := ⟨_, rfl⟩;rw [hR];have HR := zh hR;clear hR;go_enter Tryz.func102, Tryz.ntmps102;go_wp2_with fail
 all_goals go_ret
 all_goals (refine ⟨?_, (Below.refl _ _).alloc (Nat.le_refl _) _⟩; rw [← HR.o])
 all_goals first
  | (simp [Zn, *]; done)
  | (simp only [Zn]; simp [*]; omega)
  | (have h0 := HTS.o (by assumption); simp only [Zn]; simp [*] <;> omega)
theorem Ztw (aH index low high : Int) (text : ByteArray) (w : World) :
  Calls Tryz.prog 102 #[.agg #[.int .i64 (5), .int .i64 aH, .int .i64 index, .string text, .int .i64 low, .int .i64 high]] w fun e w' => e = .returned (.bool (Zn ⟨5, aH, index, text, ⟨low, high⟩⟩)) ∧ Below w.heap.size w w' := by
 have HTS := zh (fun h => Zr (t := text) h);obtain ⟨R, hR⟩ : ∃ R, Zn ⟨5, aH, index, text, ⟨low, high⟩⟩ = R := ⟨_, rfl⟩;rw [hR];have HR := zh hR;clear hR;go_enter Tryz.func102, Tryz.ntmps102;go_wp2_with fail
 all_goals go_ret
 all_goals (refine ⟨?_, (Below.refl _ _).alloc (Nat.le_refl _) _⟩; rw [← HR.o])
 all_goals first
  | (simp [Zn, *]; done)
  | (simp only [Zn]; simp [*]; omega)
  | (have h0 := HTS.o (by assumption); simp only [Zn]; simp [*] <;> omega)
theorem Ztx (aH index low high : Int) (text : ByteArray) (w : World) :
  Calls Tryz.prog 102 #[.agg #[.int .i64 (6), .int .i64 aH, .int .i64 index, .string text, .int .i64 low, .int .i64 high]] w fun e w' => e = .returned (.bool (Zn ⟨6, aH, index, text, ⟨low, high⟩⟩)) ∧ Below w.heap.size w w' := by
 have HTS := zh (fun h => Zr (t := text) h);obtain ⟨R, hR⟩ : ∃ R, Zn ⟨6, aH, index, text, ⟨low, high⟩⟩ = R := ⟨_, rfl⟩;rw [hR];have HR := zh hR;clear hR;go_enter Tryz.func102, Tryz.ntmps102;go_wp2_with fail
 all_goals go_ret
 all_goals (refine ⟨?_, (Below.refl _ _).alloc (Nat.le_refl _) _⟩; rw [← HR.o])
 all_goals first
  | (simp [Zn, *]; done)
  | (simp only [Zn]; simp [*]; omega)
  | (have h0 := HTS.o (by assumption); simp only [Zn]; simp [*] <;> omega)
end Go.Proofs.YtpmhelkiicigfaaGreatDoor
