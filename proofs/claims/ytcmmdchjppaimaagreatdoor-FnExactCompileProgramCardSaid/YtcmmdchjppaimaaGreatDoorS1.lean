/- Part of the walks that the claim stands on. -/
import Derived.Lib.Hide
import Derived.Below
import Derived.Laws.Rows
import Derived.Deep.RegionHeld3
import Derived.Deep.DrawnRows
import Derived.WalkKit
import Derived.ProofKit
import Derived.OpenShut
import Derived.Laws.AppendOwn
import Derived.OwnWalk
import Derived.Deep.QuietTactic
import Derived.BigQuiet
import Derived.WalkSmall
import Derived.Laws.AppendOwnNone
import Derived.Test.YtcmmdchjppaimaaGreatDoorChecked
import Derived.WalkSpells
import Derived.WalkLawsBesides
import Derived.Outline
import Derived.Deep.DeepCutAuto
import Derived.Lib.ItoaMem
import Derived.Lib.ItoaLen
import Derived.Lib.Split
import Derived.Test.YtcmmdchjppaimaaGreatDoorShelf
set_option maxRecDepth 1000000
set_option maxHeartbeats 40000000
namespace Go.Proofs.YtcmmdchjppaimaaGreatDoor
open Go.RowKit
theorem nA {α : Type} (l : List α) (i : Nat) (a : α) : l.toArray.setIfInBounds i a = (l.set i a).toArray := List.setIfInBounds_toArray ..
theorem nB {α : Type} (a b : α) (l : List α) : (a :: l).set 0 b = b :: l := rfl
theorem nC {α : Type} (a b : α) (l : List α) (n : Nat) : (a :: l).set (n + 1) b = a :: l.set n b := rfl
theorem nD {α : Type} (l : List α) (i : Nat) : l.toArray[i]? = l[i]? := List.getElem?_toArray
theorem nE {α : Type} (a : α) (l : List α) (i : Nat) : (a :: l)[i + 1]? = l[i]? := List.getElem?_cons_succ
theorem nF {α : Type} (a : α) (l : List α) : (a :: l)[0]? = some a := List.getElem?_cons_zero
theorem nH {α : Type} [BEq α] [LawfulBEq α] {a b : α} : (a == b) = false ↔ a ≠ b := beq_eq_false_iff_ne
theorem nI {p : Prop} [Decidable p] : decide p = false ↔ ¬ p := decide_eq_false_iff_not
theorem nJ {p : Prop} [Decidable p] : (decide p = true) = p := decide_eq_true_eq
theorem nM (b : Bool) : ((!b) = true) = (b = false) := Bool.not_eq_true' b
theorem nT {p : Prop} [Decidable p] (h : p) : decide p = true := decide_eq_true h
theorem nU {p : Prop} [Decidable p] (h : ¬ p) : decide p = false := decide_eq_false h
def Hd (p : Prop) : Prop := p
theorem Hd.o {p : Prop} (h : Hd p) : p := h
theorem zh {p : Prop} (h : p) : Hd p := h
theorem lB {w : World} {b : Nat} {o : Obj} (h : w.heap[b]? = some o) : b < w.heap.size := (Array.getElem?_eq_some_iff.1 h).1
theorem zB {u v : World} {b : Nat} {o : Obj} (h : Hd (Below u.heap.size u v)) (k : Hd (u.heap[b]? = some o)) : Hd (v.heap[b]? = some o) := (Below.block h b (lB k)).trans k
theorem zC {u v : World} {b : Nat} {o : Obj} (h : Below u.heap.size u v) (k : Hd (u.heap[b]? = some o)) : Hd (v.heap[b]? = some o) := (Below.block h b (lB k)).trans k
theorem cq {w : World} {g : Nat} {cs : Array Value} {t : TypeId} {fr : Nat × Nat} (h : w.heap[g]? = some (.cells cs t fr)) (j : Nat) : w.cell? ⟨g, j, none⟩ = cs[j]? := cell_of_row w g j cs t fr h
theorem fz {w : World} {g : Nat} {cs : Array Value} {t : TypeId} (h : w.heap[g]? = some (.cells cs t (0, 0))) : ∀ j, w.frozen? ⟨g, j, none⟩ = false := fun j => frozen_of_row w g j cs t h
theorem cz2 {w : World} {g : Nat} {t : TypeId} {fr : Nat × Nat} {r : List Value} {a0 a1 : Value} (h : w.heap[g]? = some (.cells (a0 :: a1 :: r).toArray t fr)) : w.cell? ⟨g, 0, none⟩ = some a0 ∧ w.cell? ⟨g, 1, none⟩ = some a1 := ⟨(cell_of_row w g 0 _ t fr h).trans (by simp), (cell_of_row w g 1 _ t fr h).trans (by simp)⟩
theorem cz3 {w : World} {g : Nat} {t : TypeId} {fr : Nat × Nat} {r : List Value} {a0 a1 a2 : Value} (h : w.heap[g]? = some (.cells (a0 :: a1 :: a2 :: r).toArray t fr)) : w.cell? ⟨g, 0, none⟩ = some a0 ∧ w.cell? ⟨g, 1, none⟩ = some a1 ∧ w.cell? ⟨g, 2, none⟩ = some a2 := ⟨(cell_of_row w g 0 _ t fr h).trans (by simp), (cell_of_row w g 1 _ t fr h).trans (by simp), (cell_of_row w g 2 _ t fr h).trans (by simp)⟩
theorem cz4 {w : World} {g : Nat} {t : TypeId} {fr : Nat × Nat} {r : List Value} {a0 a1 a2 a3 : Value} (h : w.heap[g]? = some (.cells (a0 :: a1 :: a2 :: a3 :: r).toArray t fr)) : w.cell? ⟨g, 0, none⟩ = some a0 ∧ w.cell? ⟨g, 1, none⟩ = some a1 ∧ w.cell? ⟨g, 2, none⟩ = some a2 ∧ w.cell? ⟨g, 3, none⟩ = some a3 := ⟨(cell_of_row w g 0 _ t fr h).trans (by simp), (cell_of_row w g 1 _ t fr h).trans (by simp), (cell_of_row w g 2 _ t fr h).trans (by simp), (cell_of_row w g 3 _ t fr h).trans (by simp)⟩
theorem cz5 {w : World} {g : Nat} {t : TypeId} {fr : Nat × Nat} {r : List Value} {a0 a1 a2 a3 a4 : Value} (h : w.heap[g]? = some (.cells (a0 :: a1 :: a2 :: a3 :: a4 :: r).toArray t fr)) : w.cell? ⟨g, 0, none⟩ = some a0 ∧ w.cell? ⟨g, 1, none⟩ = some a1 ∧ w.cell? ⟨g, 2, none⟩ = some a2 ∧ w.cell? ⟨g, 3, none⟩ = some a3 ∧ w.cell? ⟨g, 4, none⟩ = some a4 := ⟨(cell_of_row w g 0 _ t fr h).trans (by simp), (cell_of_row w g 1 _ t fr h).trans (by simp), (cell_of_row w g 2 _ t fr h).trans (by simp), (cell_of_row w g 3 _ t fr h).trans (by simp), (cell_of_row w g 4 _ t fr h).trans (by simp)⟩
theorem cz6 {w : World} {g : Nat} {t : TypeId} {fr : Nat × Nat} {r : List Value} {a0 a1 a2 a3 a4 a5 : Value} (h : w.heap[g]? = some (.cells (a0 :: a1 :: a2 :: a3 :: a4 :: a5 :: r).toArray t fr)) : w.cell? ⟨g, 0, none⟩ = some a0 ∧ w.cell? ⟨g, 1, none⟩ = some a1 ∧ w.cell? ⟨g, 2, none⟩ = some a2 ∧ w.cell? ⟨g, 3, none⟩ = some a3 ∧ w.cell? ⟨g, 4, none⟩ = some a4 ∧ w.cell? ⟨g, 5, none⟩ = some a5 := ⟨(cell_of_row w g 0 _ t fr h).trans (by simp), (cell_of_row w g 1 _ t fr h).trans (by simp), (cell_of_row w g 2 _ t fr h).trans (by simp), (cell_of_row w g 3 _ t fr h).trans (by simp), (cell_of_row w g 4 _ t fr h).trans (by simp), (cell_of_row w g 5 _ t fr h).trans (by simp)⟩
theorem cz9 {w : World} {g : Nat} {t : TypeId} {fr : Nat × Nat} {r : List Value} {a0 a1 a2 a3 a4 a5 a6 a7 a8 : Value} (h : w.heap[g]? = some (.cells (a0 :: a1 :: a2 :: a3 :: a4 :: a5 :: a6 :: a7 :: a8 :: r).toArray t fr)) : w.cell? ⟨g, 0, none⟩ = some a0 ∧ w.cell? ⟨g, 1, none⟩ = some a1 ∧ w.cell? ⟨g, 2, none⟩ = some a2 ∧ w.cell? ⟨g, 3, none⟩ = some a3 ∧ w.cell? ⟨g, 4, none⟩ = some a4 ∧ w.cell? ⟨g, 5, none⟩ = some a5 ∧ w.cell? ⟨g, 6, none⟩ = some a6 ∧ w.cell? ⟨g, 7, none⟩ = some a7 ∧ w.cell? ⟨g, 8, none⟩ = some a8 := ⟨(cell_of_row w g 0 _ t fr h).trans (by simp), (cell_of_row w g 1 _ t fr h).trans (by simp), (cell_of_row w g 2 _ t fr h).trans (by simp), (cell_of_row w g 3 _ t fr h).trans (by simp), (cell_of_row w g 4 _ t fr h).trans (by simp), (cell_of_row w g 5 _ t fr h).trans (by simp), (cell_of_row w g 6 _ t fr h).trans (by simp), (cell_of_row w g 7 _ t fr h).trans (by simp), (cell_of_row w g 8 _ t fr h).trans (by simp)⟩
section
def Za (w x : World) : Prop := Below w.heap.size w x
theorem Za.refl (w : World) : Za w w := Below.refl _ _
theorem Za.trans {a b c : World} (h : Za a b) (k : Za b c) : Za a c := Below.trans h (Below.mono k h.size)
theorem Za.cell {w x : World} (h : Za w x) : ∀ p : Addr, p.block < w.heap.size → x.cell? p = w.cell? p := fun _ hp => Below.cell h hp
theorem Za.block {w x : World} (h : Za w x) : ∀ k, k < w.heap.size → x.heap[k]? = w.heap[k]? := fun k hk => Below.block h k hk
theorem Za.size {w x : World} (h : Za w x) : w.heap.size ≤ x.heap.size := Below.size h
theorem Za.drew {w x : World} (h : Za w x) : Za w x.drew := Below.drew h
theorem Za.alloc {w x : World} (h : Za w x) (o : Obj) : Za w (x.alloc o) := Below.alloc h h.size o
section
variable {P : Program} {ops : Array Oper} {Q : Exit → Act → World → Prop} {md : Region.Mode} {tl : Nat → Bool} {S S' : World → Prop}
def Zit (md : Region.Mode) (ops : Array Oper) (listed : Array Bool) : Prop :=
 ∀ j o, ops[j]? = some o → listed.getD j false = true → ∀ e ∈ o.after, Region.binds md e = true → listed.getD e.on false = true
def Zo5 (md : Region.Mode) (ops : Array Oper) (listed : Array Bool) : Bool :=
 (List.range ops.size).all fun j => !listed.getD j false || match ops[j]? with
  | some o => o.after.all fun e => !Region.binds md e || listed.getD e.on false
  | none => true
theorem Ziu {listed : Array Bool} (h : Zo5 md ops listed = true) : Zit md ops listed := by
 intro j o ho hl e he hb;have hj : j < ops.size := (Array.getElem?_eq_some_iff.1 ho).1;have h1 := List.all_eq_true.1 h j (List.mem_range.2 hj);simp only [ho, hl, Bool.not_true, Bool.false_or] at h1;have h2 := Array.all_eq_true_iff_forall_mem.1 h1 e he
 simpa [hb] using h2
theorem Zhr {listed : Array Bool} {j : Nat} (h : Zit md ops listed) (hj : j ∈ Region.ready md ops listed) : Zit md ops (listed.setIfInBounds j true) := by
 intro k o ho hl e he hb;obtain ⟨_, oj, hoj, hall⟩ := mem_ready.1 hj
 by_cases hjk : j = k
 ·subst hjk;rw [hoj] at ho
  cases ho
  exact getD_set_true (hall e he hb)
 ·rw [getD_set_ne false hjk] at hl;exact getD_set_true (h k o ho hl e he hb)
def Zi8 (md : Region.Mode) (ops : Array Oper) : Nat → Nat → Nat → Bool
 | 0, _, _ => false
 | f + 1, j, i => match ops[j]? with
  | some o => o.after.any fun e => Region.binds md e && (e.on == i || Zi8 md ops f e.on i)
  | none => false
theorem Zeb {listed : Array Bool} (hc : Zit md ops listed) : ∀ (f j i : Nat) (o : Oper), ops[j]? = some o → (∀ e ∈ o.after, Region.binds md e = true → listed.getD e.on false = true) →
  Zi8 md ops f j i = true → listed.getD i false = true
 | 0, _, _, _, _, _, h => by simp [Zi8] at h
 | f + 1, j, i, o, ho, hall, h => by
  simp only [Zi8, ho] at h;obtain ⟨e, he, h1⟩ := Array.any_eq_true'.1 h;simp only [Bool.and_eq_true, Bool.or_eq_true, beq_iff_eq] at h1;obtain ⟨hb, h2⟩ := h1
  rcases h2 with h2 | h2
  ·rw [← h2]; exact hall e he hb
  ·rcases hoe : ops[e.on]? with _ | oe
   ·cases f <;> simp [Zi8, hoe] at h2
   ·exact Zeb hc f e.on i oe hoe (hc e.on oe hoe (hall e he hb)) h2
def Zm4 (Q : Exit → Act → World → Prop) (w : World) (K : Act → World → Prop) : Exit → Act → World → Prop
 | .normal, a', w' => Za w w' ∧ K a' w'
 | e, a', w' => Q e a' w'
def Zgc (ops : Array Oper) : List Nat → Array Bool → Bool
 | [], listed => (Region.ready .any ops listed).isEmpty
 | i :: r, listed => (Region.ready .any ops listed == [i]) && Zgc ops r (listed.setIfInBounds i true)
end
end
section
structure Zb (F : Nat → Prop) (w x : World) : Prop where
 size : w.heap.size ≤ x.heap.size
 same : ∀ b, F b → b < w.heap.size → x.heap[b]? = w.heap[b]?
theorem Zb.later {F : Nat → Prop} {w x : World} (h : Za w x) : Zb F w x := ⟨h.size, fun b _ hb => h.block b hb⟩
theorem Zb.trans {F : Nat → Prop} {w x y : World} (h : Zb F w x) (k : Zb F x y) : Zb F w y :=
 ⟨Nat.le_trans h.size k.size, fun b hF hb => (k.same b hF (Nat.lt_of_lt_of_le hb h.size)).trans (h.same b hF hb)⟩
theorem Zb.set {F : Nat → Prop} {w x : World} (h : Zb F w x) {B : Nat} (hB : ¬ F B) (o : Nat) (v : Value) : Zb F w (x.setCell ⟨B, o, none⟩ v) :=
 ⟨Nat.le_trans h.size (Below.setCell (B := 0) (Below.refl 0 x) (p := ⟨B, o, none⟩) (Nat.zero_le _) v).size, fun b hF hb => (Below.heap_setCell _ _ _ _ (fun e => hB (by have e2 : b = B := e; rw [← e2]; exact hF))).trans (h.same b hF hb)⟩
theorem Zb.cell {F : Nat → Prop} {w x : World} (h : Zb F w x) {b o : Nat} (hF : F b) (hb : b < w.heap.size) : x.cell? ⟨b, o, none⟩ = w.cell? ⟨b, o, none⟩ := World.cell?_of_block (w := w) (h.same b hF hb)
abbrev Za6 (α : Type) := (Nat → Prop) → World → α → List Value → Prop
structure Zb2 {α : Type} (El : Za6 α) (size : Nat) : Prop where
 len : ∀ {F w a cs}, El F w a cs → cs.length = size
 keep : ∀ {F G : Nat → Prop} {w x a cs}, El F w a cs → (∀ b, F b → G b) → Zb F w x → El G x a cs
def Z5 {α : Type} (El : Za6 α) (size : Nat) (F : Nat → Prop) (w : World) (l : List α) (v : Value) : Prop :=
 ∃ A c, v = .slice A l.length c ∧ l.length ≤ c ∧ c ≤ maxLen ∧ ∀ i (h : i < l.length), ∃ b o cs, A = some ⟨b, o, none⟩ ∧ F b ∧ b < w.heap.size ∧ El F w l[i] cs ∧ ∀ j x, cs[j]? = some x → w.cell? ⟨b, o + i * size + j, none⟩ = some x
def Zt6 {α : Type} (El : Za6 α) (size : Nat) : Za6 (List α) := fun F w l cs => ∃ v, cs = [v] ∧ Z5 El size F w l v
def Zi (n : Int) : Prop := -9223372036854775808 ≤ n ∧ n ≤ 9223372036854775807
def Zbe : Za6 ByteArray := fun _ _ s cs => cs = [.string s] ∧ s.size ≤ maxLen
def Zc1 : Za6 Int := fun _ _ n cs => cs = [.int .i64 n] ∧ Zi n
section
variable {α : Type} {El : Za6 α} {size : Nat} {F G : Nat → Prop} {w x : World} {l : List α} {v : Value}
theorem Z5.keep (hE : Zb2 El size) (h : Z5 El size F w l v) (hFG : ∀ b, F b → G b) (hk : Zb F w x) : Z5 El size G x l v := by
 obtain ⟨A, c, rfl, h1, h2, h3⟩ := h;refine ⟨A, c, rfl, h1, h2, fun i hi => ?_⟩;obtain ⟨b, o, cs, e, hF, hb, hel, hc⟩ := h3 i hi;exact ⟨b, o, cs, e, hFG b hF, Nat.lt_of_lt_of_le hb hk.size, hE.keep hel hFG hk, fun j y hy => (hk.cell hF hb).trans (hc j y hy)⟩
theorem Z5.later (hE : Zb2 El size) (h : Z5 El size F w l v) (hl : Za w x) : Z5 El size F x l v := h.keep hE (fun _ hb => hb) (Zb.later hl)
theorem Z5.nil (El : Za6 α) (size : Nat) (F : Nat → Prop) (w : World) : Z5 El size F w ([] : List α) (.slice none 0 0) := ⟨none, 0, rfl, Nat.le_refl _, Nat.zero_le _, fun i h => by simp at h⟩
end
theorem Zt : Zb2 Zbe 1 where
 len := fun h => by rw [h.1]; rfl
 keep := fun h _ _ => h
theorem Zqy : Zb2 Zc1 1 where
 len := fun h => by rw [h.1]; rfl
 keep := fun h _ _ => h
/-! ### Many cells written -/
def Zbh (w : World) (B : Nat) : Nat → List Value → World
 | _, [] => w
 | o, v :: vs => Zbh (w.setCell ⟨B, o, none⟩ v) B (o + 1) vs
theorem Za1 {w : World} {M o : Nat} {cur : Array Value} {T : TypeId} (h : w.heap[M]? = some (.cells cur T (0, 0))) (u : Value) :
  (w.setCell ⟨M, o, none⟩ u).heap[M]? = some (.cells (cur.setIfInBounds o u) T (0, 0)) := by
 simp only [World.setCell];rw [Array.getElem?_modify];simp [h]
theorem Zgu {B : Nat} {T : TypeId} : ∀ (vs : List Value) (w : World) (o : Nat) (cur : Array Value), w.heap[B]? = some (.cells cur T (0, 0)) → o + vs.length ≤ cur.size →
  ∃ cur', (Zbh w B o vs).heap[B]? = some (.cells cur' T (0, 0)) ∧ cur'.size = cur.size ∧ (∀ p, (p < o ∨ o + vs.length ≤ p) → cur'[p]? = cur[p]?) ∧ ∀ q y, vs[q]? = some y → cur'[o + q]? = some y
 | [], w, o, cur, h, _ => ⟨cur, h, rfl, fun _ _ => rfl, fun q y hq => by simp at hq⟩
 | v :: vs, w, o, cur, h, hs => by
  simp only [List.length_cons] at hs;obtain ⟨cur', h1, h2, h3, h4⟩ := Zgu vs (w.setCell ⟨B, o, none⟩ v) (o + 1) (cur.setIfInBounds o v) (Za1 h v) (by simp; omega);refine ⟨cur', h1, by rw [h2]; simp, fun p hp => ?_, fun q y hq => ?_⟩
  ·simp only [List.length_cons] at hp;rw [h3 p (by omega), Array.getElem?_setIfInBounds_ne (by omega)]
  ·cases q with
   | zero =>
    obtain rfl : v = y := by simpa using hq
    rw [Nat.add_zero, h3 o (by omega), Array.getElem?_setIfInBounds_self_of_lt (by omega)]
   | succ q => rw [show o + (q + 1) = o + 1 + q by omega]; exact h4 q y (by simpa using hq)
theorem Zbg {b B : Nat} {a : World} (hB : b ≤ B) : ∀ (vs : List Value) (w : World) (o : Nat), Below b a w → Below b a (Zbh w B o vs)
 | [], _, _, h => h
 | v :: vs, w, o, h => Zbg hB vs _ _ (h.setCell hB v)
theorem Zbn {F : Nat → Prop} {B : Nat} {w : World} (hB : ¬ F B) : ∀ (vs : List Value) (x : World) (o : Nat), Zb F w x → Zb F w (Zbh x B o vs)
 | [], _, _, h => h
 | v :: vs, x, o, h => Zbn hB vs _ _ (h.set hB o v)
/-! ### A row that is being made -/
section
variable {α : Type} {El : Za6 α} {size : Nat} {T : TypeId} {B : Nat} {F G : Nat → Prop} {w x : World} {l : List α}
end
/-! ### How much there is -/
def Zck (n : Nat) (l : Int) : Int := if (n : Int) ≤ l then l - n else -1
theorem Za3 {n : Nat} {l : Int} (h : (n : Int) ≤ l) : Zck n l = l - n := by unfold Zck; rw [if_pos h]
theorem Zan {n : Nat} {l : Int} (h : l < n) : Zck n l = -1 := by unfold Zck; rw [if_neg (by omega)]
theorem Zae {m n : Int} (h : m = n) : Ending.returned (Value.int .i64 m) = Ending.returned (Value.int .i64 n) := by rw [h]
def Za8 {α : Type} (sz : α → Nat) : List α → Nat
 | [] => 0
 | a :: l => sz a + Za8 sz l
def Zv {α : Type} (sz : α → Nat) (l : List α) : Nat := l.length + Za8 sz l
theorem Zeq {α : Type} (sz : α → Nat) : ∀ (l : List α) (j : Nat) (h : j < l.length), Za8 sz (l.take (j + 1)) = Za8 sz (l.take j) + sz l[j]
 | a :: l, 0, _ => by simp [Za8]
 | a :: l, j + 1, h => by
  have := Zeq sz l j (by simpa using h);simp only [List.take_succ_cons, Za8, List.getElem_cons_succ]
  omega
theorem Zgv {α : Type} (sz : α → Nat) : ∀ (l : List α) (j : Nat), Za8 sz (l.take j) ≤ Za8 sz l
 | [], j => by simp [Za8]
 | a :: l, 0 => by simp [Za8]
 | a :: l, j + 1 => by
  have := Zgv sz l j;simp only [List.take_succ_cons, Za8]
  omega
theorem Zek {α : Type} (sz : α → Nat) : ∀ (l : List α) (a : α), a ∈ l → sz a ≤ Za8 sz l
 | b :: l, a, h => by
  simp only [Za8]
  rcases List.mem_cons.1 h with rfl | h
  ·omega
  ·have := Zek sz l a h; omega
end
section
structure Zc2 {α : Type} (S El : Za6 α) (size : Nat) : Prop where
 is : Zb2 S size
 el : ∀ {F w a cs}, S F w a cs → El F w a cs
 trim : ∀ {F w a cs}, S F w a cs → S (fun b => F b ∧ b < w.heap.size) w a cs
def Zah {α : Type} (S : Za6 α) (size : Nat) (T : TypeId) (F : Nat → Prop) (w : World) (l : List α) (v : Value) : Prop :=
 ∃ A c, v = .slice A l.length c ∧ l.length ≤ c ∧ c ≤ maxLen ∧ (0 < c → ∃ (b o : Nat) (cur : Array Value) (tag : Nat → Nat), A = some ⟨b, o, none⟩ ∧ F b ∧ w.heap[b]? = some (.cells cur T (0, 0)) ∧ (o = 0 ∧ o + c * size ≤ cur.size) ∧
  ∀ i (h : i < l.length), ∃ cs, S (fun x => (F x ∧ x ≠ b) ∧ tag x = i) w l[i] cs ∧ ∀ j x, cs[j]? = some x → cur[o + i * size + j]? = some x)
section
variable {α : Type} {S El : Za6 α} {size : Nat} {T : TypeId} {F G : Nat → Prop} {w x : World} {l : List α} {v : Value}
theorem Zc {w : World} {b : Nat} {o : Obj} (h : w.heap[b]? = some o) : b < w.heap.size := (Array.getElem?_eq_some_iff.1 h).1
theorem Zb.mono {F G : Nat → Prop} {w x : World} (h : Zb F w x) (hFG : ∀ b, G b → F b) : Zb G w x := ⟨h.size, fun b hb hl => h.same b (hFG b hb) hl⟩
theorem Zb.refl (F : Nat → Prop) (w : World) : Zb F w w := ⟨Nat.le_refl _, fun _ _ _ => rfl⟩
theorem Zah.nil (S : Za6 α) (size : Nat) (T : TypeId) (F : Nat → Prop) (w : World) : Zah S size T F w ([] : List α) (.slice none 0 0) := ⟨none, 0, rfl, Nat.le_refl _, Nat.zero_le _, fun h => by simp at h⟩
theorem Zah.keep (hE : Zb2 S size) (h : Zah S size T F w l v) (hFG : ∀ b, F b → G b) (hk : Zb F w x) : Zah S size T G x l v := by
 obtain ⟨A, c, rfl, h1, h2, h3⟩ := h;refine ⟨A, c, rfl, h1, h2, fun hp => ?_⟩;obtain ⟨b, o, cur, tag, e, hF, hb, hcp, hel⟩ := h3 hp;refine ⟨b, o, cur, tag, e, hFG b hF, (hk.same b hF (Zc hb)).trans hb, hcp, fun i hi => ?_⟩;obtain ⟨cs, hs, hc⟩ := hel i hi;exact ⟨cs, hE.keep hs (fun y hy => ⟨⟨hFG y hy.1.1, hy.1.2⟩, hy.2⟩) (hk.mono fun y hy => hy.1.1), hc⟩
theorem Zah.later (hE : Zb2 S size) (h : Zah S size T F w l v) (hl : Za w x) : Zah S size T F x l v := h.keep hE (fun _ hb => hb) (Zb.later hl)
theorem Zah.el (hE : Zc2 S El size) (h : Zah S size T F w l v) : Z5 El size F w l v := by
 obtain ⟨A, c, rfl, h1, h2, h3⟩ := h;refine ⟨A, c, rfl, h1, h2, fun i hi => ?_⟩;obtain ⟨b, o, cur, tag, e, hF, hb, hcp, hel⟩ := h3 (by omega);obtain ⟨cs, hs, hc⟩ := hel i hi;exact ⟨b, o, cs, e, hF, Zc hb, hE.el (hE.is.keep hs (fun y hy => hy.1.1) (Zb.refl _ _)), fun j y hy => (cell_of_row _ _ _ _ _ _ hb).trans (hc j y hy)⟩
theorem Zah.trim (hE : Zc2 S El size) (h : Zah S size T F w l v) : Zah S size T (fun b => F b ∧ b < w.heap.size) w l v := by
 obtain ⟨A, c, rfl, h1, h2, h3⟩ := h;refine ⟨A, c, rfl, h1, h2, fun hp => ?_⟩;obtain ⟨b, o, cur, tag, e, hF, hb, hcp, hel⟩ := h3 hp;refine ⟨b, o, cur, tag, e, ⟨hF, Zc hb⟩, hb, hcp, fun i hi => ?_⟩;obtain ⟨cs, hs, hc⟩ := hel i hi;exact ⟨cs, hE.is.keep (hE.trim hs) (fun y hy => ⟨⟨⟨hy.1.1.1, hy.2⟩, hy.1.1.2⟩, hy.1.2⟩) (Zb.refl _ _), hc⟩
end
theorem Zj2 {α : Type} {El : Za6 α} {size : Nat} (hE : Zb2 El size) (hflat : ∀ {F G w a cs}, El F w a cs → El G w a cs) : Zc2 El El size := ⟨hE, fun h => h, fun h => hflat h⟩
theorem Zw : Zc2 Zbe Zbe 1 := Zj2 Zt fun h => h
theorem Zap : Zc2 Zc1 Zc1 1 := Zj2 Zqy fun h => h
theorem Zer {F : Nat → Prop} {B : Nat} {w x : World} (hk : Zb (fun y => ¬ F y) w x) (h0 : Below 0 w x) (hF : ∀ b, F b → B ≤ b) (hB : B ≤ w.heap.size) : Below B w x :=
 ⟨h0.os, h0.tape, h0.output, h0.size, fun k h => hk.same k (fun hf => by have := hF k hf; omega) (by omega)⟩
/-! ### A row that is being made -/
def SMk {α : Type} (S : Za6 α) (size : Nat) (T : TypeId) (B : Nat) (l : List α) (j : Nat) (w : World) : Prop :=
 ∃ (cur : Array Value) (tag : Nat → Nat), w.heap[B]? = some (.cells cur T (0, 0)) ∧ cur.size = l.length * size ∧ ∀ i (h : i < l.length), i < j → ∃ cs, S (fun x => (B < x ∧ x < w.heap.size) ∧ tag x = i) w l[i] cs ∧ ∀ q x, cs[q]? = some x → cur[i * size + q]? = some x
section
variable {α : Type} {S El : Za6 α} {size : Nat} {T : TypeId} {B : Nat} {F G : Nat → Prop} {w x : World} {l : List α}
theorem SMk.start {cur : Array Value} (h : w.heap[B]? = some (.cells cur T (0, 0))) (hs : cur.size = l.length * size) : SMk S size T B l 0 w := ⟨cur, fun _ => 0, h, hs, fun i _ h => by omega⟩
theorem SMk.next {j : Nat} (hE : Zc2 S El size) (h : SMk S size T B l j w) (hl : Za w x) (hj : j < l.length) {cs : List Value} (he : S (fun b => w.heap.size ≤ b) x l[j] cs) : SMk S size T B l (j + 1) (Zbh x B (j * size) cs) := by
 obtain ⟨cur, tag, hB, hs, hall⟩ := h;have hBw := Zc hB;have hBx : x.heap[B]? = some (.cells cur T (0, 0)) := (hl.block B hBw).trans hB;have hlen := hE.is.len he;have hroom : j * size + size ≤ cur.size := by
  have : (j + 1) * size ≤ l.length * size := Nat.mul_le_mul_right _ hj;rw [Nat.add_mul, Nat.one_mul] at this
  omega
 obtain ⟨cur', h1, h2, h3, h4⟩ := Zgu cs x (j * size) cur hBx (by omega);have hkeep : ∀ {F : Nat → Prop}, ¬ F B → Zb F x (Zbh x B (j * size) cs) := fun hF => Zbn hF _ _ _ (Zb.refl _ _);have hsz := (hkeep (F := fun _ => False) (by simp)).size;refine ⟨cur', fun y => if w.heap.size ≤ y then j else tag y, h1, by omega, fun i hi hij => ?_⟩
 by_cases e : i = j
 ·subst e;exact ⟨cs, hE.is.keep (hE.trim he) (fun y hy => ⟨⟨by omega, by omega⟩, by simp [hy.1]⟩) (hkeep (by omega)), h4⟩
 ·obtain ⟨cs0, ha, hb⟩ := hall i hi (by omega);refine ⟨cs0, hE.is.keep ha (fun y hy => ⟨⟨hy.1.1, by have := hl.size; omega⟩, by show (if w.heap.size ≤ y then j else tag y) = i; rw [if_neg (by omega)]; exact hy.2⟩) ((Zb.later hl).trans (hkeep (by omega))), fun q y hq => ?_⟩;have hq' : q < size := by have := hE.is.len ha; have := (List.getElem?_eq_some_iff.1 hq).1; omega
  have : (i + 1) * size ≤ j * size := Nat.mul_le_mul_right _ (by omega);rw [Nat.add_mul, Nat.one_mul] at this;rw [h3 _ (by omega)];exact hb q y hq
theorem SMk.done (hE : Zc2 S El size) (h : SMk S size T B l l.length w) (hG : ∀ b, B ≤ b → G b) (hn : l.length ≤ maxLen) : Zah S size T G w l (.slice (some ⟨B, 0, none⟩) l.length l.length) := by
 obtain ⟨cur, tag, hB, hs, hall⟩ := h;refine ⟨_, _, rfl, Nat.le_refl _, hn, fun _ => ⟨B, 0, cur, tag, rfl, hG B (Nat.le_refl _), hB, ⟨rfl, by omega⟩, fun i hi => ?_⟩⟩;obtain ⟨cs, ha, hb⟩ := hall i hi hi;exact ⟨cs, hE.is.keep ha (fun y hy => ⟨⟨hG y (by omega), by omega⟩, hy.2⟩) (Zb.refl _ _), fun q y hq => by rw [Nat.zero_add]; exact hb q y hq⟩
theorem SMk.later {j : Nat} (hE : Zb2 S size) (h : SMk S size T B l j w) (hl : Za w x) : SMk S size T B l j x := by
 obtain ⟨cur, tag, hB, hs, hall⟩ := h;refine ⟨cur, tag, (hl.block B (Zc hB)).trans hB, hs, fun i hi hij => ?_⟩;obtain ⟨cs, ha, hb⟩ := hall i hi hij;exact ⟨cs, hE.keep ha (fun y hy => ⟨⟨hy.1.1, by have := hl.size; omega⟩, hy.2⟩) (Zb.later hl), hb⟩
theorem SMk.at_ {j : Nat} (h : SMk S size T B l j w) {k : Nat} (hk : k < l.length) : (∀ q, q < size → ∃ v, w.cell? ⟨B, k * size + q, none⟩ = some v) ∧ ∀ o, w.frozen? ⟨B, o, none⟩ = false := by
 obtain ⟨cur, tag, hB, hs, _⟩ := h;refine ⟨fun q hq => ?_, fun o => frozen_of_row _ _ _ _ _ hB⟩;have : (k + 1) * size ≤ l.length * size := Nat.mul_le_mul_right _ hk;rw [Nat.add_mul, Nat.one_mul] at this;exact ⟨cur[k * size + q]'(by omega), by rw [cell_of_row _ _ _ _ _ _ hB]; exact Array.getElem?_eq_getElem _⟩
theorem SMk.lt {j : Nat} (h : SMk S size T B l j w) : B < w.heap.size := by
 obtain ⟨cur, tag, hB, _⟩ := h;exact Zc hB
end
/-! ### A row that is being written over -/
def SAt {α : Type} (S : Za6 α) (size : Nat) (T : TypeId) (F : Nat → Prop) (b o n : Nat) (tag : Nat → Nat) (w : World) (l : List α) : Prop :=
 ∃ cur, w.heap[b]? = some (.cells cur T (0, 0)) ∧ n ≤ cur.size ∧ ∀ i (h : i < l.length), ∃ cs, S (fun x => (F x ∧ x ≠ b) ∧ tag x = i) w l[i] cs ∧ ∀ j x, cs[j]? = some x → cur[o + i * size + j]? = some x
def St (T : TypeId) (b base : Nat) (cur0 : Array Value) (vs : List Value) (w : World) : Prop :=
 ∃ cur, w.heap[b]? = some (.cells cur T (0, 0)) ∧ cur.size = cur0.size ∧ base + vs.length ≤ cur.size ∧ (∀ p, (p < base ∨ base + vs.length ≤ p) → cur[p]? = cur0[p]?) ∧ ∀ q y, vs[q]? = some y → cur[base + q]? = some y
section
variable {α : Type} {S El : Za6 α} {size : Nat} {T : TypeId} {b o n base : Nat} {tag : Nat → Nat} {F G : Nat → Prop} {w x : World} {l : List α} {cur0 : Array Value} {vs : List Value}
theorem St.keep (h : St T b base cur0 vs w) (hk : x.heap[b]? = w.heap[b]?) : St T b base cur0 vs x := by
 obtain ⟨cur, hb, h⟩ := h;exact ⟨cur, hk.trans hb, h⟩
theorem St.lt (h : St T b base cur0 vs w) : b < w.heap.size := by
 obtain ⟨cur, hb, h⟩ := h;exact Zc hb
theorem St.set (h : St T b base cur0 vs w) (q : Nat) (hq : q < vs.length) (u : Value) : St T b base cur0 (vs.set q u) (w.setCell ⟨b, base + q, none⟩ u) := by
 obtain ⟨cur, hb, hs, hr, ho, hi⟩ := h;refine ⟨_, Za1 hb u, by simpa using hs, by simpa using hr, fun p hp => ?_, fun q' y hy => ?_⟩
 ·simp only [List.length_set] at hp;rw [Array.getElem?_setIfInBounds_ne (by omega)];exact ho p hp
 ·by_cases e : q = q'
  ·subst e;rw [Array.getElem?_setIfInBounds_self_of_lt (by omega)]
   simpa [hq] using hy
  ·rw [Array.getElem?_setIfInBounds_ne (by omega)];exact hi q' y (by simpa [List.getElem?_set_ne e] using hy)
theorem St.cell (h : St T b base cur0 vs w) {q : Nat} {y : Value} (hy : vs[q]? = some y) : w.cell? ⟨b, base + q, none⟩ = some y := by
 obtain ⟨cur, hb, hs, hr, ho, hi⟩ := h;rw [cell_of_row _ _ _ _ _ _ hb];exact hi q y hy
theorem St.frozen (h : St T b base cur0 vs w) (o : Nat) : w.frozen? ⟨b, o, none⟩ = false := by
 obtain ⟨cur, hb, _⟩ := h;exact frozen_of_row _ _ _ _ _ hb
theorem SAt.open_ (hE : Zb2 S size) (h : SAt S size T F b o n tag w l) {i : Nat} (hi : i < l.length) :
  ∃ cur cs, w.heap[b]? = some (.cells cur T (0, 0)) ∧ S (fun x => (F x ∧ x ≠ b) ∧ tag x = i) w l[i] cs ∧ (0 < size → St T b (o + i * size) cur cs w) := by
 obtain ⟨cur, hb, hnc, hall⟩ := h;obtain ⟨cs, hs, hc⟩ := hall i hi;refine ⟨cur, cs, hb, hs, fun h0 => ⟨cur, hb, rfl, ?_, fun _ _ => rfl, hc⟩⟩;have hl := hE.len hs;obtain ⟨q, rfl⟩ : ∃ q, size = q + 1 := ⟨size - 1, by omega⟩;have h1 := hc q _ (List.getElem?_eq_getElem (by omega));have := (Array.getElem?_eq_some_iff.1 h1).1
 omega
theorem SAt.put (hE : Zb2 S size) (h : SAt S size T F b o n tag w l) {i : Nat} (hi : i < l.length) {cur : Array Value} (hc : w.heap[b]? = some (.cells cur T (0, 0))) {a : α} {cs : List Value}
  (hst : St T b (o + i * size) cur cs x) (hk : Zb (fun y => (F y ∧ y ≠ b) ∧ tag y ≠ i) w x) (hs : S (fun y => (F y ∧ y ≠ b) ∧ tag y = i) x a cs) : SAt S size T F b o n tag x (l.set i a) := by
 obtain ⟨cur1, hb, hnc, hall⟩ := h;obtain rfl : cur1 = cur := by rw [hb] at hc; cases hc; rfl
 obtain ⟨cur', hb', hsz, hr, ho, hin⟩ := hst;have hlen := hE.len hs;refine ⟨cur', hb', by omega, fun p hp => ?_⟩;simp only [List.length_set] at hp
 by_cases e : i = p
 ·subst e;rw [List.getElem_set_self];exact ⟨cs, hs, hin⟩
 ·rw [List.getElem_set_ne e];obtain ⟨cs0, ha, hcs⟩ := hall p hp;refine ⟨cs0, hE.keep ha (fun _ h => h) (hk.mono fun y hy => ⟨hy.1, fun h => e (h.symm.trans hy.2)⟩), fun q y hq => ?_⟩;have hq' : q < size := by have := hE.len ha; have := (List.getElem?_eq_some_iff.1 hq).1; omega
  rw [ho _ ?_]
  ·exact hcs q y hq
  ·rcases Nat.lt_or_gt_of_ne e with h | h
   ·have : (i + 1) * size ≤ p * size := Nat.mul_le_mul_right _ h;rw [Nat.add_mul, Nat.one_mul] at this
    omega
   ·have : (p + 1) * size ≤ i * size := Nat.mul_le_mul_right _ h;rw [Nat.add_mul, Nat.one_mul] at this
    omega
theorem SAt.row (h : SAt S size T F b o n tag w l) (hF : F b) {c : Nat} (hc : l.length ≤ c) (hm : c ≤ maxLen) (hn : o = 0 ∧ o + c * size ≤ n) : Zah S size T F w l (.slice (some ⟨b, o, none⟩) l.length c) := by
 obtain ⟨cur, hb, hnc, h⟩ := h;exact ⟨_, c, rfl, hc, hm, fun _ => ⟨b, o, cur, tag, rfl, hF, hb, ⟨hn.1, by omega⟩, h⟩⟩
end
/-! ### Marked rows -/
section
variable {α : Type} (mk : α → Int → α) (cnt : α → Nat)
def Zh : List α → Nat
 | [] => 0
 | a :: l => cnt a + Zh l
def Zd4 : List α → Int → Nat → List α
 | [], _, _ => []
 | a :: l, _, 0 => a :: l
 | a :: l, k, j + 1 => mk a k :: Zd4 l (k + cnt a) j
def Zcd (l : List α) (k : Int) : List α := Zd4 mk cnt l k l.length
theorem Zdt (l : List α) (k : Int) : Zd4 mk cnt l k 0 = l := by cases l <;> rfl
theorem Z6 : ∀ (l : List α) (k : Int) (j : Nat), (Zd4 mk cnt l k j).length = l.length
 | [], _, _ => rfl
 | a :: l, _, 0 => rfl
 | a :: l, k, j + 1 => by simp only [Zd4, List.length_cons, Z6 l]
theorem Zb3 (l : List α) (k : Int) : (Zcd mk cnt l k).length = l.length := Z6 _ _ _ _ _
theorem Zgd : ∀ (l : List α) (k : Int) (j : Nat) (h : j < l.length), (Zd4 mk cnt l k j)[j]'(by rw [Z6]; exact h) = l[j]
 | a :: l, _, 0, _ => rfl
 | a :: l, k, j + 1, h => by
  simp only [Zd4, List.getElem_cons_succ];exact Zgd l _ j (by simpa using h)
theorem Zdu : ∀ (l : List α) (k : Int) (j : Nat) (h : j < l.length), Zd4 mk cnt l k (j + 1) = (Zd4 mk cnt l k j).set j (mk l[j] (k + Zh cnt (l.take j)))
 | a :: l, k, 0, _ => by simp [Zd4, Zh, Zdt]
 | a :: l, k, j + 1, h => by
  have := Zdu l (k + cnt a) j (by simpa using h);simp only [Zd4, List.set_cons_succ, List.getElem_cons_succ, List.take_succ_cons, Zh] at this ⊢;rw [this]
  congr 3
  push_cast
  omega
theorem Zm5 : ∀ (l : List α) (k : Int) (j i : Nat) (h : i < l.length), i < j → (Zd4 mk cnt l k j)[i]'(by rw [Z6]; exact h) = mk l[i] (k + Zh cnt (l.take i))
 | a :: l, k, j + 1, 0, _, _ => by simp [Zd4, Zh]
 | a :: l, k, j + 1, i + 1, h, hj => by
  simp only [Zd4, List.getElem_cons_succ, List.take_succ_cons, Zh];rw [Zm5 l _ j i (by simpa using h) (by omega)]
  congr 1
  push_cast
  omega
theorem Zg9 (l : List α) (k : Int) (i : Nat) (h : i < l.length) : (Zcd mk cnt l k)[i]'(by rw [Zb3]; exact h) = mk l[i] (k + Zh cnt (l.take i)) := Zm5 _ _ _ _ _ _ h h
theorem Zbv : ∀ (l : List α) (j : Nat) (h : j < l.length), Zh cnt (l.take (j + 1)) = Zh cnt (l.take j) + cnt l[j]
 | a :: l, 0, _ => by simp [Zh]
 | a :: l, j + 1, h => by
  have := Zbv l j (by simpa using h);simp only [List.take_succ_cons, Zh, List.getElem_cons_succ]
  omega
theorem Za7 : ∀ (l : List α) (j : Nat), Zh cnt (l.take j) ≤ Zh cnt l
 | [], j => by simp [Zh]
 | a :: l, 0 => by simp [Zh]
 | a :: l, j + 1 => by
  have := Za7 l j;simp only [List.take_succ_cons, Zh]
  omega
end
end
structure Zam where
 name : ByteArray
 fields : List ByteArray
 line : Int
def Zao : Za6 Zam := fun F w r cs => ∃ aE, cs = [.string r.name, aE, .int .i64 r.line] ∧ r.name.size ≤ maxLen ∧ Z5 Zbe 1 F w r.fields aE ∧ Zi r.line
theorem Z7 : Zb2 Zao 3 where
 len := fun ⟨_, e, _⟩ => by rw [e]; rfl
 keep := fun ⟨aE, e, h0, h1, h2⟩ hFG hk => ⟨aE, e, h0, h1.keep Zt hFG hk, h2⟩
def Zo (r : Zam) : Nat := r.name.size + (Zv ByteArray.size r.fields)
def Zaa : Za6 Zam := fun F w r cs => ∃ (tag : Nat → Nat) (aE : Value), cs = [.string r.name, aE, .int .i64 r.line] ∧ r.name.size ≤ maxLen ∧ Zah Zbe 1 9 (fun y => F y ∧ tag y = 0) w r.fields aE ∧ Zi r.line
theorem Zj : Zc2 Zaa Zao 3 where
 is := {
  len := fun ⟨_, _, e, _⟩ => by rw [e]; rfl
  keep := fun ⟨tag, aE, e, h0, h1, h2⟩ hFG hk => ⟨tag, aE, e, h0, h1.keep Zw.is (fun y hy => ⟨hFG y hy.1, hy.2⟩) (hk.mono fun y hy => hy.1), h2⟩ }
 el := fun ⟨tag, aE, e, h0, h1, h2⟩ => ⟨aE, e, h0, (h1.el Zw).keep Zt (fun y hy => hy.1) (Zb.refl _ _), h2⟩
 trim := fun ⟨tag, aE, e, h0, h1, h2⟩ => ⟨tag, aE, e, h0, (h1.trim Zw).keep Zw.is (fun y hy => ⟨⟨hy.1.1, hy.2⟩, hy.1.2⟩) (Zb.refl _ _), h2⟩
structure Zd where
 kind : Int
 op : Int
 aB : Int
 line : Int
 text : ByteArray
 kids : List Zd
def Zdf (K : Za6 Zd) : Za6 Zd := fun F w r cs => ∃ vkids, cs = [.int .i64 r.kind, .int .i64 r.op, .int .i64 r.aB, .int .i64 r.line, .string r.text, vkids] ∧ Zi r.kind ∧ Zi r.op ∧ Zi r.aB ∧ Zi r.line ∧ r.text.size ≤ maxLen ∧ Z5 K 6 F w r.kids vkids
theorem Zcl {K : Za6 Zd} (hK : Zb2 K 6) : Zb2 (Zdf K) 6 where
 len := fun ⟨_, e, _⟩ => by rw [e]; rfl
 keep := fun ⟨vkids, e, h0, h1, h2, h3, h4, h5⟩ hFG hk => ⟨vkids, e, h0, h1, h2, h3, h4, h5.keep hK hFG hk⟩
def Za2 (sK : Zd → Nat) (r : Zd) : Nat := r.text.size + (Zv sK r.kids)
def Zge (S : Za6 Zd) : Za6 Zd := fun F w r cs => ∃ (tag : Nat → Nat) (vkids : Value), cs = [.int .i64 r.kind, .int .i64 r.op, .int .i64 r.aB, .int .i64 r.line, .string r.text, vkids] ∧ Zi r.kind ∧ Zi r.op ∧ Zi r.aB ∧ Zi r.line ∧ r.text.size ≤ maxLen ∧ Zah S 6 68 (fun y => F y ∧ tag y = 0) w r.kids vkids
theorem Zel {S K : Za6 Zd} (hS : Zc2 S K 6) (hK : Zb2 K 6) : Zc2 (Zge S) (Zdf K) 6 where
 is := {
  len := fun ⟨_, _, e, _⟩ => by rw [e]; rfl
  keep := fun ⟨tag, vkids, e, h0, h1, h2, h3, h4, h5⟩ hFG hk => ⟨tag, vkids, e, h0, h1, h2, h3, h4, h5.keep hS.is (fun y hy => ⟨hFG y hy.1, hy.2⟩) (hk.mono fun y hy => hy.1)⟩ }
 el := fun ⟨tag, vkids, e, h0, h1, h2, h3, h4, h5⟩ => ⟨vkids, e, h0, h1, h2, h3, h4, (h5.el hS).keep hK (fun y hy => hy.1) (Zb.refl _ _)⟩
 trim := fun ⟨tag, vkids, e, h0, h1, h2, h3, h4, h5⟩ => ⟨tag, vkids, e, h0, h1, h2, h3, h4, (h5.trim hS).keep hS.is (fun y hy => ⟨⟨hy.1.1, hy.2⟩, hy.1.2⟩) (Zb.refl _ _)⟩
structure Zaw where
 name : ByteArray
 params : Int
 slots : List ByteArray
 body : Zd
def Zby (K : Za6 Zd) : Za6 Zaw := fun F w r cs => ∃ vslots vbodykids, cs = [.string r.name, .int .i64 r.params, vslots, .int .i64 r.body.kind, .int .i64 r.body.op, .int .i64 r.body.aB, .int .i64 r.body.line, .string r.body.text, vbodykids] ∧ r.name.size ≤ maxLen ∧ Zi r.params ∧ Z5 Zbe 1 F w r.slots vslots ∧ Zi r.body.kind ∧ Zi r.body.op ∧ Zi r.body.aB ∧ Zi r.body.line ∧ r.body.text.size ≤ maxLen ∧ Z5 K 6 F w r.body.kids vbodykids
theorem Za9 {K : Za6 Zd} (hK : Zb2 K 6) : Zb2 (Zby K) 9 where
 len := fun ⟨_, _, e, _⟩ => by rw [e]; rfl
 keep := fun ⟨vslots, vbodykids, e, h0, h1, h2, h3, h4, h5, h6, h7, h8⟩ hFG hk => ⟨vslots, vbodykids, e, h0, h1, h2.keep Zt hFG hk, h3, h4, h5, h6, h7, h8.keep hK hFG hk⟩
def Zy (sK : Zd → Nat) (r : Zaw) : Nat := r.name.size + (Zv ByteArray.size r.slots + ((Za2 sK) r.body))
def Zcw (S : Za6 Zd) : Za6 Zaw := fun F w r cs => ∃ (tag : Nat → Nat) (vslots : Value) (vbodykids : Value), cs = [.string r.name, .int .i64 r.params, vslots, .int .i64 r.body.kind, .int .i64 r.body.op, .int .i64 r.body.aB, .int .i64 r.body.line, .string r.body.text, vbodykids] ∧ r.name.size ≤ maxLen ∧ Zi r.params ∧ Zah Zbe 1 9 (fun y => F y ∧ tag y = 0) w r.slots vslots ∧ Zi r.body.kind ∧ Zi r.body.op ∧ Zi r.body.aB ∧ Zi r.body.line ∧ r.body.text.size ≤ maxLen ∧ Zah S 6 68 (fun y => F y ∧ tag y = 1) w r.body.kids vbodykids
theorem Zai {S K : Za6 Zd} (hS : Zc2 S K 6) (hK : Zb2 K 6) : Zc2 (Zcw S) (Zby K) 9 where
 is := {
  len := fun ⟨_, _, _, e, _⟩ => by rw [e]; rfl
  keep := fun ⟨tag, vslots, vbodykids, e, h0, h1, h2, h3, h4, h5, h6, h7, h8⟩ hFG hk => ⟨tag, vslots, vbodykids, e, h0, h1, h2.keep Zw.is (fun y hy => ⟨hFG y hy.1, hy.2⟩) (hk.mono fun y hy => hy.1), h3, h4, h5, h6, h7, h8.keep hS.is (fun y hy => ⟨hFG y hy.1, hy.2⟩) (hk.mono fun y hy => hy.1)⟩ }
 el := fun ⟨tag, vslots, vbodykids, e, h0, h1, h2, h3, h4, h5, h6, h7, h8⟩ => ⟨vslots, vbodykids, e, h0, h1, (h2.el Zw).keep Zt (fun y hy => hy.1) (Zb.refl _ _), h3, h4, h5, h6, h7, (h8.el hS).keep hK (fun y hy => hy.1) (Zb.refl _ _)⟩
 trim := fun ⟨tag, vslots, vbodykids, e, h0, h1, h2, h3, h4, h5, h6, h7, h8⟩ => ⟨tag, vslots, vbodykids, e, h0, h1, (h2.trim Zw).keep Zw.is (fun y hy => ⟨⟨hy.1.1, hy.2⟩, hy.1.2⟩) (Zb.refl _ _), h3, h4, h5, h6, h7, (h8.trim hS).keep hS.is (fun y hy => ⟨⟨hy.1.1, hy.2⟩, hy.1.2⟩) (Zb.refl _ _)⟩
structure Zu where
 routines : List Zaw
 aA : List Zam
 globals : List ByteArray
 main : Int
def Zdj (K : Za6 Zd) : Za6 Zu := fun F w r cs => ∃ vroutines aC aD, cs = [vroutines, aC, aD, .int .i64 r.main] ∧ Z5 (Zby K) 9 F w r.routines vroutines ∧ Z5 Zao 3 F w r.aA aC ∧ Z5 Zbe 1 F w r.globals aD ∧ Zi r.main
theorem Zc7 {K : Za6 Zd} (hK : Zb2 K 6) : Zb2 (Zdj K) 4 where
 len := fun ⟨_, _, _, e, _⟩ => by rw [e]; rfl
 keep := fun ⟨vroutines, aC, aD, e, h0, h1, h2, h3⟩ hFG hk => ⟨vroutines, aC, aD, e, h0.keep (Za9 hK) hFG hk, h1.keep Z7 hFG hk, h2.keep Zt hFG hk, h3⟩
def Zab (sK : Zd → Nat) (r : Zu) : Nat := Zv (Zy sK) r.routines + (Zv Zo r.aA + (Zv ByteArray.size r.globals))
def Zfh (S : Za6 Zd) : Za6 Zu := fun F w r cs => ∃ (tag : Nat → Nat) (vroutines : Value) (aC : Value) (aD : Value), cs = [vroutines, aC, aD, .int .i64 r.main] ∧ Zah (Zcw S) 9 70 (fun y => F y ∧ tag y = 0) w r.routines vroutines ∧ Zah Zaa 3 101 (fun y => F y ∧ tag y = 1) w r.aA aC ∧ Zah Zbe 1 9 (fun y => F y ∧ tag y = 2) w r.globals aD ∧ Zi r.main
theorem Zbb {S K : Za6 Zd} (hS : Zc2 S K 6) (hK : Zb2 K 6) : Zc2 (Zfh S) (Zdj K) 4 where
 is := {
  len := fun ⟨_, _, _, _, e, _⟩ => by rw [e]; rfl
  keep := fun ⟨tag, vroutines, aC, aD, e, h0, h1, h2, h3⟩ hFG hk => ⟨tag, vroutines, aC, aD, e, h0.keep (Zai hS hK).is (fun y hy => ⟨hFG y hy.1, hy.2⟩) (hk.mono fun y hy => hy.1), h1.keep Zj.is (fun y hy => ⟨hFG y hy.1, hy.2⟩) (hk.mono fun y hy => hy.1), h2.keep Zw.is (fun y hy => ⟨hFG y hy.1, hy.2⟩) (hk.mono fun y hy => hy.1), h3⟩ }
 el := fun ⟨tag, vroutines, aC, aD, e, h0, h1, h2, h3⟩ => ⟨vroutines, aC, aD, e, (h0.el (Zai hS hK)).keep (Za9 hK) (fun y hy => hy.1) (Zb.refl _ _), (h1.el Zj).keep Z7 (fun y hy => hy.1) (Zb.refl _ _), (h2.el Zw).keep Zt (fun y hy => hy.1) (Zb.refl _ _), h3⟩
 trim := fun ⟨tag, vroutines, aC, aD, e, h0, h1, h2, h3⟩ => ⟨tag, vroutines, aC, aD, e, (h0.trim (Zai hS hK)).keep (Zai hS hK).is (fun y hy => ⟨⟨hy.1.1, hy.2⟩, hy.1.2⟩) (Zb.refl _ _), (h1.trim Zj).keep Zj.is (fun y hy => ⟨⟨hy.1.1, hy.2⟩, hy.1.2⟩) (Zb.refl _ _), (h2.trim Zw).keep Zw.is (fun y hy => ⟨⟨hy.1.1, hy.2⟩, hy.1.2⟩) (Zb.refl _ _), h3⟩
structure Zar where
 name : ByteArray
 params : Int
 slots : Int
 entry : Int
def Zaj : Za6 Zar := fun _ _ r cs => cs = [.string r.name, .int .i64 r.params, .int .i64 r.slots, .int .i64 r.entry] ∧ r.name.size ≤ maxLen ∧ Zi r.params ∧ Zi r.slots ∧ Zi r.entry
theorem Zau : Zb2 Zaj 4 where
 len := fun ⟨e, _⟩ => by rw [e]; rfl
 keep := fun ⟨e, h0, h1, h2, h3⟩ _ _ => ⟨e, h0, h1, h2, h3⟩
theorem Zac : Zc2 Zaj Zaj 4 := Zj2 Zau fun h => h
structure Ze where
 op : Int
 a : Int
 b : Int
 line : Int
 text : ByteArray
def Zbi : Za6 Ze := fun _ _ r cs => cs = [.int .i64 r.op, .int .i64 r.a, .int .i64 r.b, .int .i64 r.line, .string r.text] ∧ Zi r.op ∧ Zi r.a ∧ Zi r.b ∧ Zi r.line ∧ r.text.size ≤ maxLen
theorem Zcf : Zb2 Zbi 5 where
 len := fun ⟨e, _⟩ => by rw [e]; rfl
 keep := fun ⟨e, h0, h1, h2, h3, h4⟩ _ _ => ⟨e, h0, h1, h2, h3, h4⟩
theorem Z9 : Zc2 Zbi Zbi 5 := Zj2 Zcf fun h => h
structure Zfi where
 routines : List Zar
 aA : List Zam
 globals : List ByteArray
 main : Int
 instrs : List Ze
def Zmi : Za6 Zfi := fun F w r cs => ∃ vroutines aC aD vinstrs, cs = [vroutines, aC, aD, .int .i64 r.main, vinstrs] ∧ Z5 Zaj 4 F w r.routines vroutines ∧ Z5 Zao 3 F w r.aA aC ∧ Z5 Zbe 1 F w r.globals aD ∧ Zi r.main ∧ Z5 Zbi 5 F w r.instrs vinstrs
def Zj6 : Za6 Zfi := fun F w r cs => ∃ (tag : Nat → Nat) (vroutines : Value) (aC : Value) (aD : Value) (vinstrs : Value), cs = [vroutines, aC, aD, .int .i64 r.main, vinstrs] ∧ Zah Zaj 4 72 (fun y => F y ∧ tag y = 0) w r.routines vroutines ∧ Zah Zaa 3 101 (fun y => F y ∧ tag y = 1) w r.aA aC ∧ Zah Zbe 1 9 (fun y => F y ∧ tag y = 2) w r.globals aD ∧ Zi r.main ∧ Zah Zbi 5 134 (fun y => F y ∧ tag y = 3) w r.instrs vinstrs
theorem Zz : Zc2 Zj6 Zmi 5 where
 is := {
  len := fun ⟨_, _, _, _, _, e, _⟩ => by rw [e]; rfl
  keep := fun ⟨tag, vroutines, aC, aD, vinstrs, e, h0, h1, h2, h3, h4⟩ hFG hk => ⟨tag, vroutines, aC, aD, vinstrs, e, h0.keep Zac.is (fun y hy => ⟨hFG y hy.1, hy.2⟩) (hk.mono fun y hy => hy.1), h1.keep Zj.is (fun y hy => ⟨hFG y hy.1, hy.2⟩) (hk.mono fun y hy => hy.1), h2.keep Zw.is (fun y hy => ⟨hFG y hy.1, hy.2⟩) (hk.mono fun y hy => hy.1), h3, h4.keep Z9.is (fun y hy => ⟨hFG y hy.1, hy.2⟩) (hk.mono fun y hy => hy.1)⟩ }
 el := fun ⟨tag, vroutines, aC, aD, vinstrs, e, h0, h1, h2, h3, h4⟩ => ⟨vroutines, aC, aD, vinstrs, e, (h0.el Zac).keep Zau (fun y hy => hy.1) (Zb.refl _ _), (h1.el Zj).keep Z7 (fun y hy => hy.1) (Zb.refl _ _), (h2.el Zw).keep Zt (fun y hy => hy.1) (Zb.refl _ _), h3, (h4.el Z9).keep Zcf (fun y hy => hy.1) (Zb.refl _ _)⟩
 trim := fun ⟨tag, vroutines, aC, aD, vinstrs, e, h0, h1, h2, h3, h4⟩ => ⟨tag, vroutines, aC, aD, vinstrs, e, (h0.trim Zac).keep Zac.is (fun y hy => ⟨⟨hy.1.1, hy.2⟩, hy.1.2⟩) (Zb.refl _ _), (h1.trim Zj).keep Zj.is (fun y hy => ⟨⟨hy.1.1, hy.2⟩, hy.1.2⟩) (Zb.refl _ _), (h2.trim Zw).keep Zw.is (fun y hy => ⟨⟨hy.1.1, hy.2⟩, hy.1.2⟩) (Zb.refl _ _), h3, (h4.trim Z9).keep Z9.is (fun y hy => ⟨⟨hy.1.1, hy.2⟩, hy.1.2⟩) (Zb.refl _ _)⟩
def Zds : Nat → Za6 Zd
 | 0 => fun _ _ _ _ => False
 | n + 1 => Zdf (Zds n)
def Zm6 : Nat → Za6 Zd
 | 0 => fun _ _ _ _ => False
 | n + 1 => Zge (Zm6 n)
theorem Zad : ∀ n, Zb2 (Zds n) 6
 | 0 => ⟨fun h => h.elim, fun h _ _ => h⟩
 | n + 1 => Zcl (Zad n)
theorem Zbl : ∀ n, Zc2 (Zm6 n) (Zds n) 6
 | 0 => ⟨⟨fun h => h.elim, fun h _ _ => h⟩, fun h => h, fun h => h⟩
 | n + 1 => Zel (Zbl n) (Zad n)
def szN : Nat → Zd → Nat
 | 0 => fun _ => 0
 | n + 1 => Za2 (szN n)
section
structure Zr where
 every : Bool
 marks : Nat
 begin_ : Nat
def Zg (op a line : Int) : Ze := ⟨op, a, 0, line, ⟨#[]⟩⟩
def unm (n : Nat) (line : Int) : List Ze := List.replicate n (Zg 14 0 line)
def Zei (i : Nat) (a : Int) (L : List Ze) : List Ze := match L[i]? with
 | some x => L.set i { x with a := a }
 | none => L
def Zbz (base : Nat) (a : Int) : List Nat → List Ze → List Ze
 | [], L => L
 | i :: is, L => Zbz base a is (Zei (i - base) a L)
abbrev Cg := Zd → Nat → Option Zr → Nat → List Ze × List Nat
def Z4 (rc : Cg) : List Zd → Nat → Option Zr → Nat → List Ze × List Nat
 | [], _, _, _ => ([], [])
 | c :: l, m, lp, b => ((rc c m lp b).1 ++ (Z4 rc l m lp (b + (rc c m lp b).1.length)).1, (rc c m lp b).2 ++ (Z4 rc l m lp (b + (rc c m lp b).1.length)).2)
def bnd (rc : Cg) (c : Zd) (m : Nat) (lp : Option Zr) (b : Nat) (a : Int) : List Ze := Zg 13 a c.line :: ((rc c (m + 1) lp (b + 1)).1 ++ [Zg 14 0 c.line])
def Zaq (rc : Cg) (c : Zd) (m : Nat) (lp : Option Zr) (b : Nat) : Nat := (rc c (m + 1) lp (b + 1)).1.length + 2
def Zbt (rc : Cg) : List Zd → Nat → Option Zr → Nat → List Ze × List Nat
 | [], _, _, _ => ([], [])
 | [c], m, lp, b => rc c m lp b
 | c :: l, m, lp, b => (bnd rc c m lp b ((b + Zaq rc c m lp b : Nat) : Int) ++ (Zbt rc l m lp (b + Zaq rc c m lp b)).1, (rc c (m + 1) lp (b + 1)).2 ++ (Zbt rc l m lp (b + Zaq rc c m lp b)).2)
def cZ : Zd := ⟨0, 0, 0, 0, ⟨#[]⟩, []⟩
def Zd.kid (c : Zd) (i : Nat) : Zd := c.kids.getD i cZ
def Zk (rc : Cg) (c : Zd) (m : Nat) (lp : Option Zr) (b : Nat) : List Ze × List Nat :=
 if c.kind = 28 then ([Zg 16 0 c.line], [])
 else if c.kind = 11 ∨ c.kind = 12 then ((Z4 rc c.kids m lp b).1 ++ [⟨c.kind, c.op, c.kids.length, c.line, ⟨#[]⟩⟩], (Z4 rc c.kids m lp b).2)
 else if c.kind = 13 then
  let r0 := rc (c.kid 0) m lp (b + 1)
  let r1 := rc (c.kid 1) m lp (b + 1 + r0.1.length + 1)
  (Zg 17 (b + 1 + r0.1.length + 1 : Nat) c.line :: (r0.1 ++ Zg 15 (b + 1 + r0.1.length + 1 + r1.1.length : Nat) c.line :: r1.1), r0.2 ++ r1.2)
 else if c.kind = 14 then
  let r0 := rc (c.kid 0) (m + 1) lp (b + 2)
  (Zg 18 0 c.line :: Zg 13 (-1) c.line :: (r0.1 ++ [Zg 19 b c.line]), r0.2)
 else if c.kind = 15 then
  let r1 := rc (c.kid 1) m lp b
  let r0 := rc (c.kid 0) (m + 1) lp (b + r1.1.length + 1)
  (r1.1 ++ Zg 20 0 c.line :: (r0.1 ++ [Zg 21 0 c.line]), r1.2 ++ r0.2)
 else if c.kind = 16 then Zbt rc c.kids m lp b
 else if c.kind = 17 then
  let r0 := rc (c.kid 0) (m + 1) lp (b + 1)
  let b1 := b + r0.1.length + 2
  let r1 := rc (c.kid 1) m lp b1
  let b2 := b1 + r1.1.length + 1
  let r2 := rc (c.kid 2) m lp b2
  (bnd rc (c.kid 0) m lp b (b2 : Nat) ++ (r1.1 ++ Zg 15 (b2 + r2.1.length : Nat) c.line :: r2.1), r0.2 ++ (r1.2 ++ r2.2))
 else if c.kind = 18 then
  let b1 := b + 1 + Zaq rc (c.kid 0) m none (b + 1)
  let r1 := rc (c.kid 1) (m + 1) (some ⟨false, m, b⟩) (b1 + 1)
  let b2 := b1 + r1.1.length + 2
  (Zbz b (b2 + 2 : Nat) r1.2 (Zg 18 0 c.line :: (bnd rc (c.kid 0) m none (b + 1) (b2 + 1 : Nat) ++ (bnd rc (c.kid 1) m (some ⟨false, m, b⟩) b1 b ++ [Zg 15 b c.line, Zg 16 0 c.line]))), [])
 else if c.kind = 19 then
  let r0 := rc (c.kid 0) (m + 1) none (b + 1)
  let b1 := b + 1 + r0.1.length + 1
  let r1 := rc (c.kid 1) (m + 1 + 1) (some ⟨true, m, 0⟩) (b1 + 1)
  let b2 := b1 + r1.1.length + 2
  (Zbz b (b2 + 1 : Nat) r1.2 (Zg 13 (-1) c.line :: (r0.1 ++ Zg 30 0 c.line :: (bnd rc (c.kid 1) (m + 1) (some ⟨true, m, 0⟩) b1 (b2 : Nat) ++ [Zg 16 0 c.line]))), [])
 else if c.kind = 20 then (match lp with
  | none => ([], [])
  | some x =>
   let r0 := rc (c.kid 0) x.marks none (b + (m - x.marks))
   (unm (m - x.marks) c.line ++ (r0.1 ++ [Zg 15 0 c.line]), [b + (m - x.marks) + r0.1.length]))
 else if c.kind = 21 then (match lp with
  | none => ([], [])
  | some x => if x.every = true then (unm (m - x.marks - 1) c.line ++ [Zg 16 0 c.line], []) else (unm (m - x.marks) c.line ++ [Zg 15 x.begin_ c.line], []))
 else if c.kind = 22 then
  let r0 := rc (c.kid 0) m lp b
  let r1 := rc (c.kid 1) m lp (b + r0.1.length + 1)
  (r0.1 ++ Zg 22 0 c.line :: (r1.1 ++ [Zg 23 0 c.line]), r0.2 ++ r1.2)
 else if c.kind = 23 then
  let r0 := rc (c.kid 0) (m + 1) lp (b + 1)
  (Zg 13 (b + 1 + r0.1.length + 1 : Nat) c.line :: (r0.1 ++ [Zg 24 0 c.line, Zg 25 0 c.line]), r0.2)
 else if c.kind = 24 then ([Zg 25 0 c.line], [])
 else if c.kind = 25 then
  let r0 := rc (c.kid 0) m lp b
  let b1 := b + r0.1.length + 1
  let r1 := rc (c.kid 1) (m + 1) lp (b1 + 1)
  (r0.1 ++ Zg 26 0 c.line :: (bnd rc (c.kid 1) m lp b1 (b1 + Zaq rc (c.kid 1) m lp b1 : Nat) ++ [Zg 16 0 c.line]), r0.2 ++ r1.2)
 else if c.kind = 26 then
  let r0 := rc (c.kid 0) 0 none (b + 2)
  (Zg 27 (b + 2 : Nat) c.line :: Zg 15 (b + 2 + r0.1.length + 1 : Nat) c.line :: (r0.1 ++ [Zg 28 0 c.line]), [])
 else if c.kind = 27 then
  let r0 := rc (c.kid 0) m lp b
  (r0.1 ++ [Zg 29 0 c.line], r0.2)
 else ([⟨c.kind, c.aB, 0, c.line, c.text⟩], [])
def cg : Nat → Cg
 | 0 => fun _ _ _ _ => ([], [])
 | n + 1 => Zk (cg n)
/-! ### Each kind -/
theorem Zfj {rc : Cg} {c : Zd} {m : Nat} {lp : Option Zr} {b : Nat} (h : c.kind = 28) : Zk rc c m lp b = (
  ([Zg 16 0 c.line], [])) := by
 unfold Zk;rw [if_pos h]
theorem Zbc {rc : Cg} {c : Zd} {m : Nat} {lp : Option Zr} {b : Nat} (h : c.kind = 11 ∨ c.kind = 12) : Zk rc c m lp b = (
  ((Z4 rc c.kids m lp b).1 ++ [⟨c.kind, c.op, c.kids.length, c.line, ⟨#[]⟩⟩], (Z4 rc c.kids m lp b).2)) := by
 unfold Zk;rw [if_neg (by omega), if_pos h]
theorem Zfk {rc : Cg} {c : Zd} {m : Nat} {lp : Option Zr} {b : Nat} (h : c.kind = 13) : Zk rc c m lp b = (
  let r0 := rc (c.kid 0) m lp (b + 1)
  let r1 := rc (c.kid 1) m lp (b + 1 + r0.1.length + 1)
  (Zg 17 (b + 1 + r0.1.length + 1 : Nat) c.line :: (r0.1 ++ Zg 15 (b + 1 + r0.1.length + 1 + r1.1.length : Nat) c.line :: r1.1), r0.2 ++ r1.2)) := by
 unfold Zk;rw [if_neg (by omega), if_neg (by omega), if_pos h]
theorem Zfl {rc : Cg} {c : Zd} {m : Nat} {lp : Option Zr} {b : Nat} (h : c.kind = 14) : Zk rc c m lp b = (
  let r0 := rc (c.kid 0) (m + 1) lp (b + 2)
  (Zg 18 0 c.line :: Zg 13 (-1) c.line :: (r0.1 ++ [Zg 19 b c.line]), r0.2)) := by
 unfold Zk;rw [if_neg (by omega), if_neg (by omega), if_neg (by omega), if_pos h]
theorem Zfm {rc : Cg} {c : Zd} {m : Nat} {lp : Option Zr} {b : Nat} (h : c.kind = 15) : Zk rc c m lp b = (
  let r1 := rc (c.kid 1) m lp b
  let r0 := rc (c.kid 0) (m + 1) lp (b + r1.1.length + 1)
  (r1.1 ++ Zg 20 0 c.line :: (r0.1 ++ [Zg 21 0 c.line]), r1.2 ++ r0.2)) := by
 unfold Zk;rw [if_neg (by omega), if_neg (by omega), if_neg (by omega), if_neg (by omega), if_pos h]
theorem Zfn {rc : Cg} {c : Zd} {m : Nat} {lp : Option Zr} {b : Nat} (h : c.kind = 16) : Zk rc c m lp b = (
  Zbt rc c.kids m lp b) := by
 unfold Zk;rw [if_neg (by omega), if_neg (by omega), if_neg (by omega), if_neg (by omega), if_neg (by omega), if_pos h]
theorem Zfo {rc : Cg} {c : Zd} {m : Nat} {lp : Option Zr} {b : Nat} (h : c.kind = 17) : Zk rc c m lp b = (
  let r0 := rc (c.kid 0) (m + 1) lp (b + 1)
  let b1 := b + r0.1.length + 2
  let r1 := rc (c.kid 1) m lp b1
  let b2 := b1 + r1.1.length + 1
  let r2 := rc (c.kid 2) m lp b2
  (bnd rc (c.kid 0) m lp b (b2 : Nat) ++ (r1.1 ++ Zg 15 (b2 + r2.1.length : Nat) c.line :: r2.1), r0.2 ++ (r1.2 ++ r2.2))) := by
 unfold Zk;rw [if_neg (by omega), if_neg (by omega), if_neg (by omega), if_neg (by omega), if_neg (by omega), if_neg (by omega), if_pos h]
theorem Zem {rc : Cg} {c : Zd} {m : Nat} {lp : Option Zr} {b : Nat} (h : c.kind = 18) : Zk rc c m lp b = (
  let b1 := b + 1 + Zaq rc (c.kid 0) m none (b + 1)
  let r1 := rc (c.kid 1) (m + 1) (some ⟨false, m, b⟩) (b1 + 1)
  let b2 := b1 + r1.1.length + 2
  (Zbz b (b2 + 2 : Nat) r1.2 (Zg 18 0 c.line :: (bnd rc (c.kid 0) m none (b + 1) (b2 + 1 : Nat) ++ (bnd rc (c.kid 1) m (some ⟨false, m, b⟩) b1 b ++ [Zg 15 b c.line, Zg 16 0 c.line]))), [])) := by
 unfold Zk;rw [if_neg (by omega), if_neg (by omega), if_neg (by omega), if_neg (by omega), if_neg (by omega), if_neg (by omega), if_neg (by omega), if_pos h]
theorem Zfp {rc : Cg} {c : Zd} {m : Nat} {lp : Option Zr} {b : Nat} (h : c.kind = 19) : Zk rc c m lp b = (
  let r0 := rc (c.kid 0) (m + 1) none (b + 1)
  let b1 := b + 1 + r0.1.length + 1
  let r1 := rc (c.kid 1) (m + 1 + 1) (some ⟨true, m, 0⟩) (b1 + 1)
  let b2 := b1 + r1.1.length + 2
  (Zbz b (b2 + 1 : Nat) r1.2 (Zg 13 (-1) c.line :: (r0.1 ++ Zg 30 0 c.line :: (bnd rc (c.kid 1) (m + 1) (some ⟨true, m, 0⟩) b1 (b2 : Nat) ++ [Zg 16 0 c.line]))), [])) := by
 unfold Zk;rw [if_neg (by omega), if_neg (by omega), if_neg (by omega), if_neg (by omega), if_neg (by omega), if_neg (by omega), if_neg (by omega), if_neg (by omega), if_pos h]
theorem Zen {rc : Cg} {c : Zd} {m : Nat} {lp : Option Zr} {b : Nat} (h : c.kind = 20) : Zk rc c m lp b = (
  (match lp with
  | none => ([], [])
  | some x =>
   let r0 := rc (c.kid 0) x.marks none (b + (m - x.marks))
   (unm (m - x.marks) c.line ++ (r0.1 ++ [Zg 15 0 c.line]), [b + (m - x.marks) + r0.1.length]))) := by
 unfold Zk;rw [if_neg (by omega), if_neg (by omega), if_neg (by omega), if_neg (by omega), if_neg (by omega), if_neg (by omega), if_neg (by omega), if_neg (by omega), if_neg (by omega), if_pos h]
theorem Zdv {rc : Cg} {c : Zd} {m : Nat} {lp : Option Zr} {b : Nat} (h : c.kind = 21) : Zk rc c m lp b = (
  (match lp with
  | none => ([], [])
  | some x => if x.every = true then (unm (m - x.marks - 1) c.line ++ [Zg 16 0 c.line], []) else (unm (m - x.marks) c.line ++ [Zg 15 x.begin_ c.line], []))) := by
 unfold Zk;rw [if_neg (by omega), if_neg (by omega), if_neg (by omega), if_neg (by omega), if_neg (by omega), if_neg (by omega), if_neg (by omega), if_neg (by omega), if_neg (by omega), if_neg (by omega), if_pos h]
theorem Zfq {rc : Cg} {c : Zd} {m : Nat} {lp : Option Zr} {b : Nat} (h : c.kind = 22) : Zk rc c m lp b = (
  let r0 := rc (c.kid 0) m lp b
  let r1 := rc (c.kid 1) m lp (b + r0.1.length + 1)
  (r0.1 ++ Zg 22 0 c.line :: (r1.1 ++ [Zg 23 0 c.line]), r0.2 ++ r1.2)) := by
 unfold Zk;rw [if_neg (by omega), if_neg (by omega), if_neg (by omega), if_neg (by omega), if_neg (by omega), if_neg (by omega), if_neg (by omega), if_neg (by omega), if_neg (by omega), if_neg (by omega), if_neg (by omega), if_pos h]
theorem Zfr {rc : Cg} {c : Zd} {m : Nat} {lp : Option Zr} {b : Nat} (h : c.kind = 23) : Zk rc c m lp b = (
  let r0 := rc (c.kid 0) (m + 1) lp (b + 1)
  (Zg 13 (b + 1 + r0.1.length + 1 : Nat) c.line :: (r0.1 ++ [Zg 24 0 c.line, Zg 25 0 c.line]), r0.2)) := by
 unfold Zk;rw [if_neg (by omega), if_neg (by omega), if_neg (by omega), if_neg (by omega), if_neg (by omega), if_neg (by omega), if_neg (by omega), if_neg (by omega), if_neg (by omega), if_neg (by omega), if_neg (by omega), if_neg (by omega), if_pos h]
theorem Zfs {rc : Cg} {c : Zd} {m : Nat} {lp : Option Zr} {b : Nat} (h : c.kind = 24) : Zk rc c m lp b = (
  ([Zg 25 0 c.line], [])) := by
 unfold Zk;rw [if_neg (by omega), if_neg (by omega), if_neg (by omega), if_neg (by omega), if_neg (by omega), if_neg (by omega), if_neg (by omega), if_neg (by omega), if_neg (by omega), if_neg (by omega), if_neg (by omega), if_neg (by omega), if_neg (by omega), if_pos h]
theorem Zft {rc : Cg} {c : Zd} {m : Nat} {lp : Option Zr} {b : Nat} (h : c.kind = 25) : Zk rc c m lp b = (
  let r0 := rc (c.kid 0) m lp b
  let b1 := b + r0.1.length + 1
  let r1 := rc (c.kid 1) (m + 1) lp (b1 + 1)
  (r0.1 ++ Zg 26 0 c.line :: (bnd rc (c.kid 1) m lp b1 (b1 + Zaq rc (c.kid 1) m lp b1 : Nat) ++ [Zg 16 0 c.line]), r0.2 ++ r1.2)) := by
 unfold Zk;rw [if_neg (by omega), if_neg (by omega), if_neg (by omega), if_neg (by omega), if_neg (by omega), if_neg (by omega), if_neg (by omega), if_neg (by omega), if_neg (by omega), if_neg (by omega), if_neg (by omega), if_neg (by omega), if_neg (by omega), if_neg (by omega), if_pos h]
theorem Zfu {rc : Cg} {c : Zd} {m : Nat} {lp : Option Zr} {b : Nat} (h : c.kind = 26) : Zk rc c m lp b = (
  let r0 := rc (c.kid 0) 0 none (b + 2)
  (Zg 27 (b + 2 : Nat) c.line :: Zg 15 (b + 2 + r0.1.length + 1 : Nat) c.line :: (r0.1 ++ [Zg 28 0 c.line]), [])) := by
 unfold Zk;rw [if_neg (by omega), if_neg (by omega), if_neg (by omega), if_neg (by omega), if_neg (by omega), if_neg (by omega), if_neg (by omega), if_neg (by omega), if_neg (by omega), if_neg (by omega), if_neg (by omega), if_neg (by omega), if_neg (by omega), if_neg (by omega), if_neg (by omega), if_pos h]
theorem Zfv {rc : Cg} {c : Zd} {m : Nat} {lp : Option Zr} {b : Nat} (h : c.kind = 27) : Zk rc c m lp b = (
  let r0 := rc (c.kid 0) m lp b
  (r0.1 ++ [Zg 29 0 c.line], r0.2)) := by
 unfold Zk;rw [if_neg (by omega), if_neg (by omega), if_neg (by omega), if_neg (by omega), if_neg (by omega), if_neg (by omega), if_neg (by omega), if_neg (by omega), if_neg (by omega), if_neg (by omega), if_neg (by omega), if_neg (by omega), if_neg (by omega), if_neg (by omega), if_neg (by omega), if_neg (by omega), if_pos h]
theorem Zcn {rc : Cg} {c : Zd} {m : Nat} {lp : Option Zr} {b : Nat} (h : c.kind < 11) : Zk rc c m lp b = (
  ([⟨c.kind, c.aB, 0, c.line, c.text⟩], [])) := by
 unfold Zk;rw [if_neg (by omega), if_neg (by omega), if_neg (by omega), if_neg (by omega), if_neg (by omega), if_neg (by omega), if_neg (by omega), if_neg (by omega), if_neg (by omega), if_neg (by omega), if_neg (by omega), if_neg (by omega), if_neg (by omega), if_neg (by omega), if_neg (by omega), if_neg (by omega), if_neg (by omega)]
/-! ### Lists -/
theorem Zp (i : Nat) (a : Int) (L : List Ze) : (Zei i a L).length = L.length := by
 unfold Zei
 split <;> simp
theorem Zbo (base : Nat) (a : Int) : ∀ (is : List Nat) (L : List Ze), (Zbz base a is L).length = L.length
 | [], _ => rfl
 | i :: is, L => by rw [Zbz, Zbo base a is, Zp]
theorem Zo6 (A : List Ze) (x : Ze) (B : List Ze) (a : Int) {i : Nat} (hi : i = A.length) : Zei i a (A ++ x :: B) = A ++ { x with a := a } :: B := by
 subst hi;unfold Zei;rw [show (A ++ x :: B)[A.length]? = some x by simp];simp
theorem Zqz (A B : List Ze) (a : Int) {i : Nat} (hi : A.length ≤ i) : Zei i a (A ++ B) = A ++ Zei (i - A.length) a B := by
 unfold Zei;rw [List.getElem?_append_right hi]
 cases h : B[i - A.length]? with
 | none => rfl
 | some x => simp only; rw [List.set_append_right _ _ hi]
theorem Zj7 (a : Int) : ∀ (is : List Nat) (A B : List Ze), (∀ i ∈ is, A.length ≤ i) → Zbz 0 a is (A ++ B) = A ++ Zbz A.length a is B
 | [], _, _, _ => rfl
 | i :: is, A, B, h => by
  rw [Zbz, Zbz, Nat.sub_zero, Zqz A B a (h i (by simp)), Zj7 a is A _ (fun j hj => h j (by simp [hj]))]
theorem Zm7 (n : Nat) (line : Int) : unm (n + 1) line = unm n line ++ [Zg 14 0 line] := by
 unfold unm;exact List.replicate_succ' ..
theorem Zgf (n : Nat) (line : Int) : (unm n line).length = n := by simp [unm]
/-! ### How long the code is -/
mutual
def Z0 : Zd → Nat
 | ⟨_, _, _, _, _, kids⟩ => Zx kids + 1
def Zx : List Zd → Nat
 | [] => 0
 | c :: l => Z0 c + Zx l
end
theorem Zq (c : Zd) : Z0 c = Zx c.kids + 1 := by cases c; simp [Z0]
end
def Zas (k : Int) : Nat := if k = 13 ∨ k = 15 ∨ k = 18 ∨ k = 19 ∨ k = 22 ∨ k = 25 then 2 else if k = 14 ∨ k = 16 ∨ k = 20 ∨ k = 23 ∨ k = 26 ∨ k = 27 then 1 else if k = 17 then 3 else 0
def Zm (k : Int) (i : Nat) (lp : Bool) : Bool := if k = 18 ∨ k = 19 then decide (i = 1) else if k = 20 ∨ k = 26 then false else lp
def okC : Nat → Zd → Bool → Prop
 | 0, _, _ => False
 | n + 1, c, lp => (1 ≤ c.kind ∧ c.kind ≤ 28 ∧ (c.kind = 12 → c.op = 0)) ∧ Zas c.kind ≤ c.kids.length ∧ ((c.kind = 20 ∨ c.kind = 21) → lp = true) ∧ ∀ i (h : i < c.kids.length), okC n c.kids[i] (Zm c.kind i lp)
theorem Za4 {c : Zd} {i : Nat} (h : i < c.kids.length) : c.kid i = c.kids[i] := by simp [Zd.kid, List.getD, h]
theorem okC.kid {n : Nat} {c : Zd} {lp : Bool} (h : okC (n + 1) c lp) {i : Nat} (hi : i < Zas c.kind) : okC n (c.kid i) (Zm c.kind i lp) := by
 have h1 := h.2.1;rw [Za4 (by omega)];exact h.2.2.2 i (by omega)
theorem Zfw {c : Zd} (h : 1 ≤ c.kids.length) : Z0 (c.kid 0) ≤ Zx c.kids := by
 obtain ⟨_, _, _, _, _, kids⟩ := c
 match kids, h with
 | a :: l, _ => simp [Zd.kid, Zx]
theorem Ze3 {c : Zd} (h : 2 ≤ c.kids.length) : Z0 (c.kid 0) + Z0 (c.kid 1) ≤ Zx c.kids := by
 obtain ⟨_, _, _, _, _, kids⟩ := c
 match kids, h with
 | a :: b :: l, _ => simp [Zd.kid, Zx]
theorem Ztj {c : Zd} (h : 3 ≤ c.kids.length) : Z0 (c.kid 0) + (Z0 (c.kid 1) + Z0 (c.kid 2)) ≤ Zx c.kids := by
 obtain ⟨_, _, _, _, _, kids⟩ := c
 match kids, h with
 | a :: b :: d :: l, _ => simp [Zd.kid, Zx]
theorem Ztk (c : Zd) : 1 ≤ Z0 c := by rw [Zq]; omega
theorem Zj8 {a s M : Nat} (h : a ≤ s) : a * M ≤ s * M := Nat.mul_le_mul_right _ h
theorem Zh2 {a b s M : Nat} (h : a + b ≤ s) : a * M + b * M ≤ s * M := by rw [← Nat.add_mul]; exact Nat.mul_le_mul_right _ h
theorem Zu9 {a b d s M : Nat} (h : a + (b + d) ≤ s) : a * M + (b * M + d * M) ≤ s * M := by rw [← Nat.add_mul, ← Nat.add_mul]; exact Nat.mul_le_mul_right _ h
theorem up {x c A M : Nat} (h : x ≤ c * A) (hA : A ≤ M) : x ≤ c * M := Nat.le_trans h (Nat.mul_le_mul_left _ hA)
theorem Zes {rc : Cg} {m : Nat} {lp : Option Zr} {M : Nat} : ∀ (l : List Zd) (b : Nat), (∀ c ∈ l, ∀ b, (rc c m lp b).1.length ≤ Z0 c * M) → (Z4 rc l m lp b).1.length ≤ Zx l * M
 | [], b, _ => by simp [Z4]
 | c :: l, b, h => by
  have h1 := h c (by simp) b;have h2 := Zes l (b + (rc c m lp b).1.length) (fun x hx => h x (by simp [hx]));simp only [Z4, List.length_append, Zx, Nat.add_mul]
  omega
theorem Zja {rc : Cg} {m : Nat} {lp : Option Zr} {M : Nat} : ∀ (l : List Zd) (b : Nat), (∀ c ∈ l, ∀ b, (rc c m lp b).1.length ≤ Z0 c * M ∧ (rc c (m + 1) lp b).1.length + 2 ≤ Z0 c * M) → (Zbt rc l m lp b).1.length ≤ Zx l * M
 | [], b, _ => by simp [Zbt]
 | [c], b, h => by
  have h1 := (h c (by simp) b).1;simp only [Zbt, Zx, Nat.add_zero];exact h1
 | c :: d :: l, b, h => by
  have h1 := (h c (by simp) (b + 1)).2;have h2 := Zja (d :: l) (b + Zaq rc c m lp b) (fun x hx => h x (by simp only [List.mem_cons] at hx ⊢; exact .inr hx));rw [Zbt]
  ·rw [Zx, Nat.add_mul];simp only [bnd, List.length_append, List.length_cons, List.length_nil]
   omega
  ·simp
def Ze4 (b : Nat) (q : List Ze × List Nat) : Prop := ∀ i ∈ q.2, b ≤ i ∧ i < b + q.1.length
theorem Ze4.nil (b : Nat) (L : List Ze) : Ze4 b (L, []) := fun _ h => by simp at h
theorem Zly {rc : Cg} {m : Nat} {lp : Option Zr} : ∀ (l : List Zd) (b : Nat), (∀ c b, Ze4 b (rc c m lp b)) → Ze4 b (Z4 rc l m lp b)
 | [], b, _ => Ze4.nil b []
 | c :: l, b, h => fun i hi => by
  simp only [Z4, List.mem_append, List.length_append] at hi ⊢
  rcases hi with hi | hi
  ·have := h c b i hi; omega
  ·have := Zly l _ h i hi; omega
theorem Zj9 {rc : Cg} {m : Nat} {lp : Option Zr} : ∀ (l : List Zd) (b : Nat), (∀ c m b, Ze4 b (rc c m lp b)) → Ze4 b (Zbt rc l m lp b)
 | [], b, _ => Ze4.nil b []
 | [c], b, h => h c m b
 | c :: d :: l, b, h => fun i hi => by
  rw [Zbt] at hi ⊢
  ·simp only [List.mem_append, List.length_append, bnd, List.length_cons, List.length_nil] at hi ⊢
   rcases hi with hi | hi
   ·have := h c (m + 1) (b + 1) i hi; omega
   ·have := Zj9 (d :: l) _ h i hi;unfold Zaq at this;simp only [Zaq] at this ⊢
    omega
  ·simp
  ·simp
theorem Zdk : ∀ (n : Nat) (c : Zd) (m : Nat) (lp : Option Zr) (b : Nat), Ze4 b (cg n c m lp b)
 | 0, c, m, lp, b => Ze4.nil b []
 | n + 1, c, m, lp, b => by
  show Ze4 b (Zk (cg n) c m lp b)
  by_cases ho : c.kind = 28
  ·rw [Zfj ho]; exact Ze4.nil _ _
  by_cases ho : c.kind = 11 ∨ c.kind = 12
  ·rw [Zbc ho];intro i hi;have := Zly (rc := cg n) (m := m) (lp := lp) c.kids b (fun c b => Zdk n c m lp b) i hi;simp only [List.length_append, List.length_cons, List.length_nil]
   omega
  by_cases ho : c.kind = 13
  ·rw [Zfk ho];intro i hi;simp only [List.mem_append, List.length_append, List.length_cons, List.length_nil] at hi ⊢
   rcases hi with hi | hi
   ·have := Zdk n _ _ _ _ i hi; omega
   ·have := Zdk n _ _ _ _ i hi; omega
  by_cases ho : c.kind = 14
  ·rw [Zfl ho];intro i hi;simp only [List.length_append, List.length_cons, List.length_nil] at hi ⊢;have := Zdk n _ _ _ _ i hi; omega
  by_cases ho : c.kind = 15
  ·rw [Zfm ho];intro i hi;simp only [List.mem_append, List.length_append, List.length_cons, List.length_nil] at hi ⊢
   rcases hi with hi | hi
   ·have := Zdk n _ _ _ _ i hi; omega
   ·have := Zdk n _ _ _ _ i hi; omega
  by_cases ho : c.kind = 16
  ·rw [Zfn ho];exact Zj9 c.kids b (fun c m b => Zdk n c m lp b)
  by_cases ho : c.kind = 17
  ·rw [Zfo ho];intro i hi;simp only [bnd, List.mem_append, List.length_append, List.length_cons, List.length_nil] at hi ⊢
   rcases hi with hi | hi | hi
   ·have := Zdk n _ _ _ _ i hi; omega
   ·have := Zdk n _ _ _ _ i hi; omega
   ·have := Zdk n _ _ _ _ i hi; omega
  by_cases ho : c.kind = 18
  ·rw [Zem ho]; exact Ze4.nil _ _
  by_cases ho : c.kind = 19
  ·rw [Zfp ho]; exact Ze4.nil _ _
  by_cases ho : c.kind = 20
  ·rw [Zen ho]
   split
   ·exact Ze4.nil _ _
   ·intro i hi;simp only [List.mem_singleton, List.length_append, Zgf, List.length_cons, List.length_nil] at hi ⊢
    omega
  by_cases ho : c.kind = 21
  ·rw [Zdv ho]
   split
   ·exact Ze4.nil _ _
   ·split
    ·exact Ze4.nil _ _
    ·exact Ze4.nil _ _
  by_cases ho : c.kind = 22
  ·rw [Zfq ho];intro i hi;simp only [List.mem_append, List.length_append, List.length_cons, List.length_nil] at hi ⊢
   rcases hi with hi | hi
   ·have := Zdk n _ _ _ _ i hi; omega
   ·have := Zdk n _ _ _ _ i hi; omega
  by_cases ho : c.kind = 23
  ·rw [Zfr ho];intro i hi;simp only [List.length_append, List.length_cons, List.length_nil] at hi ⊢;have := Zdk n _ _ _ _ i hi; omega
  by_cases ho : c.kind = 24
  ·rw [Zfs ho]; exact Ze4.nil _ _
  by_cases ho : c.kind = 25
  ·rw [Zft ho];intro i hi;simp only [bnd, List.mem_append, List.length_append, List.length_cons, List.length_nil] at hi ⊢
   rcases hi with hi | hi
   ·have := Zdk n _ _ _ _ i hi; omega
   ·have := Zdk n _ _ _ _ i hi; omega
  by_cases ho : c.kind = 26
  ·rw [Zfu ho]; exact Ze4.nil _ _
  by_cases ho : c.kind = 27
  ·rw [Zfv ho];intro i hi;simp only [List.length_append, List.length_cons, List.length_nil] at hi ⊢;have := Zdk n _ _ _ _ i hi; omega
  by_cases hl : c.kind < 11
  ·rw [Zcn hl]; exact Ze4.nil _ _
  unfold Zk;rw [if_neg (by omega), if_neg (by omega), if_neg (by omega), if_neg (by omega), if_neg (by omega), if_neg (by omega), if_neg (by omega), if_neg (by omega), if_neg (by omega), if_neg (by omega), if_neg (by omega), if_neg (by omega), if_neg (by omega), if_neg (by omega), if_neg (by omega), if_neg (by omega), if_neg (by omega)];exact Ze4.nil _ _
section
section
variable {P : Program} {ops : Array Oper} {Q : Exit → Act → World → Prop} {md : Region.Mode} {tl pu : Nat → Bool} {S S' : World → Prop}
def Zdg (P : Program) (md : Region.Mode) (ops : Array Oper) (Q : Exit → Act → World → Prop) (tl pu : Nat → Bool) (S : World → Prop) : Nat → Array Bool → Act → World → Prop
 | 0, listed, a, w => Region.ready md ops listed = [] ∧ Q .normal a w
 | fuel + 1, listed, a, w =>
  (Region.ready md ops listed = [] → Q .normal a w) ∧
  ∀ i ∈ Region.ready md ops listed, wpOp P ops Q i (fun a' w' => ((tl i = false → S w') ∧ (pu i = true → w' = w)) ∧ Zdg P md ops Q tl pu S fuel (listed.setIfInBounds i true) a' w') a w
theorem Zgg : ∀ (fuel : Nat) (listed : Array Bool) (a : Act) (w : World), Zdg P md ops Q tl pu S fuel listed a w → wpAny P md ops Q fuel listed a w
 | 0, _, _, _, h => h
 | fuel + 1, _, _, _, h => ⟨h.1, fun i hi => wpOp_mono (fun a' w' h' => Zgg fuel _ a' w' h'.2) (h.2 i hi)⟩
theorem Zjb (hs : ∀ w, S' w → S w) : ∀ (fuel : Nat) (listed : Array Bool) (a : Act) (w : World), Zdg P md ops Q tl pu S' fuel listed a w → Zdg P md ops Q tl pu S fuel listed a w
 | 0, _, _, _, h => h
 | fuel + 1, _, _, _, h => ⟨h.1, fun i hi => wpOp_mono (fun a' w' h' => ⟨⟨fun ht => hs _ (h'.1.1 ht), h'.1.2⟩, Zjb hs fuel _ a' w' h'.2⟩) (h.2 i hi)⟩
theorem Zgh {i : Nat} {oi : Oper} {v : Value} (hi : ops[i]? = some oi) (hsel : ∀ (j : Nat) (o : Oper) cs b, ops[j]? = some o → o.op ≠ .select cs b)
  (hQ : ∀ c a w, Q (.panic c) (a.put oi.dst v) w → Q (.panic c) a w) (htl : ∀ j, j < ops.size → tl j = true → pu j = true ∨ Zi8 md ops ops.size j i = true) :
  ∀ (fuel : Nat) (listed : Array Bool) (a : Act) (w : World),
   (∀ j oj, ops[j]? = some oj → j ≠ i → listed.getD j true = false → (∀ e ∈ oj.after, Region.binds md e = true → e.on ≠ i) → oi.apart ops oj = true) → Zit md ops listed →
   i ∈ Region.ready md ops listed → YieldsIf P ops S oi v a → S w →
   Zdg P md ops Q tl pu S fuel (listed.setIfInBounds i true) (a.put oi.dst v) w → Zdg P md ops Q tl pu S (fuel + 1) listed a w := by
 intro fuel
 induction fuel with
 | zero =>
  intro listed a w _ _ hr hy hS H;refine ⟨fun h => (by rw [h] at hr; cases hr), fun j hj => ?_⟩
  by_cases hji : j = i
  ·subst hji; exact hy.wpOp hi hS ⟨⟨fun _ => hS, fun _ => rfl⟩, H⟩
  ·have := ready_mono hj hji;rw [H.1] at this
   cases this
 | succ fuel ih =>
  intro listed a w hfree hcl hr hy hS H;refine ⟨fun h => (by rw [h] at hr; cases hr), fun j hj => ?_⟩
  by_cases hji : j = i
  ·subst hji; exact hy.wpOp hi hS ⟨⟨fun _ => hS, fun _ => rfl⟩, H⟩
  ·have h1 := H.2 j (ready_mono hj hji);obtain ⟨hjun, oj, hoj, hall⟩ := mem_ready.1 hj;have hiun : listed.getD i false = true → False := fun h1 => by
    have h0 := (mem_ready.1 hr).1
    rcases Nat.lt_or_ge i listed.size with h' | h'
    ·simp [h'] at h0 h1; rw [h0] at h1; cases h1
    ·simp [Array.getElem?_eq_none h'] at h1
   have hnot : ∀ e ∈ oj.after, Region.binds md e = true → e.on ≠ i := fun e he hb heq => hiun (by rw [← heq]; exact hall e he hb);have hSj : ∀ w', ((tl j = false → S w') ∧ (pu j = true → w' = w)) → S w' := fun w' hw' => by
    cases ht : tl j with
    | false => exact hw'.1 ht
    | true =>
     rcases htl j (Array.getElem?_eq_some_iff.1 hoj).1 ht with h | h
     ·rw [hw'.2 h]; exact hS
     ·exact (hiun (Zeb hcl _ j i oj hoj hall h)).elim
   have h2 := wpOp_putIf hoj (hfree j oj hoj hji hjun hnot) (fun cs b => hsel i oi cs b hi) (fun cs b => hsel j oj cs b hoj) hQ hy h1;have hfree' : ∀ k ok, ops[k]? = some ok → k ≠ i → (listed.setIfInBounds j true).getD k true = false →
     (∀ e ∈ ok.after, Region.binds md e = true → e.on ≠ i) → oi.apart ops ok = true := fun k ok hk hki hun hno => by
    refine hfree k ok hk hki ?_ hno
    by_cases hjk : j = k
    ·subst hjk; exact hjun
    ·rw [getD_set_ne true hjk] at hun; exact hun
   refine wpOp_mono (fun a' w' h3 => ⟨h3.2.1, ih (listed.setIfInBounds j true) a' w' hfree' (Zhr hcl hj) (ready_mono hr (Ne.symm hji)) h3.1 (hSj w' h3.2.1) ?_⟩) h2;rw [Array.setIfInBounds_comm _ _ hji];exact h3.2.2
theorem Zjc {i : Nat} {oi : Oper} {v : Value} (hi : ops[i]? = some oi) (hsel : ∀ (j : Nat) (o : Oper) cs b, ops[j]? = some o → o.op ≠ .select cs b)
  (hQ : ∀ c a w, Q (.panic c) (a.put oi.dst v) w → Q (.panic c) a w) (hti : tl i = true) :
  ∀ (fuel : Nat) (listed : Array Bool) (a : Act) (w : World),
   (∀ j oj, ops[j]? = some oj → j ≠ i → listed.getD j true = false → (∀ e ∈ oj.after, Region.binds md e = true → e.on ≠ i) → oi.apart ops oj = true) →
   i ∈ Region.ready md ops listed → YieldsIf P ops (fun _ => True) oi v a →
   Zdg P md ops Q tl pu S fuel (listed.setIfInBounds i true) (a.put oi.dst v) w → Zdg P md ops Q tl pu S (fuel + 1) listed a w := by
 intro fuel
 induction fuel with
 | zero =>
  intro listed a w _ hr hy H;refine ⟨fun h => (by rw [h] at hr; cases hr), fun j hj => ?_⟩
  by_cases hji : j = i
  ·subst hji; exact hy.wpOp hi trivial ⟨⟨fun h => (by rw [hti] at h; cases h), fun _ => rfl⟩, H⟩
  ·have := ready_mono hj hji;rw [H.1] at this
   cases this
 | succ fuel ih =>
  intro listed a w hfree hr hy H;refine ⟨fun h => (by rw [h] at hr; cases hr), fun j hj => ?_⟩
  by_cases hji : j = i
  ·subst hji; exact hy.wpOp hi trivial ⟨⟨fun h => (by rw [hti] at h; cases h), fun _ => rfl⟩, H⟩
  ·have h1 := H.2 j (ready_mono hj hji);obtain ⟨hjun, oj, hoj, hall⟩ := mem_ready.1 hj;have hiun : listed.getD i false = true → False := fun h1 => by
    have h0 := (mem_ready.1 hr).1
    rcases Nat.lt_or_ge i listed.size with h' | h'
    ·simp [h'] at h0 h1; rw [h0] at h1; cases h1
    ·simp [Array.getElem?_eq_none h'] at h1
   have hnot : ∀ e ∈ oj.after, Region.binds md e = true → e.on ≠ i := fun e he hb heq => hiun (by rw [← heq]; exact hall e he hb);have h2 := wpOp_putIf hoj (hfree j oj hoj hji hjun hnot) (fun cs b => hsel i oi cs b hi) (fun cs b => hsel j oj cs b hoj) hQ hy h1;have hfree' : ∀ k ok, ops[k]? = some ok → k ≠ i → (listed.setIfInBounds j true).getD k true = false →
     (∀ e ∈ ok.after, Region.binds md e = true → e.on ≠ i) → oi.apart ops ok = true := fun k ok hk hki hun hno => by
    refine hfree k ok hk hki ?_ hno
    by_cases hjk : j = k
    ·subst hjk; exact hjun
    ·rw [getD_set_ne true hjk] at hun; exact hun
   refine wpOp_mono (fun a' w' h3 => ⟨h3.2.1, ih (listed.setIfInBounds j true) a' w' hfree' (ready_mono hr (Ne.symm hji)) h3.1 ?_⟩) h2;rw [Array.setIfInBounds_comm _ _ hji];exact h3.2.2
def Zh3 (L U : List Nat) (j : Nat) : Bool := L.contains j || U.contains j
def Zjo (U : List Nat) (j : Nat) : Bool := U.contains j
def Zva (md : Region.Mode) (ops : Array Oper) (L : List Nat) (i : Nat) : Bool := L.all fun j => Zi8 md ops ops.size j i
def Zjd (ops : Array Oper) (L : List Nat) (listed : Array Bool) (i : Nat) : Bool :=
 Region.noSelect ops && Region.free .any ops listed i && (Region.ready .any ops listed).contains i && Zo5 .any ops listed && Zva .any ops L i
def Zt7 (ops : Array Oper) (U : List Nat) (listed : Array Bool) (i : Nat) : Bool :=
 Region.noSelect ops && Region.free .any ops listed i && (Region.ready .any ops listed).contains i && U.contains i
def wpU (P : Program) (ops : Array Oper) (Q : Exit → Act → World → Prop) (L U : List Nat) (fuel : Nat) (listed : Array Bool) (a : Act) (w : World) : Prop :=
 Zdg P .any ops Q (Zh3 L U) (Zjo U) (Za w) fuel listed a w
theorem Z3 (L U : List Nat) {id : Nat} {a : Act} {w : World} (hm : P.follows .mixedOrders = true)
  (h : ∀ w1, w1 = w.drew → wpU P ops Q L U ops.size (Array.replicate ops.size false) a w1) : (Code.region id ops true).wp P Q a w :=
 wp_region_any hm (Zgg _ _ _ _ (h w.drew rfl))
theorem Zs (i : Nat) (d : Option Tmp) {L U : List Nat} {oi : Oper} {v : Value} {fuel : Nat} {listed : Array Bool} {a : Act} {w : World} (hi : ops[i]? = some oi) (hd : oi.dst = d)
  (hB : Zjd ops L listed i = true)
  (hQ : ∀ c a w, Q (.panic c) (a.put d v) w → Q (.panic c) a w)
  (hw : Region.wanted oi (yielded ops a.tmps) = true) (hy : ∀ x, Za w x → (execOp a.eval oi).run P x = .ok (.value v) x)
  (h : wpU P ops Q L U fuel (listed.setIfInBounds i true) (a.put d v) w) : wpU P ops Q L U (fuel + 1) listed a w := by
 subst hd;simp only [Zjd, Bool.and_eq_true] at hB;obtain ⟨⟨⟨⟨hs, hf⟩, hr⟩, hc⟩, ht⟩ := hB;refine Zgh hi (Region.noSelect_spec hs) hQ (fun j _ htj => ?_) fuel listed a w (Region.free_spec hi hf) (Ziu hc) (by simpa using hr) (.inl ⟨hw, hy⟩) (Za.refl w) h;simp only [Zh3, Bool.or_eq_true] at htj
 rcases htj with h1 | h1
 ·exact .inr (List.all_eq_true.1 ht j (by simpa using h1))
 ·exact .inl h1
theorem Zca (i : Nat) {L U : List Nat} {o : Oper} {fuel : Nat} {listed : Array Bool} {a : Act} {w : World} (hr : Region.ready .any ops listed = [i]) (hu : U.contains i = false) (ho : ops[i]? = some o)
  (h : wpList P ops (Zm4 Q w (fun a' w' => wpU P ops Q L U fuel (listed.setIfInBounds i true) a' w')) [o] a w) : wpU P ops Q L U (fuel + 1) listed a w := by
 refine ⟨fun h0 => (by rw [hr] at h0; cases h0), fun j hj => ?_⟩;rw [hr] at hj;obtain rfl : j = i := by simpa using hj
 unfold wpList at h;unfold wpOp;rw [ho];have hK : ∀ a' w', wpList P ops (Zm4 Q w (fun a' w' => wpU P ops Q L U fuel (listed.setIfInBounds j true) a' w')) [] a' w' →
   (((Zh3 L U j = false → Za w w') ∧ (Zjo U j = true → w' = w)) ∧ Zdg P .any ops Q (Zh3 L U) (Zjo U) (Za w) fuel (listed.setIfInBounds j true) a' w') := fun a' w' h' =>
  ⟨⟨fun _ => h'.1, fun h0 => (by unfold Zjo at h0; rw [hu] at h0; cases h0)⟩, Zjb (fun x hx => h'.1.trans hx) _ _ _ _ h'.2⟩
 have hup : o.wp P a w (wpList P ops (Zm4 Q w (fun a' w' => wpU P ops Q L U fuel (listed.setIfInBounds j true) a' w')) []) (Zm4 Q w (fun a' w' => wpU P ops Q L U fuel (listed.setIfInBounds j true) a' w')) →
   o.wp P a w (wpList P ops (Zm4 Q w (fun a' w' => wpU P ops Q L U fuel (listed.setIfInBounds j true) a' w')) []) Q := fun h' => by
  unfold Oper.wp at *
  generalize (execOp a.eval o).run P w = r at *
  cases r with
  | ok n w' => cases n <;> exact h'
  | halt x w' => cases x <;> exact h'
 show if Region.wanted o (yielded ops a.tmps) = true then _ else _
 split
 ·rename_i hw;rw [if_pos hw] at h
  rcases h with h | ⟨h1, h2⟩
  ·exact .inl (Oper.wp_mono hK (hup h))
  ·exact .inr ⟨h1, h2⟩
 ·rename_i hw;rw [if_neg hw] at h;exact hK _ _ h
theorem Ziv {U : List Nat} {S : World → Prop} (L0 : List Nat) : ∀ (L : List Nat) (os : List Oper) (listed : Array Bool) (a : Act) (w : World), Zgc ops L listed = true → (∀ i ∈ L, L0.contains i = true ∧ U.contains i = false) → L.map (ops[·]?) = os.map some →
  wpList P ops Q os a w → Zdg P .any ops Q (Zh3 L0 U) (Zjo U) S L.length listed a w
 | [], os, listed, a, w, hch, _, hos, h => by
  have : os = [] := by cases os with
   | nil => rfl
   | cons => simp at hos
  subst this;exact ⟨by simpa [Zgc] using hch, h⟩
 | i :: L, os, listed, a, w, hch, htl, hos, h => by
  obtain ⟨o, os', rfl⟩ : ∃ o os', os = o :: os' := by cases os with
   | nil => simp at hos
   | cons o os' => exact ⟨o, os', rfl⟩
  simp only [List.map_cons, List.cons.injEq] at hos;simp only [Zgc, Bool.and_eq_true, beq_iff_eq] at hch;obtain ⟨hr, hch'⟩ := hch;refine ⟨fun h0 => (by rw [hr] at h0; cases h0), fun j hj => ?_⟩;rw [hr] at hj;obtain rfl : j = i := by simpa using hj
  have hj2 := htl j (by simp);have hK : ∀ a' w', wpList P ops Q os' a' w' → (((Zh3 L0 U j = false → S w') ∧ (Zjo U j = true → w' = w)) ∧ Zdg P .any ops Q (Zh3 L0 U) (Zjo U) S L.length (listed.setIfInBounds j true) a' w') := fun a' w' h' =>
   ⟨⟨fun ht => (by unfold Zh3 at ht; rw [hj2.1] at ht; cases ht), fun ht => (by unfold Zjo at ht; rw [hj2.2] at ht; cases ht)⟩, Ziv L0 L os' _ a' w' hch' (fun k hk => htl k (by simp [hk])) hos.2 h'⟩
  unfold wpList at h;unfold wpOp;rw [hos.1];show if Region.wanted o (yielded ops a.tmps) = true then _ else _
  split
  ·rename_i hw;rw [if_pos hw] at h;exact h.imp (Oper.wp_mono hK) id
  ·rename_i hw;rw [if_neg hw] at h;exact hK _ _ h
def Zo8 (ops : Array Oper) (L U : List Nat) (listed : Array Bool) : Bool := Zgc ops L listed && L.all fun i => !U.contains i
theorem Zag {L U : List Nat} (os : List Oper) {n : Nat} {listed : Array Bool} {a : Act} {w : World} (hB : Zo8 ops L U listed = true) (hn : L.length = n) (hos : L.map (ops[·]?) = os.map some)
  (h : wpList P ops Q os a w) : wpU P ops Q L U n listed a w := by
 subst hn;simp only [Zo8, Bool.and_eq_true] at hB;exact Ziv L L os listed a w hB.1 (fun i hi => ⟨by simpa using hi, by simpa using List.all_eq_true.1 hB.2 i hi⟩) hos h
end
theorem tU {P : Program} {ops : Array Oper} {Q : Exit → Act → World → Prop} (i d : Nat) {L U : List Nat} {oi : Oper} {v : Value} {fuel : Nat} {listed : Array Bool} {a : Act} {w : World} (hi : ops[i]? = some oi) (hd : oi.dst = some d) (hy : ∀ x, Za w x → (execOp a.eval oi).run P x = .ok (.value v) x)
  (h : wpU P ops Q L U fuel (listed.setIfInBounds i true) (a.put (some d) v) w) (hB : Zjd ops L listed i = true := by kernel_rfl) (hQ : ∀ c a w, Q (.panic c) (a.put (some d) v) w → Q (.panic c) a w := by exact fun _ _ _ h => h) (hw : Region.wanted oi (yielded ops a.tmps) = true := by rfl) : wpU P ops Q L U (fuel + 1) listed a w := Zs i (some d) hi hd hB hQ hw hy h
theorem Zuj {P : Program} {id : Nat} {Q : Exit → Act → World → Prop} {a : Act} {w : World} {l : List Oper} 
  (h : ∀ W, W = w.drew → wpQuiet P l.toArray (fun x => x = W) (fun a' => Q .normal a' W) l a) (hm : P.follows .mixedOrders = true := by kernel_rfl) (hB : Region.lexB .any l.toArray = true := by kernel_rfl) : (Code.region id l.toArray true).wp P Q a w :=
 wp_region_quiet (C := fun x => x = w.drew) hm hB rfl (by simpa using h w.drew rfl)
end
section
def Zda (w : World) (base : Nat) (e : TypeId) (size : Nat) (v : Value) (n : Nat) (xs : List Value) : Prop :=
 xs.length = n * size ∧
 ((v = .slice none 0 0 ∧ n = 0) ∨
  ∃ g cap cur, v = .slice (some ⟨g, 0, none⟩) n cap ∧ base ≤ g ∧ w.heap[g]? = some (.cells cur e (0, 0)) ∧ n ≤ cap ∧ cap ≤ maxLen ∧ cap * size ≤ cur.size ∧ cur.toList.take (n * size) = xs)
section
variable {w : World} {base : Nat} {e : TypeId} {size : Nat} {v : Value} {n : Nat} {xs : List Value}
theorem Zda.lt (h : Zda w base e size v n xs) : ∀ k, v.ownBlock = some k → base ≤ k ∧ k < w.heap.size ∧ ∃ cur, w.heap[k]? = some (.cells cur e (0, 0)) := by
 intro k hk
 rcases h.2 with ⟨rfl, _⟩ | ⟨g, cap, cur, rfl, hb, hg, _⟩
 ·simp [Value.ownBlock] at hk
 ·simp [Value.ownBlock] at hk;subst hk;exact ⟨hb, (Array.getElem?_eq_some_iff.1 hg).1, cur, hg⟩
theorem Zda.same {w' : World} (h : Zda w base e size v n xs) (hs : ∀ k, v.ownBlock = some k → w'.heap[k]? = w.heap[k]?) : Zda w' base e size v n xs := by
 refine ⟨h.1, ?_⟩
 rcases h.2 with hn | ⟨g, cap, cur, rfl, hb, hgg, rest⟩
 ·exact .inl hn
 ·refine .inr ⟨g, cap, cur, rfl, hb, ?_, rest⟩;rw [hs g rfl];exact hgg
theorem Zda.cells (h : Zda w base e size v n xs) {g : Nat} (hg : v.ownBlock = some g) : ∀ j u, xs[j]? = some u → w.cell? ⟨g, j, none⟩ = some u := by
 intro j u hu
 rcases h.2 with ⟨rfl, _⟩ | ⟨g', cap, cur, rfl, _, hgg, _, _, _, htake⟩
 ·simp [Value.ownBlock] at hg
 ·simp [Value.ownBlock] at hg;subst hg;rw [cell_of_row w g' j cur e (0, 0) hgg];rw [← htake, List.getElem?_take] at hu
  split at hu
  ·simpa using hu
  ·cases hu
theorem Zda.form (h : Zda w base e size v n xs) : ∃ A cap, v = .slice A n cap ∧ n ≤ cap ∧ cap ≤ maxLen := by
 rcases h.2 with ⟨rfl, rfl⟩ | ⟨g, cap, cur, rfl, hb, _, h1, h2, _⟩
 ·exact ⟨none, 0, rfl, Nat.le_refl _, Nat.zero_le _⟩
 ·exact ⟨_, cap, rfl, h1, h2⟩
end
section
variable {P : Program} (w : World)
theorem Zka (base : Nat) (t ty e : TypeId) (i : TypeInfo) (z : Value) (size bytes : Nat) (ht : P.underlying t = some (.slice e)) (hi : P.info? e = some i) (hz : i.zero = some z)
  (hsize : i.size = size) (hby : i.bytes = bytes) (hzs : z.cells.size = size)
  (v : Value) (n : Nat) (xs : List Value) (hown : Zda w base e size v n xs)
  (a : Addr) (m c : Nat) (news : List Value) (hl : news.length = m * size) (hnews : ∀ j u, news[j]? = some u → w.cell? (a.add j) = some u) (h1 : ∀ u ∈ news, u.oneCell' = true) (hm : 0 < m)
  (h63 : n + m ≤ maxLen) (hbytes : (n + m) * bytes ≤ 140737488355328) (hbase : base ≤ w.heap.size) :
  ∃ v' w', (Builtin.append_ #[t, t] ty #[v, .slice (some a) m c]).run P w = .ok v' w' ∧ Zda w' base e size v' (n + m) (xs ++ news) ∧ w.grownBy w' v.ownBlock ∧
   (v'.ownBlock = v.ownBlock ∨ v'.ownBlock = some w.heap.size) := by
 subst hsize;subst hby;have hsmall : n + m ≤ 9223372036854775807 := by simp only [maxLen] at h63; omega
 have hlen : (xs ++ news).length = (n + m) * i.size := by rw [List.length_append, hown.1, hl, Nat.add_mul]
 have grown : ∀ (old : Nat), old < n + m → ∀ (row : Option Nat),
   Zda (w.drew.alloc (.cells (xs.toArray ++ news.toArray ++ Builtin.zeroCells z.cells (grownCap w (n + m) old e - (n + m))) e)) base e i.size
    (.slice (some ⟨w.heap.size, 0, none⟩) (n + m) (grownCap w (n + m) old e)) (n + m) (xs ++ news) ∧
   w.grownBy (w.drew.alloc (.cells (xs.toArray ++ news.toArray ++ Builtin.zeroCells z.cells (grownCap w (n + m) old e - (n + m))) e)) row := by
  intro old ho row;have hge := grownCap_ge w (n + m) old e;have hcm : grownCap w (n + m) old e ≤ maxLen := grownCap_le_maxLen w (n + m) old e h63;refine ⟨⟨hlen, .inr ⟨w.heap.size, _, _, rfl, hbase, heap_alloc_new w.drew _, hge, hcm, ?_, ?_⟩⟩, ⟨rfl, rfl, rfl, by simp, fun k hk _ => Below.heap_alloc w.drew _ k hk⟩⟩
  ·simp only [Array.size_append, List.size_toArray, size_zeroCells, hzs, hown.1, hl, ← Nat.add_mul];refine Nat.mul_le_mul_right _ ?_
   omega
  ·simp only [Array.toList_append, List.append_assoc];rw [← List.append_assoc, ← hlen];exact List.take_left
 rcases hown.2 with ⟨rfl, rfl⟩ | ⟨g, cap, cur, rfl, hbg, hg, hnc, hcm, hcs, htake⟩
 ·have hx : xs = [] := List.eq_nil_of_length_eq_zero (by simpa using hown.1);subst hx;have hr := run_append_nil (P := P) w t ty e i z ht hi hz a m c news hl hnews (by omega) (by omega) (by have hb := hbytes; simp only [Nat.zero_add] at hb; omega);have hgr := grown 0 (by omega) (Value.ownBlock (.slice none 0 0));simp only [Nat.zero_add, List.nil_append, Array.empty_append] at hgr ⊢;exact ⟨_, _, hr, hgr.1, hgr.2, .inr rfl⟩
 ·by_cases hroom : n + m ≤ cap
  ·have hfit : n * i.size + news.length ≤ cur.size := by rw [hl, ← Nat.add_mul]; exact Nat.le_trans (Nat.mul_le_mul_right _ hroom) hcs
   have hr := run_append_room (P := P) w t ty e i ht hi g n cap cur hg a m c news hl hnews h1 hroom hfit;refine ⟨_, _, hr, ⟨hlen, .inr ⟨g, cap, _, rfl, hbg, setRow_heap w g cur _ e _ hg, hroom, hcm, ?_, ?_⟩⟩, ⟨rfl, rfl, rfl, by simp, fun k _ hk => setRow_other w g k _ (fun e => hk (by simp [Value.ownBlock, e]))⟩, .inl rfl⟩
   ·simp only [List.size_toArray, List.length_append, List.length_take, List.length_drop, Array.length_toList]
    omega
   ·rw [htake, ← hlen];exact List.take_left
  ·have holds : ∀ j u, xs[j]? = some u → w.cell? ((⟨g, 0, none⟩ : Addr).add j) = some u := fun j u hu => by
    have hadd : (⟨g, 0, none⟩ : Addr).add j = ⟨g, j, none⟩ := by unfold Addr.add; split <;> simp_all
    rw [hadd];exact hown.cells (g := g) rfl j u hu
   have hr := run_append_grow (P := P) w t ty e i z ht hi hz ⟨g, 0, none⟩ n cap xs hown.1 holds a m c news hl hnews (by omega) (by omega) (growslice_fits (by omega) hbytes);have hgr := grown cap (by omega) (Value.ownBlock (.slice (some ⟨g, 0, none⟩) n cap));exact ⟨_, _, hr, hgr.1, hgr.2, .inr rfl⟩
theorem Ze7 {ops : Array Oper} {rest : List Oper} {o : Oper} {a : Act} {Q : Exit → Act → World → Prop} (hgd : o.guard = none) (s x : Operand) (t : TypeId)
  (ho : o.op = .call { callee := .builtin .append, args := #[s, x], argTypes := #[t, t] })
  (base : Nat) (e : TypeId) (i : TypeInfo) (z : Value) (size bytes : Nat) (ht : P.underlying t = some (.slice e)) (hi : P.info? e = some i) (hz : i.zero = some z)
  (hsize : i.size = size) (hby : i.bytes = bytes) (hzs : z.cells.size = size)
  (v : Value) (n : Nat) (xs : List Value) (hs : a.eval s = v) (hown : Zda w base e size v n xs)
  (ad : Addr) (m c : Nat) (news : List Value) (hx : a.eval x = .slice (some ad) m c) (hl : news.length = m * size) (hnews : ∀ j u, news[j]? = some u → w.cell? (ad.add j) = some u) (h1 : ∀ u ∈ news, u.oneCell' = true) (hm : 0 < m)
  (h63 : n + m ≤ maxLen) (hbytes : (n + m) * bytes ≤ 140737488355328) (hbase : base ≤ w.heap.size)
  (h : ∀ v' w', Zda w' base e size v' (n + m) (xs ++ news) → w.grownBy w' v.ownBlock → (v'.ownBlock = v.ownBlock ∨ v'.ownBlock = some w.heap.size) → wpList P ops Q rest (a.put o.dst v') w') : wpList P ops Q (o :: rest) a w := by
 refine wpList_plain hgd fun _ hK => ?_;obtain ⟨v', w', hr, h2, h3, h4⟩ := Zka (P := P) w base t o.type e i z size bytes ht hi hz hsize hby hzs v n xs hown ad m c news hl hnews h1 hm h63 hbytes hbase;unfold Oper.wp execOp;simp only [ho, resolve, invoke, builtin, Sem.run_bind, Sem.run_pure, Result.andThen_ok, List.map_toArray, List.map_cons, List.map_nil, hs, hx, hr];exact hK _ _ (h v' w' h2 h3 h4)
end
end
section
structure Ztl {α : Type} (El : Za6 α) (size : Nat) : Prop where
 is : Zb2 El size
 any : ∀ {F G : Nat → Prop} {w x a cs}, El F w a cs → El G x a cs
 one : ∀ {F w a cs}, El F w a cs → ∀ u ∈ cs, u.oneCell' = true
theorem Zq0 (b o i : Nat) : (⟨b, o, none⟩ : Addr).add i = ⟨b, o + i, none⟩ := by unfold Addr.add; split <;> simp_all
section
variable {P : Program} {α : Type} {El : Za6 α} {size : Nat} {F : Nat → Prop} {l : List α} {v : Value}
theorem Z5.flat {w : World} (hE : Zb2 El size) (hone : ∀ {F w a cs}, El F w a cs → ∀ u ∈ cs, u.oneCell' = true) (h : Z5 El size F w l v) (hp : 0 < l.length) (hs : 0 < size) :
  ∃ (b o c : Nat) (ys : List Value), v = .slice (some ⟨b, o, none⟩) l.length c ∧ ys.length = l.length * size ∧ (∀ j u, ys[j]? = some u → w.cell? ((⟨b, o, none⟩ : Addr).add j) = some u) ∧ (∀ u ∈ ys, u.oneCell' = true) ∧
   ∀ i (hi : i < l.length), ∃ cs, El F w l[i] cs ∧ ∀ q x, cs[q]? = some x → ys[i * size + q]? = some x := by
 obtain ⟨A, c, rfl, h1, h2, h3⟩ := h;obtain ⟨b, o, cs0, rfl, _⟩ := h3 0 hp;have hat : ∀ i (hi : i < l.length), ∃ cs, El F w l[i] cs ∧ ∀ q x, cs[q]? = some x → w.cell? ⟨b, o + i * size + q, none⟩ = some x := fun i hi => by
  obtain ⟨b', o', cs, e, _, _, hel, hc⟩ := h3 i hi;cases e;exact ⟨cs, hel, hc⟩
 have hcell : ∀ j, j < l.length * size → ∃ i, ∃ hi : i < l.length, ∃ cs q x, El F w l[i] cs ∧ j = i * size + q ∧ cs[q]? = some x ∧ w.cell? ⟨b, o + j, none⟩ = some x := fun j hj => by
  have hi : j / size < l.length := (Nat.div_lt_iff_lt_mul hs).2 hj;obtain ⟨cs, hel, hc⟩ := hat (j / size) hi;have hq : j % size < cs.length := by rw [hE.len hel]; exact Nat.mod_lt _ hs
  have hjj : j = j / size * size + j % size := by rw [Nat.mul_comm]; exact (Nat.div_add_mod j size).symm
  refine ⟨j / size, hi, cs, j % size, cs[j % size], hel, hjj, List.getElem?_eq_getElem hq, ?_⟩;have := hc _ _ (List.getElem?_eq_getElem hq)
  rwa [Nat.add_assoc, ← hjj] at this
 refine ⟨b, o, c, List.ofFn (n := l.length * size) fun j => (w.cell? ⟨b, o + j.1, none⟩).getD (.bool false), rfl, by simp, fun j u hu => ?_, fun u hu => ?_, fun i hi => ?_⟩
 ·have hj : j < l.length * size := by have := (List.getElem?_eq_some_iff.1 hu).1; simpa using this
  obtain ⟨_, _, _, _, x, _, _, _, hx⟩ := hcell j hj;rw [List.getElem?_ofFn] at hu;simp only [hj, dite_true, Option.some.injEq] at hu;rw [Zq0, hx, ← hu, hx]
  rfl
 ·obtain ⟨j, rfl⟩ := (List.mem_ofFn ..).1 hu;obtain ⟨i, hi, cs, q, x, hel, _, hq, hx⟩ := hcell j.1 j.2;rw [hx];exact hone hel x (List.mem_of_getElem? hq)
 ·obtain ⟨cs, hel, hc⟩ := hat i hi;refine ⟨cs, hel, fun q x hq => ?_⟩;have hql : q < size := by have := (List.getElem?_eq_some_iff.1 hq).1; rw [hE.len hel] at this; exact this
  have hj : i * size + q < l.length * size := by
   have : (i + 1) * size ≤ l.length * size := Nat.mul_le_mul_right _ hi;rw [Nat.add_mul, Nat.one_mul] at this
   omega
  rw [List.getElem?_ofFn];simp only [hj, dite_true];rw [← Nat.add_assoc, hc q x hq]
  rfl
theorem Zjp (w : World) (hE : Ztl El size) (hs0 : 0 < size) (t ty e : TypeId) (i : TypeInfo) (z : Value) (bytes : Nat) (ht : P.underlying t = some (.slice e)) (hi : P.info? e = some i) (hz : i.zero = some z)
  (hsize : i.size = size) (hby : i.bytes = bytes) (hzs : z.cells.size = size) {B : Nat} (hB : w.heap[B]? = some (.cells #[] e (0, 0)))
  (hsrc : Z5 El size F w l v) (hm : l.length ≤ 2097152) (hbytes : bytes ≤ 1000) :
  ∃ v' w', (Builtin.append_ #[t, t] ty #[.slice (some ⟨B, 0, none⟩) 0 0, v]).run P w = .ok v' w' ∧ Zah El size e (fun b => w.heap.size ≤ b) w' l v' ∧ Za w w' := by
 subst hsize;subst hby;have hBlt := Zc hB
 by_cases h0 : l.length = 0
 ·obtain rfl : l = [] := List.eq_nil_of_length_eq_zero h0;refine ⟨.slice (some ⟨B, 0, none⟩) 0 0, w, ?_, ⟨_, 0, rfl, Nat.le_refl _, Nat.zero_le _, fun h => by simp at h⟩, Za.refl w⟩;obtain ⟨A, c, rfl, _, _⟩ := hsrc
  cases A <;> simp [Builtin.append_, run_underlying ht, sizeOf, typeInfo, hi, Builtin.lenOf, Builtin.firstCells, loadCells, loadCellsFrom, storeCells]
 ·obtain ⟨b, o, c, ys, rfl, hys, hnews, hone, hat⟩ := hsrc.flat hE.is hE.one (by omega) hs0;have hr := run_append_grow (P := P) w t ty e i z ht hi hz ⟨B, 0, none⟩ 0 0 [] (by simp) (fun j u hu => by simp at hu) ⟨b, o, none⟩ l.length c ys hys hnews (by omega) (by omega)
   (growslice_fits (by omega) (by have := Nat.mul_le_mul (show 0 + l.length ≤ 2097152 by omega) hbytes; omega))
  have hge := grownCap_ge w (0 + l.length) 0 e;have hcm : grownCap w (0 + l.length) 0 e ≤ maxLen := grownCap_le_maxLen w (0 + l.length) 0 e (by simp only [maxLen]; omega);refine ⟨_, _, hr, ⟨_, _, by rw [Nat.zero_add], by omega, hcm, fun _ => ⟨w.heap.size, 0, _, fun y => if h : y < 0 then 0 else 0, rfl, Nat.le_refl _, heap_alloc_new w.drew _, ⟨rfl, ?_⟩, fun k hk => ?_⟩⟩, (Za.refl w).drew.alloc _⟩
  ·simp only [Array.size_append, List.size_toArray, List.length_nil, size_zeroCells, hzs, hys];simp only [Nat.zero_add];rw [← Nat.add_mul];exact Nat.mul_le_mul_right _ (by simp only [Nat.zero_add] at hge; omega)
  obtain ⟨cs, hel, hc⟩ := hat k hk;refine ⟨cs, hE.any hel, fun q x hq => ?_⟩;have hyq := hc q x hq;have hlt := (List.getElem?_eq_some_iff.1 hyq).1;rw [Nat.zero_add]
  try simp only [List.nil_append]
  rw [Array.getElem?_append_left (by simpa using hlt)]
  simpa using hyq
theorem Zdb {w : World} (hE : Ztl El size) (hs0 : 0 < size) {ops : Array Oper} {rest : List Oper} {o : Oper} {a : Act} {Q : Exit → Act → World → Prop} (hgd : o.guard = none) (s x : Operand) (t : TypeId)
  (ho : o.op = .call { callee := .builtin .append, args := #[s, x], argTypes := #[t, t] })
  (e : TypeId) (i : TypeInfo) (z : Value) (bytes : Nat) (ht : P.underlying t = some (.slice e)) (hi : P.info? e = some i) (hz : i.zero = some z)
  (hsize : i.size = size) (hby : i.bytes = bytes) (hzs : z.cells.size = size) {B : Nat} (hs : a.eval s = .slice (some ⟨B, 0, none⟩) 0 0) (hB : w.heap[B]? = some (.cells #[] e (0, 0)))
  (hx : a.eval x = v) (hsrc : Z5 El size F w l v) (hm : l.length ≤ 2097152) (hbytes : bytes ≤ 1000)
  (h : ∀ v' w', Zah El size e (fun b => w.heap.size ≤ b) w' l v' → Za w w' → wpList P ops Q rest (a.put o.dst v') w') : wpList P ops Q (o :: rest) a w := by
 refine wpList_plain hgd fun _ hK => ?_;obtain ⟨v', w', hr, h2, h3⟩ := Zjp (P := P) w hE hs0 t o.type e i z bytes ht hi hz hsize hby hzs hB hsrc hm hbytes;unfold Oper.wp execOp;simp only [ho, resolve, invoke, builtin, Sem.run_bind, Sem.run_pure, Result.andThen_ok, List.map_toArray, List.map_cons, List.map_nil, hs, hx, hr];exact hK _ _ (h v' w' h2 h3)
theorem Zet {w : World} (hE : Ztl El size) (hs0 : 0 < size) {ops : Array Oper} {rest : List Oper} {o : Oper} {a : Act} {Q : Exit → Act → World → Prop} (hgd : o.guard = none) (s x : Operand) (t : TypeId)
  (ho : o.op = .call { callee := .builtin .append, args := #[s, x], argTypes := #[t, t] })
  (e : TypeId) (i : TypeInfo) (z : Value) (bytes : Nat) (ht : P.underlying t = some (.slice e)) (hi : P.info? e = some i) (hz : i.zero = some z)
  (hsize : i.size = size) (hby : i.bytes = bytes) (hzs : z.cells.size = size) {B : Nat} (hs : a.eval s = .slice (some ⟨B, 0, none⟩) 0 0) (hB : w.heap[B]? = some (.cells #[] e (0, 0)))
  (hx : a.eval x = v) (hsrc : Z5 El size F w l v) (hm : l.length ≤ 2097152) (hbytes : bytes ≤ 1000)
  (h : ∀ v' w', Zah El size e (fun b => B ≤ b) w' l v' → Za w w' → wpList P ops Q rest (a.put o.dst v') w') : wpList P ops Q (o :: rest) a w :=
 Zdb hE hs0 hgd s x t ho e i z bytes ht hi hz hsize hby hzs hs hB hx hsrc hm hbytes fun v' w' hr hl => h v' w' (hr.keep hE.is (fun b hb => Nat.le_trans (Nat.le_of_lt (Zc hB)) hb) (Zb.refl _ _)) hl
end
/-! ### A row that grows thing by thing -/
structure Zgw {α : Type} (S : Za6 α) (size : Nat) (T : TypeId) (base : Nat) (l : List α) (v : Value) (w : World) (xs : List Value) (tag : Nat → Nat) : Prop where
 row : Zda w base T size v l.length xs
 el : ∀ i (h : i < l.length), ∃ cs, S (fun y => (base ≤ y ∧ y < w.heap.size ∧ v.ownBlock ≠ some y) ∧ tag y = i) w l[i] cs ∧ ∀ q x, cs[q]? = some x → xs[i * size + q]? = some x
def Zkb {α : Type} (S : Za6 α) (size : Nat) (T : TypeId) (base : Nat) (l : List α) (v : Value) (w : World) : Prop := ∃ xs tag, Zgw S size T base l v w xs tag
section
variable {α : Type} {S El : Za6 α} {size : Nat} {T : TypeId} {base : Nat} {l : List α} {v : Value} {w x : World} {xs : List Value} {tag : Nat → Nat}
theorem Zkb.fresh {B : Nat} (hB : w.heap[B]? = some (.cells #[] T (0, 0))) (hb : base ≤ B) : Zkb S size T base ([] : List α) (.slice (some ⟨B, 0, none⟩) 0 0) w :=
 ⟨[], fun _ => 0, ⟨⟨by simp, .inr ⟨B, 0, #[], rfl, hb, hB, Nat.le_refl _, Nat.zero_le _, by simp, by simp⟩⟩, fun i h => by simp at h⟩⟩
theorem Zgw.keep (hE : Zb2 S size) (h : Zgw S size T base l v w xs tag) (hk : Zb (fun y => base ≤ y ∧ y < w.heap.size) w x) : Zgw S size T base l v x xs tag := by
 refine ⟨h.row.same fun k hk' => hk.same k ⟨(h.row.lt k hk').1, (h.row.lt k hk').2.1⟩ (h.row.lt k hk').2.1, fun i hi => ?_⟩;obtain ⟨cs, hs, hc⟩ := h.el i hi;exact ⟨cs, hE.keep hs (fun y hy => ⟨⟨hy.1.1, Nat.lt_of_lt_of_le hy.1.2.1 hk.size, hy.1.2.2⟩, hy.2⟩) (hk.mono fun y hy => ⟨hy.1.1, hy.1.2.1⟩), hc⟩
theorem Zgw.push {wr : World} (hE : Zc2 S El size) (h : Zgw S size T base l v wr xs tag) (hk : Zb (fun y => base ≤ y ∧ y < wr.heap.size) wr w) (hb : base ≤ wr.heap.size) {a : α} {cs : List Value}
  (he : S (fun y => wr.heap.size ≤ y) w a cs) {v' : Value} (hown : Zda x base T size v' (l.length + 1) (xs ++ cs)) (hg : w.grownBy x v.ownBlock) (hn : v'.ownBlock = v.ownBlock ∨ v'.ownBlock = some w.heap.size) :
  Zkb S size T base (l ++ [a]) v' x := by
 have hsz := hk.size;have hvb : ∀ k, v.ownBlock = some k → base ≤ k ∧ k < wr.heap.size := fun k e => ⟨(h.row.lt k e).1, (h.row.lt k e).2.1⟩;have hkeep : ∀ {F : Nat → Prop}, (∀ y, F y → v.ownBlock ≠ some y) → Zb F w x := fun hF => ⟨hg.size, fun b hf hl => hg.block b hl (fun e => hF b hf e.symm)⟩;refine ⟨xs ++ cs, fun y => if wr.heap.size ≤ y then l.length else tag y, by simpa using hown, fun i hi => ?_⟩
 by_cases e : i < l.length
 ·obtain ⟨cs0, hs, hc⟩ := h.el i e;rw [List.getElem_append_left e];refine ⟨cs0, hE.is.keep hs (fun y hy => ⟨⟨hy.1.1, by have := hg.size; omega, ?_⟩, ?_⟩) ((hk.mono fun y hy => ⟨hy.1.1, hy.1.2.1⟩).trans (hkeep fun y hy => hy.1.2.2)), fun q z hq => ?_⟩
  ·intro h2
   rcases hn with h3 | h3
   ·exact hy.1.2.2 (h3.symm.trans h2)
   ·rw [h3] at h2; cases h2; have := hy.1.2.1; omega
  ·show (if wr.heap.size ≤ y then l.length else tag y) = i;rw [if_neg (by omega)]; exact hy.2
  ·have := hc q z hq;rw [List.getElem?_append_left (List.getElem?_eq_some_iff.1 this).1];exact this
 ·have hil : i = l.length := by simp at hi; omega
  subst hil;rw [List.getElem_append_right (Nat.le_refl _)];simp only [Nat.sub_self, List.getElem_cons_zero];refine ⟨cs, hE.is.keep (hE.trim he) (fun y hy => ⟨⟨by omega, by have := hg.size; omega, ?_⟩, ?_⟩) (hkeep fun y hy h2 => by have := (hvb y h2).2; omega), fun q z hq => ?_⟩
  ·intro h2
   rcases hn with h3 | h3
   ·have := (hvb y (h3.symm.trans h2)).2; omega
   ·rw [h3] at h2; cases h2; omega
  ·show (if wr.heap.size ≤ y then l.length else tag y) = l.length;rw [if_pos hy.1]
  ·rw [← h.row.1, List.getElem?_append_right (by omega)]
   simpa using hq
theorem Zkb.row (hE : Zc2 S El size) (h : Zkb S size T base l v w) : Zah S size T (fun b => base ≤ b) w l v := by
 obtain ⟨xs, tag, h⟩ := h
 rcases h.row.2 with ⟨rfl, h0⟩ | ⟨g, cap, cur, rfl, hb, hg, h1, h2, h3, h4⟩
 ·exact ⟨none, 0, by rw [h0], by omega, Nat.zero_le _, fun hp => by omega⟩
 ·refine ⟨_, cap, rfl, h1, h2, fun _ => ⟨g, 0, cur, tag, rfl, hb, hg, ⟨rfl, by omega⟩, fun i hi => ?_⟩⟩;obtain ⟨cs, hs, hc⟩ := h.el i hi;refine ⟨cs, hE.is.keep hs (fun y hy => ⟨⟨hy.1.1, fun e => hy.1.2.2 (by rw [e]; rfl)⟩, hy.2⟩) (Zb.refl _ _), fun q x hq => ?_⟩;have := hc q x hq;rw [← h4, List.getElem?_take] at this
  split at this
  ·rw [Nat.zero_add]; simpa using this
  ·cases this
end
end
section
section
variable {P : Program} {α : Type} {S El : Za6 α} {size : Nat} {F G : Nat → Prop} {l : List α} {v : Value}
theorem Zln (w : World) (hE : Zc2 S El size) (t ty e : TypeId) (i : TypeInfo) (z : Value) (bytes : Nat) (ht : P.underlying t = some (.slice e)) (hi : P.info? e = some i) (hz : i.zero = some z)
  (hsize : i.size = size) (hby : i.bytes = bytes) (hzs : z.cells.size = size) (hrow : Zah S size e F w l v)
  (ad : Addr) (c : Nat) (a : α) (cs : List Value) (hnews : ∀ j u, cs[j]? = some u → w.cell? (ad.add j) = some u) (hone : ∀ u ∈ cs, u.oneCell' = true) (hel : S G w a cs) (hFG : ∀ y, G y → ¬ F y)
  (hm : l.length ≤ 134217728) (hbytes : bytes ≤ 1000) :
  ∃ v' w', (Builtin.append_ #[t, t] ty #[v, .slice (some ad) 1 c]).run P w = .ok v' w' ∧ Zah S size e (fun y => F y ∨ G y ∨ y = w.heap.size) w' (l ++ [a]) v' ∧ Zb (fun y => ¬ F y) w w' ∧ Below 0 w w' := by
 subst hsize;subst hby;have hcl : cs.length = 1 * i.size := by rw [hE.is.len hel, Nat.one_mul]
 have hby2 : (l.length + 1) * i.bytes ≤ 140737488355328 := by have := Nat.mul_le_mul (show l.length + 1 ≤ 134217729 by omega) hbytes; omega
 have mk : ∀ (w' : World) (g c' : Nat) (cur : Array Value) (tag : Nat → Nat), w'.heap[g]? = some (.cells cur e (0, 0)) → (F g ∨ g = w.heap.size) → (∀ y, y < w.heap.size → y ≠ g → w'.heap[y]? = w.heap[y]?) → w.heap.size ≤ w'.heap.size →
   l.length + 1 ≤ c' → c' ≤ maxLen → c' * i.size ≤ cur.size →
   (∀ k (h : k < l.length), ∃ cs, S (fun x => ((F x ∧ x < w.heap.size) ∧ x ≠ g) ∧ tag x = k) w l[k] cs ∧ ∀ j x, cs[j]? = some x → cur[k * i.size + j]? = some x) → (∀ j x, cs[j]? = some x → cur[l.length * i.size + j]? = some x) →
   Zah S i.size e (fun y => F y ∨ G y ∨ y = w.heap.size) w' (l ++ [a]) (.slice (some ⟨g, 0, none⟩) (l.length + 1) c') := by
  intro w' g c' cur tag hg hgF hkeep hsz h1 h2 h3 hold hnew
  classical
  refine ⟨_, c', by simp, by simpa using h1, h2, fun _ => ⟨g, 0, cur, fun y => if G y then l.length else tag y, rfl, ?_, hg, ⟨rfl, by omega⟩, fun k hk => ?_⟩⟩
  ·rcases hgF with h | h
   ·exact .inl h
   ·exact .inr (.inr h)
  ·by_cases hkl : k < l.length
   ·obtain ⟨cs0, hs, hc⟩ := hold k hkl;rw [List.getElem_append_left hkl];refine ⟨cs0, hE.is.keep hs (fun y hy => ⟨⟨.inl hy.1.1.1, hy.1.2⟩, ?_⟩) ⟨hsz, fun b hb hl => hkeep b hl hb.1.2⟩, fun j x hj => by rw [Nat.zero_add]; exact hc j x hj⟩;show (if G y then l.length else tag y) = k;rw [if_neg (fun hg => hFG y hg hy.1.1.1)];exact hy.2
   ·obtain rfl : k = l.length := by simp at hk; omega
    rw [List.getElem_append_right (Nat.le_refl _)];simp only [Nat.sub_self, List.getElem_cons_zero];have hng : ∀ y, G y ∧ y < w.heap.size → y ≠ g := fun y hy e => by
     rcases hgF with h | h
     ·exact hFG y hy.1 (e ▸ h)
     ·omega
    refine ⟨cs, hE.is.keep (hE.trim hel) (fun y hy => ⟨⟨.inr (.inl hy.1), hng y hy⟩, ?_⟩) ⟨hsz, fun b hb hl => hkeep b hl (hng b hb)⟩, fun j x hj => by rw [Nat.zero_add]; exact hnew j x hj⟩;show (if G y then l.length else tag y) = l.length;rw [if_pos hy.1]
 obtain ⟨A, cp, rfl, hc, hcm, h3⟩ := hrow;have hadd : ∀ g j, ((⟨g, 0, none⟩ : Addr).add j) = ⟨g, j, none⟩ := fun g j => by unfold Addr.add; split <;> simp_all
 by_cases h0 : cp = 0
 ·obtain rfl : l = [] := List.eq_nil_of_length_eq_zero (by omega);subst h0;have grown : ∀ old : Nat, old < 1 → Zah S i.size e (fun y => F y ∨ G y ∨ y = w.heap.size) (w.drew.alloc (.cells ((#[] : Array Value) ++ cs.toArray ++ Builtin.zeroCells z.cells (grownCap w (0 + 1) old e - (0 + 1))) e)) ([] ++ [a]) (.slice (some ⟨w.heap.size, 0, none⟩) (0 + 1) (grownCap w (0 + 1) old e)) := fun old ho => by
   have hge := grownCap_ge w (0 + 1) old e;have hgm : grownCap w (0 + 1) old e ≤ maxLen := grownCap_le_maxLen w (0 + 1) old e (by simp only [maxLen]; omega);refine mk _ _ _ _ (fun _ => 0) (heap_alloc_new w.drew _) (.inr rfl) (fun y hy _ => Below.heap_alloc w.drew _ y hy) (by simp) hge hgm ?_ (fun k hk => by simp at hk) (fun j x hj => ?_)
   ·simp only [Array.size_append, List.size_toArray, size_zeroCells, hzs, hcl, Array.size_empty];simp only [List.length_nil, Nat.zero_add] at hge ⊢;rw [← Nat.add_mul];exact Nat.mul_le_mul_right _ (by omega)
   ·have hlt := (List.getElem?_eq_some_iff.1 hj).1;rw [Array.getElem?_append_left (by simp; omega)]
    simpa using hj
  have keeps : ∀ o : Obj, Zb (fun y => ¬ F y) w (w.drew.alloc o) := fun o => ⟨by simp, fun b _ hb => Below.heap_alloc w.drew _ b hb⟩
  cases A with
  | none =>
   have hr := run_append_nil (P := P) w t ty e i z ht hi hz ad 1 c cs hcl hnews (by omega) (by omega) (by omega);have hgr := grown 0 (by omega);simp only [Nat.zero_add, List.nil_append, Array.empty_append, List.length_nil] at hgr hr ⊢;exact ⟨_, _, hr, hgr, keeps _, (Below.refl 0 w).drew.alloc (Nat.zero_le _) _⟩
  | some a0 =>
   have hr := run_append_grow (P := P) w t ty e i z ht hi hz a0 0 0 [] (by simp) (fun j u hu => by simp at hu) ad 1 c cs hcl hnews (by omega) (by omega) (growslice_fits (by omega) (by simpa using hby2));have hgr := grown 0 (by omega);exact ⟨_, _, hr, hgr, keeps _, (Below.refl 0 w).drew.alloc (Nat.zero_le _) _⟩
 ·obtain ⟨b, o, cur, tag, rfl, hF, hb, ⟨rfl, hcap⟩, hall⟩ := h3 (by omega);have hbw := Zc hb;have hcurl : cur.toList.length = cur.size := Array.length_toList;rw [Nat.zero_add] at hcap;have hold : ∀ g, (g = b ∨ g = w.heap.size) → ∀ k (h : k < l.length), ∃ cs, S (fun x => ((F x ∧ x < w.heap.size) ∧ x ≠ g) ∧ tag x = k) w l[k] cs ∧ ∀ j x, cs[j]? = some x → cur[k * i.size + j]? = some x := fun g hg k hk => by
   obtain ⟨cs0, hs, hc0⟩ := hall k hk;refine ⟨cs0, hE.is.keep (hE.trim hs) (fun y hy => ⟨⟨⟨hy.1.1.1, hy.2⟩, ?_⟩, hy.1.2⟩) (Zb.refl _ _), fun j x hj => by have := hc0 j x hj; rwa [Nat.zero_add] at this⟩
   rcases hg with rfl | rfl
   ·exact hy.1.1.2
   ·have := hy.2; omega
  have hlc : l.length * i.size ≤ cur.size := Nat.le_trans (Nat.mul_le_mul_right _ hc) hcap
  by_cases hroom : l.length + 1 ≤ cp
  ·have hfit : l.length * i.size + cs.length ≤ cur.size := by rw [hcl, ← Nat.add_mul]; exact Nat.le_trans (Nat.mul_le_mul_right _ hroom) hcap
   have hr := run_append_room (P := P) w t ty e i ht hi b l.length cp cur hb ad 1 c cs hcl hnews hone hroom hfit;refine ⟨_, _, hr, mk _ b cp _ tag (setRow_heap w b cur _ e _ hb) (.inl hF) (fun y hy hyb => setRow_other w b y _ hyb) (by simp) hroom hcm ?_ (fun k hk => ?_) (fun j x hj => ?_), ⟨by simp, fun y hy hl => setRow_other w b y _ (fun e => hy (e ▸ hF))⟩, ⟨rfl, rfl, rfl, by simp, fun k h => absurd h (Nat.not_lt_zero _)⟩⟩
   ·simp only [List.size_toArray, List.length_append, List.length_take, List.length_drop, Array.length_toList]
    omega
   ·obtain ⟨cs0, hs, hc0⟩ := hold b (.inl rfl) k hk;refine ⟨cs0, hs, fun j x hj => ?_⟩;have hx := hc0 j x hj;have hjs : j < i.size := by have := hE.is.len hs; have := (List.getElem?_eq_some_iff.1 hj).1; omega
    have hlt : k * i.size + j < l.length * i.size := by
     have : (k + 1) * i.size ≤ l.length * i.size := Nat.mul_le_mul_right _ hk;rw [Nat.add_mul, Nat.one_mul] at this
     omega
    rw [List.getElem?_toArray, List.append_assoc, List.getElem?_append_left (by rw [List.length_take, hcurl]; omega), List.getElem?_take, if_pos hlt]
    simpa using hx
   ·have hlt := (List.getElem?_eq_some_iff.1 hj).1;rw [List.getElem?_toArray, List.append_assoc, List.getElem?_append_right (by rw [List.length_take, hcurl]; omega), List.length_take, hcurl, Nat.min_eq_left hlc, Nat.add_sub_cancel_left, List.getElem?_append_left hlt];exact hj
  ·have hxs : (cur.toList.take (l.length * i.size)).length = l.length * i.size := by rw [List.length_take, hcurl]; omega
   have holds : ∀ j u, (cur.toList.take (l.length * i.size))[j]? = some u → w.cell? ((⟨b, 0, none⟩ : Addr).add j) = some u := fun j u hu => by
    rw [hadd, cell_of_row w b j cur e (0, 0) hb];rw [List.getElem?_take] at hu
    split at hu
    ·simpa using hu
    ·cases hu
   have hr := run_append_grow (P := P) w t ty e i z ht hi hz ⟨b, 0, none⟩ l.length cp (cur.toList.take (l.length * i.size)) hxs holds ad 1 c cs hcl hnews (by omega) (by omega) (growslice_fits (by omega) hby2);have hge := grownCap_ge w (l.length + 1) cp e;have hgm : grownCap w (l.length + 1) cp e ≤ maxLen := grownCap_le_maxLen w (l.length + 1) cp e (by simp only [maxLen]; omega);refine ⟨_, _, hr, mk _ _ _ _ tag (heap_alloc_new w.drew _) (.inr rfl) (fun y hy _ => Below.heap_alloc w.drew _ y hy) (by simp) hge hgm ?_ (fun k hk => ?_) (fun j x hj => ?_), ⟨by simp, fun b _ hb => Below.heap_alloc w.drew _ b hb⟩, (Below.refl 0 w).drew.alloc (Nat.zero_le _) _⟩
   ·simp only [Array.size_append, List.size_toArray, size_zeroCells, hzs, hxs, hcl, ← Nat.add_mul];exact Nat.mul_le_mul_right _ (by omega)
   ·obtain ⟨cs0, hs, hc0⟩ := hold w.heap.size (.inr rfl) k hk;refine ⟨cs0, hs, fun j x hj => ?_⟩;have hx := hc0 j x hj;have hjs : j < i.size := by have := hE.is.len hs; have := (List.getElem?_eq_some_iff.1 hj).1; omega
    have hlt : k * i.size + j < l.length * i.size := by
     have : (k + 1) * i.size ≤ l.length * i.size := Nat.mul_le_mul_right _ hk;rw [Nat.add_mul, Nat.one_mul] at this
     omega
    rw [Array.getElem?_append_left (by simp only [Array.size_append, List.size_toArray, hxs]; omega), Array.getElem?_append_left (by rw [List.size_toArray, hxs]; exact hlt), List.getElem?_toArray, List.getElem?_take, if_pos hlt]
    simpa using hx
   ·have hlt := (List.getElem?_eq_some_iff.1 hj).1;rw [Array.getElem?_append_left (by simp only [Array.size_append, List.size_toArray, hxs]; omega), Array.getElem?_append_right (by rw [List.size_toArray, hxs]; omega), List.size_toArray, hxs, Nat.add_sub_cancel_left, List.getElem?_toArray];exact hj
theorem Zbd {w : World} (hE : Zc2 S El size) {ops : Array Oper} {rest : List Oper} {o : Oper} {ac : Act} {Q : Exit → Act → World → Prop} (hgd : o.guard = none) (s x : Operand) (t : TypeId)
  (ho : o.op = .call { callee := .builtin .append, args := #[s, x], argTypes := #[t, t] })
  (e : TypeId) (i : TypeInfo) (z : Value) (bytes : Nat) (ht : P.underlying t = some (.slice e)) (hi : P.info? e = some i) (hz : i.zero = some z)
  (hsize : i.size = size) (hby : i.bytes = bytes) (hzs : z.cells.size = size) (hs : ac.eval s = v) (hrow : Zah S size e F w l v)
  (ad : Addr) (c : Nat) (hx : ac.eval x = .slice (some ad) 1 c) (a : α) (cs : List Value) (hnews : ∀ j u, cs[j]? = some u → w.cell? (ad.add j) = some u) (hone : ∀ u ∈ cs, u.oneCell' = true) (hel : S G w a cs) (hFG : ∀ y, G y → ¬ F y)
  (hm : l.length ≤ 134217728) (hbytes : bytes ≤ 1000)
  (h : ∀ v' w', Zah S size e (fun y => F y ∨ G y ∨ y = w.heap.size) w' (l ++ [a]) v' → Zb (fun y => ¬ F y) w w' → Below 0 w w' → wpList P ops Q rest (ac.put o.dst v') w') : wpList P ops Q (o :: rest) ac w := by
 refine wpList_plain hgd fun _ hK => ?_;obtain ⟨v', w', hr, h2, h3, h4⟩ := Zln (P := P) w hE t o.type e i z bytes ht hi hz hsize hby hzs hrow ad c a cs hnews hone hel hFG hm hbytes;unfold Oper.wp execOp;simp only [ho, resolve, invoke, builtin, Sem.run_bind, Sem.run_pure, Result.andThen_ok, List.map_toArray, List.map_cons, List.map_nil, hs, hx, hr];exact hK _ _ (h v' w' h2 h3 h4)
end
end
section
abbrev Zhs : TypeId := 134
abbrev Zoi : TypeId := 82
abbrev Zlo : TypeId := 189
abbrev Zco : TypeId := 3
structure Tn (P : Nat → Prop) (w x : World) : Prop where
 keep : Zb (fun b => ¬ P b) w x
 below : Below 0 w x
section
variable {P Q R : Nat → Prop} {w x y : World}
theorem Tn.refl (P : Nat → Prop) (w : World) : Tn P w w := ⟨Zb.refl _ _, Below.refl _ _⟩
theorem Tn.later (hl : Za w x) : Tn P w x := ⟨Zb.later hl, Below.mono hl (Nat.zero_le _)⟩
theorem Tn.trans (h : Tn P w x) (k : Tn Q x y) (hP : ∀ b, P b → R b) (hQ : ∀ b, b < w.heap.size → Q b → R b) : Tn R w y :=
 ⟨⟨Nat.le_trans h.keep.size k.keep.size, fun b hb hl => (k.keep.same b (fun hq => hb (hQ b hl hq)) (Nat.lt_of_lt_of_le hl h.keep.size)).trans (h.keep.same b (fun hp => hb (hP b hp)) hl)⟩, h.below.trans k.below⟩
theorem Tn.tr (h : Tn P w x) (k : Tn P x y) : Tn P w y := h.trans k (fun _ h => h) (fun _ _ h => h)
theorem Tn.mono (h : Tn P w x) (hP : ∀ b, b < w.heap.size → P b → R b) : Tn R w x := ⟨⟨h.keep.size, fun b hb hl => h.keep.same b (fun hp => hb (hP b hl hp)) hl⟩, h.below⟩
theorem Tn.size (h : Tn P w x) : w.heap.size ≤ x.heap.size := h.keep.size
theorem Tn.has (h : Tn P w x) {b : Nat} {o : Obj} (hb : w.heap[b]? = some o) (hc : ¬ P b) : x.heap[b]? = some o := (h.keep.same b hc (Zc hb)).trans hb
theorem Tn.keeps {F : Nat → Prop} (h : Tn P w x) (hF : ∀ b, F b → ¬ P b) : Zb F w x := h.keep.mono hF
theorem Tn.set (h : Tn P w x) {c : Nat} (hc : P c) (o : Nat) (v : Value) : Tn P w (x.setCell ⟨c, o, none⟩ v) :=
 ⟨h.keep.set (fun hn => hn hc) o v, h.below.setCell (Nat.zero_le _) _⟩
end
section
variable {α : Type} {S : Za6 α} {size : Nat} {T : TypeId} {F : Nat → Prop} {w : World} {l : List α} {v : Value}
theorem Zah.set1 (hE : Zb2 S size) (h : Zah S size T F w l v) {i q : Nat} (hi : i < l.length) (hq : q < size) :
  ∃ b c cs, v = .slice (some ⟨b, 0, none⟩) l.length c ∧ l.length ≤ c ∧ c ≤ maxLen ∧ F b ∧ b < w.heap.size ∧ (∃ G, S G w l[i] cs) ∧ (∀ j x, cs[j]? = some x → w.cell? ⟨b, i * size + j, none⟩ = some x) ∧ (∀ o, w.frozen? ⟨b, o, none⟩ = false) ∧
   ∀ (a : α) (u : Value), (∀ G x, S G x a (cs.set q u)) → Zah S size T F (w.setCell ⟨b, i * size + q, none⟩ u) (l.set i a) v := by
 obtain ⟨A, c, rfl, h1, h2, h3⟩ := h;obtain ⟨b, o, cur, tag, rfl, hF, hb, ⟨rfl, hcp⟩, hel⟩ := h3 (by omega);have hat : SAt S size T F b 0 (0 + c * size) tag w l := ⟨cur, hb, hcp, hel⟩;obtain ⟨cur1, cs, hb1, hs, hst⟩ := hat.open_ hE hi;obtain rfl : cur1 = cur := by rw [hb] at hb1; cases hb1; rfl
 have hst := hst (by omega);have hlen := hE.len hs;refine ⟨b, c, cs, rfl, h1, h2, hF, Zc hb, ⟨_, hs⟩, fun j x hx => ?_, fun o => frozen_of_row _ _ _ _ _ hb, fun a u ha => ?_⟩
 ·have := hst.cell hx
  rwa [Nat.zero_add] at this
 ·have k1 := hst.set q (by omega) u;rw [Nat.zero_add] at k1;have h5 := hat.put hE hi hb (a := a) (cs := cs.set q u) (by rw [Nat.zero_add]; exact k1) (((Zb.refl (fun y => y ≠ b) w).set (fun h => h rfl) _ _).mono fun y hy => hy.1.2) (ha _ _);have h6 := h5.row hF (c := c) (by simpa using h1) h2 ⟨rfl, Nat.le_refl _⟩;rw [List.length_set] at h6;exact h6
end
structure ImK (w : World) (CB : Nat) (G : Nat → Prop) (L L0 : List Ze) (iv : Value) (ov : Bool) : Prop where
 blk : w.heap[CB]? = some (.cells #[iv, .bool ov] Zoi (0, 0))
 row : Zah Zbi 5 Zhs G w L0 iv
 le : L0.length ≤ 60000
 off : ov = false → L0 = L
 on : ov = true → L0.length = 60000 ∧ 60000 < L.length
 nG : ¬ G CB
 lt : ∀ b, G b → b < w.heap.size
section
variable {w x : World} {CB : Nat} {G : Nat → Prop} {L L0 : List Ze} {iv : Value} {ov : Bool}
theorem ImK.ov_eq (h : ImK w CB G L L0 iv ov) : ov = decide (60000 < L.length) := by
 cases ov with
 | false => rw [nU]; have := h.off rfl; have := h.le; subst L0; omega
 | true => rw [nT]; exact (h.on rfl).2
theorem ImK.keep (h : ImK w CB G L L0 iv ov) (hk : Zb (fun b => b = CB ∨ G b) w x) : ImK x CB G L L0 iv ov :=
 ⟨(hk.same CB (.inl rfl) (Zc h.blk)).trans h.blk, h.row.keep Z9.is (fun _ h => h) (hk.mono fun b hb => .inr hb), h.le, h.off, h.on, h.nG, fun b hb => Nat.lt_of_lt_of_le (h.lt b hb) hk.size⟩
theorem ImK.later (h : ImK w CB G L L0 iv ov) (hl : Za w x) : ImK x CB G L L0 iv ov := h.keep (Zb.later hl)
theorem ImK.more (h : ImK w CB G L L0 iv true) (a : List Ze) : ImK w CB G (L ++ a) L0 iv true :=
 ⟨h.blk, h.row, h.le, fun e => (by cases e), fun _ => ⟨(h.on rfl).1, by have := (h.on rfl).2; simp; omega⟩, h.nG, h.lt⟩
theorem ImK.same (h : ImK w CB G L L0 iv true) {M : List Ze} (hm : L.length ≤ M.length) : ImK w CB G M L0 iv true :=
 ⟨h.blk, h.row, h.le, fun e => (by cases e), fun _ => ⟨(h.on rfl).1, by have := (h.on rfl).2; omega⟩, h.nG, h.lt⟩
theorem ImK.full (h : ImK w CB G L L0 iv false) (hl : 60000 ≤ L.length) (a : Ze) : ImK (w.setCell ⟨CB, 1, none⟩ (.bool true)) CB G (L ++ [a]) L0 iv true := by
 have h0 := h.off rfl;have h1 := h.le;subst h0;refine ⟨by have := Za1 (o := 1) h.blk (.bool true); simpa using this, h.row.keep Z9.is (fun _ h => h) ((Zb.refl _ _).set h.nG _ _), h.le, fun e => (by cases e), fun _ => ⟨by omega, by simp; omega⟩, h.nG, fun b hb => by simpa using h.lt b hb⟩
theorem ImK.push (h : ImK w CB G L L0 iv false) (hl : L.length < 60000) {a : Ze} {X y : World} {H : Nat → Prop} {v2 : Value} (hX : Za w X) (hH : ∀ b, H b → w.heap.size ≤ b) (hrow : Zah Zbi 5 Zhs (fun b => G b ∨ H b ∨ b = X.heap.size) y (L ++ [a]) v2) (hk : Zb (fun b => ¬ G b) X y) :
  ImK (y.setCell ⟨CB, 0, none⟩ v2) CB (fun b => (G b ∨ H b ∨ b = X.heap.size) ∧ b < y.heap.size) (L ++ [a]) (L ++ [a]) v2 false := by
 have hlt := Zc h.blk;have hs := hX.size;have hn : ¬ (G CB ∨ H CB ∨ CB = X.heap.size) := by
  rintro (e | e | e)
  ·exact h.nG e
  ·have := hH CB e; omega
  ·omega
 have hb : y.heap[CB]? = some (.cells #[iv, .bool false] Zoi (0, 0)) := (hk.same CB h.nG (by omega)).trans ((hX.block CB hlt).trans h.blk);exact ⟨by have := Za1 (o := 0) hb v2; simpa using this, (hrow.trim Z9).keep Z9.is (fun _ h => h) ((Zb.refl _ _).set (fun h => hn h.1) _ _), by simp; omega, fun _ => rfl, fun e => (by cases e), fun h => hn h.1, fun b hb => by simpa using hb.2⟩
end
section
variable {w x : World} {CB : Nat} {G : Nat → Prop} {L L0 : List Ze} {iv : Value}
theorem ImK.patch (h : ImK w CB G L L0 iv false) {i : Nat} (hi : i < L.length) {a : Int} (ha : Zi a) :
  ∃ b c, iv = .slice (some ⟨b, 0, none⟩) L.length c ∧ L.length ≤ c ∧ c ≤ maxLen ∧ G b ∧ b < w.heap.size ∧ (∃ u, w.cell? ⟨b, i * 5 + 1, none⟩ = some u) ∧ (∀ o, w.frozen? ⟨b, o, none⟩ = false) ∧ ImK (w.setCell ⟨b, i * 5 + 1, none⟩ (.int .i64 a)) CB G (Zei i a L) (Zei i a L) iv false := by
 obtain rfl := h.off rfl;obtain ⟨b, c, cs, e, h1, h2, hG, hb, ⟨H, hE⟩, hcell, hfr, hput⟩ := h.row.set1 Z9.is hi (q := 1) (by decide);obtain ⟨rfl, k0, k1, k2, k3, k4⟩ := hE;have hne : b ≠ CB := fun e => h.nG (e ▸ hG);refine ⟨b, c, e, h1, h2, hG, hb, ⟨_, hcell 1 _ rfl⟩, hfr, ?_⟩;have hp : Zei i a L0 = L0.set i { L0[i] with a := a } := by unfold Zei; rw [List.getElem?_eq_getElem hi]
 rw [hp];have hrow := hput { L0[i] with a := a } (.int .i64 a) (fun _ _ => ⟨rfl, k0, ha, k2, k3, k4⟩);exact ⟨(Below.heap_setCell _ _ _ _ (Ne.symm hne)).trans h.blk, hrow, by rw [List.length_set]; exact h.le, fun _ => rfl, fun e => (by cases e), h.nG, fun b hb => by simpa using h.lt b hb⟩
end
structure LpK (w : World) (LB : Nat) (E : Nat → Prop) (x : Zr) (ex : List Nat) (q : Bool) (bv : Int) (exs : List Int) (ev : Value) : Prop where
 blk : w.heap[LB]? = some (.cells #[.bool x.every, .int .i64 x.marks, .int .i64 bv, ev] Zlo (0, 0))
 row : Zah Zc1 1 Zco E w exs ev
 len : exs.length ≤ ex.length
 beg : q = true → bv = x.begin_
 exq : q = true → exs = ex.map Int.ofNat
 bv64 : Zi bv
 nE : ¬ E LB
 lt : ∀ b, E b → b < w.heap.size
theorem LpK.keep {w x : World} {LB : Nat} {E : Nat → Prop} {l : Zr} {ex : List Nat} {q : Bool} {bv : Int} {exs : List Int} {ev : Value} (h : LpK w LB E l ex q bv exs ev) (hk : Zb (fun b => b = LB ∨ E b) w x) : LpK x LB E l ex q bv exs ev :=
 ⟨(hk.same LB (.inl rfl) (Zc h.blk)).trans h.blk, h.row.keep Zap.is (fun _ h => h) (hk.mono fun b hb => .inr hb), h.len, h.beg, h.exq, h.bv64, h.nE, fun b hb => Nat.lt_of_lt_of_le (h.lt b hb) hk.size⟩
theorem LpK.less {w : World} {LB : Nat} {E : Nat → Prop} {l : Zr} {ex : List Nat} {q q' : Bool} {bv : Int} {exs : List Int} {ev : Value} (h : LpK w LB E l ex q bv exs ev) (hq : q' = true → q = true) : LpK w LB E l ex q' bv exs ev :=
 ⟨h.blk, h.row, h.len, fun e => h.beg (hq e), fun e => h.exq (hq e), h.bv64, h.nE, h.lt⟩
theorem LpK.more {w : World} {LB : Nat} {E : Nat → Prop} {l : Zr} {ex ex' : List Nat} {bv : Int} {exs : List Int} {ev : Value} (h : LpK w LB E l ex false bv exs ev) (he : ex.length ≤ ex'.length) : LpK w LB E l ex' false bv exs ev :=
 ⟨h.blk, h.row, Nat.le_trans h.len he, fun e => (by cases e), fun e => (by cases e), h.bv64, h.nE, h.lt⟩
theorem LpK.push {w X y : World} {LB : Nat} {E H : Nat → Prop} {l : Zr} {ex : List Nat} {q : Bool} {bv : Int} {exs : List Int} {ev v2 : Value} (h : LpK w LB E l ex q bv exs ev) {z : Int} {i : Nat} (hz : q = true → z = i) (hX : Za w X) (hH : ∀ b, H b → w.heap.size ≤ b) (hrow : Zah Zc1 1 Zco (fun b => E b ∨ H b ∨ b = X.heap.size) y (exs ++ [z]) v2) (hk : Zb (fun b => ¬ E b) X y) :
  LpK (y.setCell ⟨LB, 3, none⟩ v2) LB (fun b => (E b ∨ H b ∨ b = X.heap.size) ∧ b < y.heap.size) l (ex ++ [i]) q bv (exs ++ [z]) v2 := by
 have hlt := Zc h.blk;have hs := hX.size;have hn : ¬ (E LB ∨ H LB ∨ LB = X.heap.size) := by
  rintro (e | e | e)
  ·exact h.nE e
  ·have := hH LB e; omega
  ·omega
 have hb : y.heap[LB]? = some (.cells #[.bool l.every, .int .i64 l.marks, .int .i64 bv, ev] Zlo (0, 0)) := (hk.same LB h.nE (by omega)).trans ((hX.block LB hlt).trans h.blk);exact ⟨by have := Za1 (o := 3) hb v2; simpa using this, (hrow.trim Zap).keep Zap.is (fun _ h => h) ((Zb.refl _ _).set (fun h => hn h.1) _ _), by have := h.len; simp; omega, h.beg, fun e => by rw [h.exq e, List.map_append, hz e]; rfl, h.bv64, fun h => hn h.1, fun b hb => by simpa using hb.2⟩
/-! ### The whole state of the program's compiler -/
structure KS (w0 w : World) (CB : Nat) (G0 G : Nat → Prop) (L : List Ze) (lp : Option Zr) (lv : Value) (LB : Nat) (E0 E : Nat → Prop) (ex : List Nat) : Prop where
 im : ∃ L0 iv ov, ImK w CB G L L0 iv ov
 lk : ∀ x, lp = some x → lv = .pointer (some ⟨LB, 0, none⟩) ∧ (∃ bv exs ev, LpK w LB E x ex (decide (L.length ≤ 60000)) bv exs ev) ∧ LB ≠ CB ∧ ¬ G LB ∧ ¬ E CB ∧ (∀ b, E b → ¬ G b) ∧ ∀ b, E b → E0 b ∨ w0.heap.size ≤ b
 tn : Tn (fun b => b = CB ∨ G0 b ∨ (lp.isSome = true ∧ (b = LB ∨ E0 b))) w0 w
 gG : ∀ b, G b → G0 b ∨ w0.heap.size ≤ b
section
variable {w0 w x : World} {CB LB : Nat} {G0 G G' E0 E E' : Nat → Prop} {L L' : List Ze} {lp : Option Zr} {lv : Value} {ex : List Nat}
theorem KS.start (h : ∃ L0 iv ov, ImK w CB G L L0 iv ov) (hl : ∀ x, lp = some x → lv = .pointer (some ⟨LB, 0, none⟩) ∧ (∃ bv exs ev, LpK w LB E x ex (decide (L.length ≤ 60000)) bv exs ev) ∧ LB ≠ CB ∧ ¬ G LB ∧ ¬ E CB ∧ ∀ b, E b → ¬ G b) : KS w w CB G G L lp lv LB E E ex :=
 ⟨h, fun x hx => by obtain ⟨a, b, c, d, e, f⟩ := hl x hx; exact ⟨a, b, c, d, e, f, fun _ h => .inl h⟩, Tn.refl _ _, fun _ h => .inl h⟩
theorem KS.step (h : KS w0 w CB G0 G L lp lv LB E0 E ex) (ht : Tn (fun b => b = CB ∨ G b) w x) (him : ∃ L0 iv ov, ImK x CB G' L' L0 iv ov) (hG : ∀ b, G' b → G b ∨ w.heap.size ≤ b) (hL : L.length ≤ L'.length) : KS w0 x CB G0 G' L' lp lv LB E0 E ex := by
 have hs := h.tn.size;refine ⟨him, fun y hy => ?_, Tn.trans h.tn ht (fun _ h => h) (fun b hl hb => ?_), fun b hb => ?_⟩
 ·obtain ⟨a, ⟨bv, exs, ev, hk⟩, c, d, e, f, g⟩ := h.lk y hy;have hLB := Zc hk.blk;refine ⟨a, ⟨bv, exs, ev, (hk.keep (ht.keeps fun b hb hp => ?_)).less (fun e => by simp only [nJ] at e ⊢; omega)⟩, c, fun hg => ?_, e, fun b hb hg => ?_, g⟩
  ·rcases hb with rfl | hb
   ·rcases hp with hp | hp
    ·exact c hp
    ·exact d hp
   ·rcases hp with rfl | hp
    ·exact e hb
    ·exact f b hb hp
  ·rcases hG LB hg with h1 | h1
   ·exact d h1
   ·omega
  ·rcases hG b hg with h1 | h1
   ·exact f b hb h1
   ·have := hk.lt b hb; omega
 ·rcases hb with hb | hb
  ·exact .inl hb
  ·rcases h.gG b hb with h1 | h1
   ·exact .inr (.inl h1)
   ·omega
 ·rcases hG b hb with h1 | h1
  ·exact h.gG b h1
  ·exact .inr (by omega)
theorem KS.later (h : KS w0 w CB G0 G L lp lv LB E0 E ex) (hl : Za w x) : KS w0 x CB G0 G L lp lv LB E0 E ex := by
 obtain ⟨L0, iv, ov, hi⟩ := h.im;exact h.step (Tn.later hl) ⟨L0, iv, ov, hi.later hl⟩ (fun _ h => .inl h) (Nat.le_refl _)
theorem KS.back (h : KS w0 w CB G0 G L lp lv LB E0 E ex) {lp' : Option Zr} {lv' : Value} {LB' : Nat} {E1 E2 : Nat → Prop} {ex' : List Nat} (k : KS w x CB G G' L' lp' lv' LB' E1 E2 ex') (hn : lp'.isSome = true → w0.heap.size ≤ LB' ∧ (∀ b, E1 b → w0.heap.size ≤ b) ∧ (lp.isSome = true → LB' ≠ LB ∧ ¬ E LB' ∧ ¬ E1 LB ∧ ∀ b, E1 b → ¬ E b)) (hL : L.length ≤ L'.length) : KS w0 x CB G0 G' L' lp lv LB E0 E ex := by
 have hs := h.tn.size;refine ⟨k.im, fun y hy => ?_, Tn.trans h.tn k.tn (fun _ h => h) (fun b hl hb => ?_), fun b hb => ?_⟩
 ·obtain ⟨a, ⟨bv, exs, ev, hk⟩, c, d, e, f, g⟩ := h.lk y hy;have hLB := Zc hk.blk;have hsome : lp.isSome = true := by rw [hy]; rfl
  refine ⟨a, ⟨bv, exs, ev, (hk.keep (k.tn.keeps fun b hb hp => ?_)).less (fun e => by simp only [nJ] at e ⊢; omega)⟩, c, fun hg => ?_, e, fun b hb hg => ?_, g⟩
  ·rcases hp with hp | hp | ⟨hp, hq⟩
   ·rcases hb with hb | hb
    ·exact c (hb.symm.trans hp)
    ·exact e (hp ▸ hb)
   ·rcases hb with rfl | hb
    ·exact d hp
    ·exact f b hb hp
   ·obtain ⟨n1, n2, n3, n4⟩ := (hn hp).2.2 hsome
    rcases hq with rfl | hq
    ·rcases hb with hb | hb
     ·exact n1 hb
     ·exact n2 hb
    ·rcases hb with rfl | hb
     ·exact n3 hq
     ·exact n4 b hq hb
  ·rcases k.gG LB hg with h1 | h1
   ·exact d h1
   ·omega
  ·rcases k.gG b hg with h1 | h1
   ·exact f b hb h1
   ·have := hk.lt b hb; omega
 ·rcases hb with hb | hb | ⟨hp, hq⟩
  ·exact .inl hb
  ·rcases h.gG b hb with h1 | h1
   ·exact .inr (.inl h1)
   ·omega
  ·have := hn hp
   rcases hq with rfl | hq
   ·omega
   ·have := this.2.1 b hq; omega
 ·rcases k.gG b hb with h1 | h1
  ·exact h.gG b h1
  ·exact .inr (by omega)
theorem KS.over (h : KS w0 w CB G0 G L lp lv LB E0 E ex) (ho : 60000 < L.length) {ex' : List Nat} (hL : L.length ≤ L'.length) (he : ex.length ≤ ex'.length) : KS w0 w CB G0 G L' lp lv LB E0 E ex' := by
 obtain ⟨L0, iv, ov, hi⟩ := h.im;have hov := hi.ov_eq;rw [nT ho] at hov;subst hov;refine ⟨⟨L0, iv, true, hi.same hL⟩, fun y hy => ?_, h.tn, h.gG⟩;obtain ⟨a, ⟨bv, exs, ev, hk⟩, r⟩ := h.lk y hy;rw [nU (by omega)] at hk;refine ⟨a, ⟨bv, exs, ev, ?_⟩, r⟩;rw [nU (by omega)];exact hk.more he
theorem KS.keeps (h : KS w0 w CB G0 G L lp lv LB E0 E ex) {F : Nat → Prop} (hF : ∀ b, F b → b ≠ CB ∧ ¬ G0 b ∧ (lp.isSome = true → b ≠ LB ∧ ¬ E0 b)) : Zb F w0 w :=
 h.tn.keeps fun b hb hp => by
  obtain ⟨h1, h2, h3⟩ := hF b hb
  rcases hp with hp | hp | ⟨hp, hq⟩
  ·exact h1 hp
  ·exact h2 hp
  ·obtain ⟨h4, h5⟩ := h3 hp
   rcases hq with hq | hq
   ·exact h4 hq
   ·exact h5 hq
end
end
theorem Zo9 : (Tryz.prog.info? Zhs).map (fun i => (i.zero, i.size, i.bytes)) = some (some (.agg #[.int .i64 0, .int .i64 0, .int .i64 0, .int .i64 0, .string ⟨#[]⟩]), 5, 48) := by kernel_rfl
theorem Zgi (w : World) (l : List Value) (T : TypeId) : ∀ j u, l[j]? = some u → (w.alloc (.cells l.toArray T)).cell? ((⟨w.heap.size, 0, none⟩ : Addr).add j) = some u := fun j u h => by
 rw [show (⟨w.heap.size, 0, none⟩ : Addr).add j = ⟨w.heap.size, j, none⟩ by unfold Addr.add; split <;> simp_all, cell_of_row _ _ _ _ _ _ (heap_alloc_new w _)]
 simpa using h
def Zuk (w : World) (CB : Nat) (G : Nat → Prop) (L : List Ze) (x : Ze) (e : Ending) (w' : World) : Prop :=
 ∃ (z : Int) (G' : Nat → Prop), e = .returned (.int .i64 z) ∧ 0 ≤ z ∧ z ≤ 60000 ∧ (L.length < 60000 → z = L.length) ∧ (∃ L0 iv ov, ImK w' CB G' (L ++ [x]) L0 iv ov) ∧ (∀ b, G' b → G b ∨ w.heap.size ≤ b) ∧ Tn (fun b => b = CB ∨ G b) w w'
theorem ImK.again {w : World} {CB : Nat} {G : Nat → Prop} {L L0 : List Ze} {iv : Value} (h : ImK w CB G L L0 iv true) : ImK (w.setCell ⟨CB, 1, none⟩ (.bool true)) CB G L L0 iv true :=
 ⟨by have := Za1 (o := 1) h.blk (.bool true); simpa using this, h.row.keep Z9.is (fun _ h => h) ((Zb.refl _ _).set h.nG _ _), h.le, h.off, h.on, h.nG, fun b hb => by simpa using h.lt b hb⟩
theorem Z2 (CB : Nat) (G : Nat → Prop) (L : List Ze) (op a b line : Int) (text : ByteArray) (w : World) (h : ∃ L0 iv ov, ImK w CB G L L0 iv ov) (h1 : Zi op) (h2 : Zi a) (h3 : Zi b) (h4 : Zi line) (h5 : text.size ≤ maxLen) :
  Calls Tryz.prog 37 #[.pointer (some ⟨CB, 0, none⟩), .int .i64 op, .int .i64 a, .int .i64 b, .int .i64 line, .string text] w (Zuk w CB G L ⟨op, a, b, line, text⟩) := by
 obtain ⟨L0, iv, ov, hk⟩ := h;have HK := zh hk;obtain ⟨iI, hiI, hz0, hz1, hz2⟩ := info_parts Zo9;obtain ⟨Ai, ci, rfl, -⟩ := id hk.row;have hle := hk.le;have b0 := cz2 hk.blk;have fb0 := fz hk.blk;clear hk
 cases ov with
 | true =>
  have h60 : L0.length = 60000 := (HK.o.on rfl).1;have t1 : decide ((60000 : Int) ≤ (L0.length : Int)) = true := nT (by omega);have HF := zh (show ∃ L1 iv ov, ImK (w.setCell ⟨CB, 1, none⟩ (.bool true)) CB G (L ++ [⟨op, a, b, line, text⟩]) L1 iv ov from ⟨_, _, _, (HK.o.again).more _⟩);have HT := zh (Tn.set (P := fun b => b = CB ∨ G b) (Tn.refl _ w) (c := CB) (.inl rfl) 1 (.bool true));go_enter Tryz.func37, Tryz.ntmps37;go_wp2_with fail;go_ret;exact ⟨0, G, rfl, Int.le_refl _, by decide, fun h => by have := (HK.o.on rfl).2; omega, HF.o, fun b hb => .inl hb, HT.o⟩
 | false =>
  by_cases hl : 60000 ≤ L0.length
  ·obtain rfl := HK.o.off rfl;have h60 : L0.length = 60000 := by omega
   have t1 : decide ((60000 : Int) ≤ (L0.length : Int)) = true := nT (by omega);have HF := zh (show ∃ L1 iv ov, ImK (w.setCell ⟨CB, 1, none⟩ (.bool true)) CB G (L0 ++ [⟨op, a, b, line, text⟩]) L1 iv ov from ⟨_, _, _, HK.o.full (by omega) _⟩);have HT := zh (Tn.set (P := fun b => b = CB ∨ G b) (Tn.refl _ w) (c := CB) (.inl rfl) 1 (.bool true));go_enter Tryz.func37, Tryz.ntmps37;go_wp2_with fail;go_ret;exact ⟨0, G, rfl, Int.le_refl _, by decide, fun h => by omega, HF.o, fun b hb => .inl hb, HT.o⟩
  ·obtain rfl := HK.o.off rfl;have t1 : decide ((60000 : Int) ≤ (L0.length : Int)) = false := nU (by omega);have hX : Za w (w.alloc (.cells #[.int .i64 op, .int .i64 a, .int .i64 b, .int .i64 line, .string text] Zhs)) := (Za.refl _).alloc _;have HX := zh hX;have HROW := zh (HK.o.row.keep Z9.is (fun _ h => h) (Zb.later hX));have HEL := zh (show Zbi (fun _ => False) (w.alloc (.cells #[.int .i64 op, .int .i64 a, .int .i64 b, .int .i64 line, .string text] Zhs)) ⟨op, a, b, line, text⟩ [.int .i64 op, .int .i64 a, .int .i64 b, .int .i64 line, .string text] from ⟨rfl, h1, h2, h3, h4, h5⟩);have HNO : Hd (∀ y, (fun _ : Nat => False) y → ¬ G y) := zh (fun _ h => h.elim);clear hX h1 h2 h3 h4 h5;go_enter Tryz.func37, Tryz.ntmps37
   go_wp2_with (at_builtin; refine Zbd Z9 rfl _ _ 30 rfl Zhs iI (.agg #[.int .i64 0, .int .i64 0, .int .i64 0, .int .i64 0, .string ⟨#[]⟩]) 48 Tryz.underlying30 hiI hz0 hz1 hz2 rfl rfl HROW.o ⟨w.heap.size, 0, none⟩ 1 rfl ⟨op, a, b, line, text⟩ [.int .i64 op, .int .i64 a, .int .i64 b, .int .i64 line, .string text] (Zgi w [.int .i64 op, .int .i64 a, .int .i64 b, .int .i64 line, .string text] Zhs) (by intro u hu; simp at hu; rcases hu with rfl | rfl | rfl | rfl | rfl <;> rfl) HEL.o HNO.o (by omega) (by decide) ?_; intro v2 Y hrow hkp hb0; obtain ⟨A2, c2, hv2, -⟩ := id hrow; rw [show (L0 ++ [(⟨op, a, b, line, text⟩ : Ze)]).length = L0.length + 1 by simp] at hv2; subst hv2; have hpush := HK.o.push (by omega) HX.o (H := fun _ => False) (fun _ h => h.elim) hrow hkp; have HP := zh hpush; have hYB : Y.heap[CB]? = some (.cells #[.slice Ai L0.length ci, .bool false] Zoi (0, 0)) := (hkp.same CB HK.o.nG (Nat.lt_of_lt_of_le (Zc HK.o.blk) HX.o.size)).trans ((HX.o.block CB (Zc HK.o.blk)).trans HK.o.blk); have y0 := cz2 hYB; have fy0 := fz hYB; have HTN := zh (Tn.set (P := fun b => b = CB ∨ G b) (Tn.trans (R := fun b => b = CB ∨ G b) (Tn.later (P := fun _ => False) HX.o) (Tn.mk (P := G) hkp hb0) (fun _ h => h.elim) (fun b _ hb => .inr hb)) (c := CB) (.inl rfl) 0 (.slice A2 (L0.length + 1) c2)); have HXS := zh HX.o.size)
   go_ret;exact ⟨(L0.length : Int), _, Zae (by simp), by omega, by omega, fun _ => rfl, ⟨_, _, _, HP.o⟩, fun b hb => by
    rcases hb.1 with h | h | h
    ·exact .inl h
    ·exact h.elim
    ·exact .inr (Nat.le_trans HXS.o (Nat.le_of_eq h.symm)), HTN.o⟩
theorem ImK.not_over {w : World} {CB : Nat} {G : Nat → Prop} {L L0 : List Ze} {iv : Value} {ov : Bool} (h : ImK w CB G L L0 iv ov) (hl : L.length ≤ 60000) : ov = false ∧ L0 = L := by
 cases ov with
 | false => exact ⟨rfl, h.off rfl⟩
 | true => have := (h.on rfl).2; omega
theorem Zlz (CB : Nat) (G : Nat → Prop) (L : List Ze) (w : World) (h : ∃ L0 iv ov, ImK w CB G L L0 iv ov) :
  Calls Tryz.prog 34 #[.pointer (some ⟨CB, 0, none⟩)] w fun e w' => (∃ z : Int, e = .returned (.int .i64 z) ∧ 0 ≤ z ∧ z ≤ 60000 ∧ (L.length ≤ 60000 → z = L.length)) ∧ w' = w := by
 obtain ⟨L0, iv, ov, hk⟩ := h;have HK := zh hk;obtain ⟨Ai, ci, rfl, -⟩ := id hk.row;have hle := hk.le;have b0 := cz2 hk.blk;have fb0 := fz hk.blk;clear hk;go_enter Tryz.func34, Tryz.ntmps34;go_wp2_with fail;go_ret;exact ⟨⟨_, rfl, by omega, by omega, fun hl => by rw [(HK.o.not_over hl).2]⟩, rfl⟩
theorem Zbp (CB : Nat) (G : Nat → Prop) (L : List Ze) (i : Nat) (z : Int) (w : World) (h : ∃ L0 iv ov, ImK w CB G L L0 iv ov) (hz : L.length ≤ 60000 → z = i ∧ i < L.length) :
  Calls Tryz.prog 35 #[.pointer (some ⟨CB, 0, none⟩), .int .i64 z] w fun e w' => e = .returned (.tuple #[]) ∧ (∃ L0 iv ov, ImK w' CB G (Zei i (L.length : Int) L) L0 iv ov) ∧ Tn (fun b => b = CB ∨ G b) w w' := by
 obtain ⟨L0, iv, ov, hk⟩ := h;have HK := zh hk;obtain ⟨Ai, ci, rfl, -⟩ := id hk.row;have hle := hk.le;have b0 := cz2 hk.blk;have fb0 := fz hk.blk;clear hk
 cases ov with
 | true =>
  go_enter Tryz.func35, Tryz.ntmps35;go_wp2_with fail
  go_end0
  exact ⟨rfl, ⟨_, _, _, HK.o.same (by rw [Zp]; exact Nat.le_refl _)⟩, Tn.refl _ _⟩
 | false =>
  obtain rfl := HK.o.off rfl;obtain ⟨rfl, hi⟩ := hz (by omega);have hi2 : (i : Int) < (L0.length : Int) := by omega
  obtain ⟨b, c, e, -⟩ := HK.o.patch hi (a := (L0.length : Int)) ⟨by omega, by omega⟩;cases e;go_enter Tryz.func35, Tryz.ntmps35;go_upto_region 1 with (fail);refine Z3 [9] [] (by kernel_rfl) (fun W hW => ?_);have hlW : Za w W := by rw [hW]; exact (Za.refl _).drew
  clear hW b0 fb0;have HKW := zh (HK.o.later hlW);have HLW := zh hlW;clear hlW;refine tU 0 9 (v := ?_) rfl rfl (fun x hx => ?_) ?_;rotate_left
  ·go_simp;first|done|with_reducible rfl
  simp only [Act.put, nA, nB, nC];refine tU 1 10 (v := ?_) rfl rfl (fun x hx => ?_) ?_;rotate_left
  ·go_simp;first|done|with_reducible rfl
  simp only [Act.put, nA, nB, nC];refine tU 2 11 (v := ?_) rfl rfl (fun x hx => ?_) ?_;rotate_left
  ·go_simp;first|done|with_reducible rfl
  simp only [Act.put, nA, nB, nC];refine tU 3 12 (v := ?_) rfl rfl (fun x hx => ?_) ?_;rotate_left
  ·have hxb := (hx.block _ (Zc HKW.o.blk)).trans HKW.o.blk; have b0 := cz2 hxb; have fb0 := fz hxb; go_simp; first|done|with_reducible rfl
  simp only [Act.put, nA, nB, nC];refine tU 4 13 (v := ?_) rfl rfl (fun x hx => ?_) ?_;rotate_left
  ·go_simp;first|done|with_reducible rfl
  simp only [Act.put, nA, nB, nC];refine tU 5 14 (v := ?_) rfl rfl (fun x hx => ?_) ?_;rotate_left
  ·go_simp;first|done|with_reducible rfl
  simp only [Act.put, nA, nB, nC];refine Zca 6 (by kernel_rfl) rfl rfl ?_;go_wp2_with fail;refine (Zlz CB G L0 W ⟨_, _, _, HKW.o⟩).mono ?_;rintro e w2 ⟨⟨zz, rfl, z0, z1, hzz⟩, rfl⟩;obtain rfl : zz = (L0.length : Int) := hzz (by omega);go_wp2_with fail;refine ⟨Za.refl _, ?_⟩;refine tU 7 16 (v := ?_) rfl rfl (fun x hx => ?_) ?_;rotate_left
  ·go_simp;first|done|with_reducible rfl|rw[if_neg (by omega)]|rw[if_pos (by omega)]
  simp only [Act.put, nA, nB, nC];refine tU 8 17 (v := ?_) rfl rfl (fun x hx => ?_) ?_;rotate_left
  ·go_simp;first|done|with_reducible rfl
  simp only [Act.put, nA, nB, nC];refine Zag [_] (by kernel_rfl) rfl rfl ?_;simp only [List.getElem_toArray, List.getElem_cons_succ, List.getElem_cons_zero];obtain ⟨b', c', e, h1, h2, hG, hb, ⟨u, hu⟩, hfr, him⟩ := HKW.o.patch hi (a := (L0.length : Int)) ⟨by omega, by omega⟩;cases e;have hfu := hfr (i * 5 + 1);have HIM := zh him;have HGB := zh hG;clear him;go_wp2_with fail
  go_end0
  exact ⟨rfl, ⟨_, _, _, HIM.o⟩, Tn.set (Tn.later HLW.o) (.inr HGB.o) _ _⟩
theorem Zgj (CB : Nat) (G : Nat → Prop) (L : List Ze) (n : Nat) (line : Int) (w : World) (h : ∃ L0 iv ov, ImK w CB G L L0 iv ov) (hn : n ≤ 1000000) (aM : Zi line) :
  Calls Tryz.prog 168 #[.pointer (some ⟨CB, 0, none⟩), .int .i64 n, .int .i64 line] w fun e w' => e = .returned (.tuple #[]) ∧ ∃ G', (∃ L0 iv ov, ImK w' CB G' (L ++ unm n line) L0 iv ov) ∧ (∀ b, G' b → G b ∨ w.heap.size ≤ b) ∧ Tn (fun b => b = CB ∨ G b) w w' := by
 have HH := zh h;clear h;go_enter Tryz.func168, Tryz.ntmps168;go_wp2_with fail
 go_loopw [1] (fun nv wr => ∃ k : Nat, k ≤ n ∧ nv = .int .i64 ((n - k : Nat) : Int) ∧ ∃ G', (∃ L0 iv ov, ImK wr CB G' (L ++ unm k line) L0 iv ov) ∧ (∀ b, G' b → G b ∨ w.heap.size ≤ b) ∧ Tn (fun b => b = CB ∨ G b) w wr) (fun nv _ => (intOf nv).toNat)
 case atStart => exact ⟨0, Nat.zero_le _, rfl, G, by simpa [unm] using HH.o, fun _ h => .inl h, Tn.refl _ _⟩
 case round =>
  obtain ⟨k, hk, rfl, G', him, hG, ht⟩ := hrel;have HI := zh him;have HG := zh hG;have HT := zh ht;clear him hG ht
  by_cases hlt : k < n
  ·have t1 : decide ((0 : Int) < ((n - k : Nat) : Int)) = true := nT (by omega);go_wp2_with fail;refine (Z2 CB G' (L ++ unm k line) 14 0 0 line ⟨#[]⟩ _ HI.o (by unfold Zi; omega) (by unfold Zi; omega) (by unfold Zi; omega) aM (Nat.zero_le _)).mono ?_;rintro e w2 ⟨z, G2, rfl, _, _, _, him2, hG2, ht2⟩;have hs := HT.o.size;have HI2 := zh (show ∃ L0 iv ov, ImK w2 CB G2 (L ++ unm (k + 1) line) L0 iv ov by rw [Zm7, ← List.append_assoc]; exact him2);have HG2 := zh (show ∀ b, G2 b → G b ∨ w.heap.size ≤ b from fun b hb => by
    rcases hG2 b hb with h | h
    ·exact HG.o b h
    ·exact .inr (by omega))
   have HT2 := zh (Tn.trans (R := fun b => b = CB ∨ G b) HT.o ht2 (fun _ h => h) (fun b hl hb => by
    rcases hb with hb | hb
    ·exact .inl hb
    ·rcases HG.o b hb with h | h
     ·exact .inr h
     ·omega))
   clear him2 hG2 ht2;go_wp2_with fail
   go_roundw
   case rel => exact ⟨k + 1, by omega, by congr 1; omega, G2, HI2.o, HG2.o, HT2.o⟩
   case measure => simp [intOf]; omega
  ·obtain rfl : k = n := by omega
   have t1 : decide ((0 : Int) < ((k - k : Nat) : Int)) = false := nU (by omega);go_wp2_with fail
   go_end0
   exact ⟨rfl, G', HI.o, HG.o, HT.o⟩
section
section
variable {w0 w x : World} {CB LB : Nat} {G0 G G' E0 E E' : Nat → Prop} {L L' : List Ze} {lp : Option Zr} {lv : Value} {ex ex' : List Nat}
theorem KS.trans (h : KS w0 w CB G0 G L lp lv LB E0 E ex) (k : KS w x CB G G' L' lp lv LB E E' ex') : KS w0 x CB G0 G' L' lp lv LB E0 E' ex' := by
 have hs := h.tn.size;refine ⟨k.im, fun y hy => ?_, Tn.trans h.tn k.tn (fun _ h => h) (fun b hl hb => ?_), fun b hb => ?_⟩
 ·obtain ⟨a, b, c, d, e, f, g⟩ := k.lk y hy;refine ⟨a, b, c, d, e, f, fun z hz => ?_⟩
  rcases g z hz with h1 | h1
  ·exact (h.lk y hy).2.2.2.2.2.2 z h1
  ·exact .inr (by omega)
 ·rcases hb with hb | hb | ⟨hp, hq⟩
  ·exact .inl hb
  ·rcases h.gG b hb with h1 | h1
   ·exact .inr (.inl h1)
   ·omega
  ·refine .inr (.inr ⟨hp, ?_⟩)
   rcases hq with hq | hq
   ·exact .inl hq
   ·obtain ⟨y, hy⟩ := Option.isSome_iff_exists.1 hp
    rcases (h.lk y hy).2.2.2.2.2.2 b hq with h1 | h1
    ·exact .inr h1
    ·omega
 ·rcases k.gG b hb with h1 | h1
  ·exact h.gG b h1
  ·exact .inr (by omega)
theorem KS.here (h : KS w0 w CB G0 G L lp lv LB E0 E ex) : KS w w CB G G L lp lv LB E E ex :=
 ⟨h.im, fun y hy => by obtain ⟨a, b, c, d, e, f, g⟩ := h.lk y hy; exact ⟨a, b, c, d, e, f, fun _ h => .inl h⟩, Tn.refl _ _, fun _ h => .inl h⟩
theorem KS.none_ (h : KS w0 w CB G0 G L lp lv LB E0 E ex) (lv' : Value) : KS w w CB G G L none lv' 0 (fun _ => False) (fun _ => False) [] :=
 ⟨h.im, fun _ hy => by simp at hy, Tn.refl _ _, fun _ h => .inl h⟩
end
structure CAt (n : Nat) (F : Nat → Prop) (w : World) (c : Zd) (cb co : Nat) (A : Option Addr) (k : Nat) : Prop where
 own : F cb
 lt : cb < w.heap.size
 c0 : w.cell? ⟨cb, co, none⟩ = some (.int .i64 c.kind)
 c1 : w.cell? ⟨cb, co + 1, none⟩ = some (.int .i64 c.op)
 c2 : w.cell? ⟨cb, co + 2, none⟩ = some (.int .i64 c.aB)
 c3 : w.cell? ⟨cb, co + 3, none⟩ = some (.int .i64 c.line)
 c4 : w.cell? ⟨cb, co + 4, none⟩ = some (.string c.text)
 c5 : w.cell? ⟨cb, co + 5, none⟩ = some (.slice A c.kids.length k)
 n0 : Zi c.kind
 n1 : Zi c.op
 n2 : Zi c.aB
 n3 : Zi c.line
 tx : c.text.size ≤ maxLen
 kids : Z5 (Zds n) 6 F w c.kids (.slice A c.kids.length k)
theorem CAt.keep {n : Nat} {F G : Nat → Prop} {w x : World} {c : Zd} {cb co : Nat} {A : Option Addr} {k : Nat} (h : CAt n F w c cb co A k) (hFG : ∀ b, F b → G b) (hk : Zb F w x) : CAt n G x c cb co A k := by
 have e : ∀ o, x.cell? ⟨cb, o, none⟩ = w.cell? ⟨cb, o, none⟩ := fun o => by unfold World.cell?; rw [hk.same cb h.own h.lt]
 exact ⟨hFG _ h.own, Nat.lt_of_lt_of_le h.lt hk.size, (e _).trans h.c0, (e _).trans h.c1, (e _).trans h.c2, (e _).trans h.c3, (e _).trans h.c4, (e _).trans h.c5, h.n0, h.n1, h.n2, h.n3, h.tx, h.kids.keep (Zad n) hFG hk⟩
theorem CAt.kid {n : Nat} {F : Nat → Prop} {w : World} {l : List Zd} {A : Option Addr} {k : Nat} (h : Z5 (Zds (n + 1)) 6 F w l (.slice A l.length k)) {i : Nat} (hi : i < l.length) : ∃ kb ko B q, A = some ⟨kb, ko, none⟩ ∧ CAt n F w l[i] kb (ko + i * 6) B q := by
 obtain ⟨A', c', e, _, _, hel⟩ := h;cases e;obtain ⟨b, o, cs, rfl, hF, hb, hE, hc⟩ := hel i hi;obtain ⟨vk, rfl, h0, h1, h2, h3, h4, h5⟩ := hE;obtain ⟨B, q, rfl, _⟩ := id h5;exact ⟨b, o, B, q, rfl, hF, hb, hc 0 _ rfl, hc 1 _ rfl, hc 2 _ rfl, hc 3 _ rfl, hc 4 _ rfl, hc 5 _ rfl, h0, h1, h2, h3, h4, h5⟩
theorem CAt.lev {n : Nat} {F : Nat → Prop} {w : World} {c : Zd} {cb co : Nat} {A : Option Addr} {k : Nat} (h : CAt n F w c cb co A k) {i : Nat} (hi : i < c.kids.length) : ∃ m, n = m + 1 := by
 obtain ⟨A', c', e, _, _, hel⟩ := h.kids;obtain ⟨b, o, cs, _, _, _, hE, _⟩ := hel i hi
 cases n with
 | zero => exact hE.elim
 | succ m => exact ⟨m, rfl⟩
theorem Z1 : ∀ (n : Nat) (c : Zd) (m : Nat) (lp : Option Zr) (b : Nat), okC n c lp.isSome → (cg n c m lp b).2.length ≤ Z0 c
 | 0, c, m, lp, b, h => h.elim
 | n + 1, c, m, lp, b, h => by
  have hn := h.2.1;have IH := fun (i : Nat) (hi : i < Zas c.kind) (m' : Nat) (lp' : Option Zr) (b' : Nat) (h2 : lp'.isSome = Zm c.kind i lp.isSome) => Z1 n (c.kid i) m' lp' b' (by rw [h2]; exact h.kid hi);have hc := Zq c;rw [hc];show (Zk (cg n) c m lp b).2.length ≤ _;have kids : ∀ (l : List Zd) (b : Nat), (∀ x ∈ l, ∀ b, (cg n x m lp b).2.length ≤ Z0 x) → (Z4 (cg n) l m lp b).2.length ≤ Zx l := by
   intro l
   induction l with
   | nil => intro b _; simp [Z4]
   | cons x l ih =>
    intro b hx;have h1 := hx x (by simp) b;have h2 := ih (b + (cg n x m lp b).1.length) (fun y hy => hx y (by simp [hy]));simp only [Z4, List.length_append, Zx]
    omega
  have block : ∀ (l : List Zd) (b : Nat), (∀ x ∈ l, ∀ m b, (cg n x m lp b).2.length ≤ Z0 x) → (Zbt (cg n) l m lp b).2.length ≤ Zx l := by
   intro l
   induction l with
   | nil => intro b _; simp [Zbt]
   | cons x l ih =>
    intro b hx
    cases l with
    | nil => simp only [Zbt, Zx, Nat.add_zero]; exact hx x (by simp) m b
    | cons y l =>
     have h1 := hx x (by simp) (m + 1) (b + 1);have h2 := ih (b + Zaq (cg n) x m lp b) (fun z hz => hx z (by simp only [List.mem_cons] at hz ⊢; exact .inr hz));rw [Zbt]
     ·rw [Zx, List.length_append]; omega
     ·simp
  have hin : ∀ i (hi : i < c.kids.length), Zm c.kind i lp.isSome = lp.isSome → ∀ m b, (cg n c.kids[i] m lp b).2.length ≤ Z0 c.kids[i] := fun i hi he m b => Z1 n _ m lp b (by have := h.2.2.2 i hi; rwa [he] at this)
  by_cases ho : c.kind = 28
  ·rw [Zfj ho]; exact Nat.zero_le _
  by_cases ho : c.kind = 11 ∨ c.kind = 12
  ·rw [Zbc ho];refine Nat.le_trans (kids c.kids b (fun y hy b' => ?_)) (by omega);obtain ⟨i, hi, rfl⟩ := List.getElem_of_mem hy;exact hin i hi (by unfold Zm; rw [if_neg (by omega), if_neg (by omega)]) m b'
  by_cases ho : c.kind = 13
  ·rw [Zfk ho];have e0 := IH 0 (by simp [Zas, ho]) m lp (b + 1) (by simp [Zm, ho]);have e1 := IH 1 (by simp [Zas, ho]) m lp (b + 1 + (cg n (c.kid 0) m lp (b + 1)).1.length + 1) (by simp [Zm, ho]);have e2 := Ze3 (c := c) (by simpa [Zas, ho] using hn);simp only [List.length_append]; omega
  by_cases ho : c.kind = 14
  ·rw [Zfl ho];have e0 := IH 0 (by simp [Zas, ho]) (m + 1) lp (b + 2) (by simp [Zm, ho]);have e2 := Zfw (c := c) (by simpa [Zas, ho] using hn);simp only []; omega
  by_cases ho : c.kind = 15
  ·rw [Zfm ho];have e1 := IH 1 (by simp [Zas, ho]) m lp b (by simp [Zm, ho]);have e0 := IH 0 (by simp [Zas, ho]) (m + 1) lp (b + (cg n (c.kid 1) m lp b).1.length + 1) (by simp [Zm, ho]);have e2 := Ze3 (c := c) (by simpa [Zas, ho] using hn);simp only [List.length_append]; omega
  by_cases ho : c.kind = 16
  ·rw [Zfn ho];refine Nat.le_trans (block c.kids b (fun y hy m' b' => ?_)) (by omega);obtain ⟨i, hi, rfl⟩ := List.getElem_of_mem hy;exact hin i hi (by unfold Zm; rw [if_neg (by omega), if_neg (by omega)]) m' b'
  by_cases ho : c.kind = 17
  ·rw [Zfo ho];have e0 := IH 0 (by simp [Zas, ho]) (m + 1) lp (b + 1) (by simp [Zm, ho]);have e1 := IH 1 (by simp [Zas, ho]) m lp (b + (cg n (c.kid 0) (m + 1) lp (b + 1)).1.length + 2) (by simp [Zm, ho]);have e2 := IH 2 (by simp [Zas, ho]) m lp (b + (cg n (c.kid 0) (m + 1) lp (b + 1)).1.length + 2 + (cg n (c.kid 1) m lp (b + (cg n (c.kid 0) (m + 1) lp (b + 1)).1.length + 2)).1.length + 1) (by simp [Zm, ho]);have e3 := Ztj (c := c) (by simpa [Zas, ho] using hn);simp only [List.length_append]; omega
  by_cases ho : c.kind = 18
  ·rw [Zem ho]; exact Nat.zero_le _
  by_cases ho : c.kind = 19
  ·rw [Zfp ho]; exact Nat.zero_le _
  by_cases ho : c.kind = 20
  ·rw [Zen ho]
   split
   ·exact Nat.zero_le _
   ·simp
  by_cases ho : c.kind = 21
  ·rw [Zdv ho]
   split
   ·exact Nat.zero_le _
   ·split <;> exact Nat.zero_le _
  by_cases ho : c.kind = 22
  ·rw [Zfq ho];have e0 := IH 0 (by simp [Zas, ho]) m lp b (by simp [Zm, ho]);have e1 := IH 1 (by simp [Zas, ho]) m lp (b + (cg n (c.kid 0) m lp b).1.length + 1) (by simp [Zm, ho]);have e2 := Ze3 (c := c) (by simpa [Zas, ho] using hn);simp only [List.length_append]; omega
  by_cases ho : c.kind = 23
  ·rw [Zfr ho];have e0 := IH 0 (by simp [Zas, ho]) (m + 1) lp (b + 1) (by simp [Zm, ho]);have e2 := Zfw (c := c) (by simpa [Zas, ho] using hn);simp only []; omega
  by_cases ho : c.kind = 24
  ·rw [Zfs ho]; exact Nat.zero_le _
  by_cases ho : c.kind = 25
  ·rw [Zft ho];have e0 := IH 0 (by simp [Zas, ho]) m lp b (by simp [Zm, ho]);have e1 := IH 1 (by simp [Zas, ho]) (m + 1) lp (b + (cg n (c.kid 0) m lp b).1.length + 1 + 1) (by simp [Zm, ho]);have e2 := Ze3 (c := c) (by simpa [Zas, ho] using hn);simp only [List.length_append]; omega
  by_cases ho : c.kind = 26
  ·rw [Zfu ho]; exact Nat.zero_le _
  by_cases ho : c.kind = 27
  ·rw [Zfv ho];have e0 := IH 0 (by simp [Zas, ho]) m lp b (by simp [Zm, ho]);have e2 := Zfw (c := c) (by simpa [Zas, ho] using hn);simp only []; omega
  rw [Zcn (by have := h.1; omega)];exact Nat.zero_le _
end
theorem Zgx (b : Nat) (a : Int) (i : Nat) : ∀ (is : List Nat) (L : List Ze), Zbz b a (is ++ [i]) L = Zei (i - b) a (Zbz b a is L)
 | [], L => rfl
 | j :: is, L => by simp only [List.cons_append, Zbz]; exact Zgx b a i is _
theorem Zht (CB : Nat) (G : Nat → Prop) (L : List Ze) (LB : Nat) (E : Nat → Prop) (x : Zr) (ex : List Nat) (bv : Int) (exs : List Int) (ev : Value) (w : World) (h : ∃ L0 iv ov, ImK w CB G L L0 iv ov) (hl : LpK w LB E x ex (decide (L.length ≤ 60000)) bv exs ev)
  (hd : LB ≠ CB ∧ ¬ G LB ∧ ¬ E CB ∧ ∀ b, E b → ¬ G b) (hex : ex.length ≤ 100000) (hin : ∀ i ∈ ex, i < L.length) :
  Calls Tryz.prog 139 #[.pointer (some ⟨CB, 0, none⟩), .pointer (some ⟨LB, 0, none⟩)] w fun e w' => e = .returned (.tuple #[]) ∧ (∃ L0 iv ov, ImK w' CB G (Zbz 0 (L.length : Int) ex L) L0 iv ov) ∧ Tn (fun b => b = CB ∨ G b) w w' := by
 have HH := zh h;have HL := zh hl;have HD := zh hd;have HIN := zh hin;obtain ⟨Ae, ce, rfl, hec, -⟩ := id hl.row;have hlen := hl.len;have b0 := cz4 hl.blk;have fb0 := fz hl.blk;clear h hl hd hin;go_enter Tryz.func139, Tryz.ntmps139;go_wp2_with fail
 go_loopw [5, 11] (fun _ iv wr => ∃ j : Nat, j ≤ exs.length ∧ iv = .int .i64 j ∧ ∃ M : List Ze, M.length = L.length ∧ (L.length ≤ 60000 → M = Zbz 0 (L.length : Int) (ex.take j) L) ∧ (∃ L0 iv ov, ImK wr CB G M L0 iv ov) ∧ Tn (fun b => b = CB ∨ G b) w wr) (fun _ iv _ => exs.length - (intOf iv).toNat)
 case atStart => exact ⟨0, Nat.zero_le _, rfl, L, rfl, fun _ => by simp [Zbz], HH.o, Tn.refl _ _⟩
 case round =>
  obtain ⟨j, hj, rfl, M, hM, hMe, him, ht⟩ := hrel;have HI := zh him;have HT := zh ht;have HM := zh hMe;have HML := zh hM;have HLW := zh (HL.o.keep (ht.keeps fun b hb hp => by
   rcases hb with rfl | hb
   ·rcases hp with hp | hp
    ·exact HD.o.1 hp
    ·exact HD.o.2.1 hp
   ·rcases hp with rfl | hp
    ·exact HD.o.2.2.1 hb
    ·exact HD.o.2.2.2 b hb hp))
  clear him ht hMe hM
  by_cases hlt : j < exs.length
  ·obtain ⟨A2, c2, e2, _, _, hel⟩ := HLW.o.row.el Zap;cases e2;obtain ⟨b, o, cs, rfl, hF, hb, ⟨rfl, h64⟩, hc⟩ := hel j hlt;have e0 := hc 0 _ rfl;simp only [Nat.mul_one, Nat.add_zero] at e0;have hlt' : (j : Int) < exs.length := by omega
   obtain ⟨zj, hzj⟩ : ∃ z, z = exs[j] := ⟨_, rfl⟩;rw [← hzj] at e0 h64;have HZ := zh (show M.length ≤ 60000 → zj = ((ex.getD j 0 : Nat) : Int) ∧ ex.getD j 0 < M.length from fun hm => by
    have hq := HLW.o.exq (nT (by have := HML.o; omega));have hjl : j < ex.length := by have := HL.o.len; omega
    have hg : ex.getD j 0 = ex[j] := by simp [List.getD, hjl]
    rw [hg];refine ⟨?_, by have := HIN.o ex[j] (List.getElem_mem hjl); have := HML.o; omega⟩;rw [hzj];simp only [hq, List.getElem_map]
    rfl)
   clear hzj hc hel;go_wp2_with fail;refine (Zbp CB G M (ex.getD j 0) zj _ HI.o HZ.o).mono ?_;rintro e w2 ⟨rfl, him2, ht2⟩;have HI2 := zh him2;have HT2 := zh (HT.o.tr ht2);have HM2 := zh (show L.length ≤ 60000 → Zei (ex.getD j 0) (M.length : Int) M = Zbz 0 (L.length : Int) (ex.take (j + 1)) L from fun hm => by
    have hjl : j < ex.length := by have := HL.o.len; omega
    rw [List.take_succ_eq_append_getElem hjl, Zgx, ← HM.o hm, HML.o, Nat.sub_zero];simp [List.getD, hjl])
   clear him2 ht2;go_wp2_with fail
   go_roundw
   case rel => exact ⟨j + 1, by omega, by go_num, _, by rw [Zp]; exact HML.o, HM2.o, HI2.o, HT2.o⟩
   case measure => simp [intOf]; omega
  ·obtain rfl : j = exs.length := by omega
   go_wp2_with fail
   go_end0
   refine ⟨rfl, ?_, HT.o⟩
   by_cases ho : L.length ≤ 60000
   ·have hq := HL.o.exq (nT ho);have h1 := HM.o ho;rw [show ex.take exs.length = ex by rw [hq, List.length_map]; exact List.take_length] at h1;rw [← h1];exact HI.o
   ·obtain ⟨L0, iv, ov, hi⟩ := HI.o;have hov := hi.ov_eq;rw [nT (by have := HML.o; omega)] at hov;subst hov;exact ⟨L0, iv, true, hi.same (by rw [Zbo, HML.o]; exact Nat.le_refl _)⟩
section
mutual
def dpC : Zd → Nat
 | ⟨_, _, _, _, _, kids⟩ => Ze5 kids + 1
def Ze5 : List Zd → Nat
 | [] => 0
 | c :: l => max (dpC c) (Ze5 l)
end
theorem Zkc (c : Zd) : dpC c = Ze5 c.kids + 1 := by cases c; simp [dpC]
theorem Zj3 : ∀ (l : List Zd) (m : Nat), Ze5 l ≤ m ↔ ∀ i (h : i < l.length), dpC l[i] ≤ m
 | [], m => by simp [Ze5]
 | c :: l, m => by
  rw [Ze5, Nat.max_le, Zj3 l m]
  constructor
  ·rintro ⟨h1, h2⟩ i hi
   cases i with
   | zero => exact h1
   | succ i => exact h2 i (by simpa using hi)
  ·intro h;exact ⟨h 0 (by simp), fun i hi => h (i + 1) (by simpa using hi)⟩
theorem Zdm {c : Zd} {i : Nat} (h : i < c.kids.length) : dpC c.kids[i] + 1 ≤ dpC c := by
 have := (Zj3 c.kids (Ze5 c.kids)).1 (Nat.le_refl _) i h;rw [Zkc c]
 omega
theorem Zkd {c : Zd} {i : Nat} (h : i < c.kids.length) : Z0 c.kids[i] + 1 ≤ Z0 c := by
 have : ∀ (l : List Zd) (i : Nat) (h : i < l.length), Z0 l[i] ≤ Zx l := by
  intro l
  induction l with
  | nil => intro i h; simp at h
  | cons a l ih =>
   intro i h
   cases i with
   | zero => simp [Zx]
   | succ i => have := ih i (by simpa using h); simp only [List.getElem_cons_succ, Zx]; omega
 have := this c.kids i h;rw [Zq c]
 omega
structure Zbm (n : Nat) (w : World) (CB : Nat) (G : Nat → Prop) (L : List Ze) (lp : Option Zr) (lv : Value) (LB : Nat) (E : Nat → Prop) (ex : List Nat) (F : Nat → Prop) (c : Zd) (cb co : Nat) (A : Option Addr) (k m : Nat) : Prop where
 ks : KS w w CB G G L lp lv LB E E ex
 ca : CAt n F w c cb co A k
 ok : okC (n + 1) c lp.isSome
 fr : ∀ b, F b → b ≠ CB ∧ ¬ G b ∧ (lp.isSome = true → b ≠ LB ∧ ¬ E b)
 flt : ∀ b, F b → b < w.heap.size
 mb : m + 2 * dpC c ≤ 1000000
 lm : ∀ x, lp = some x → x.marks + 1 ≤ m
 exb : ex.length + Z0 c ≤ 100000
def Zbk (n : Nat) (w : World) (CB : Nat) (G : Nat → Prop) (L : List Ze) (lp : Option Zr) (lv : Value) (LB : Nat) (E : Nat → Prop) (ex : List Nat) (c : Zd) (m : Nat) (e : Ending) (w' : World) : Prop :=
 e = .returned (.tuple #[]) ∧ ∃ G' E', KS w w' CB G G' (L ++ (cg (n + 1) c m lp L.length).1) lp lv LB E E' (ex ++ (cg (n + 1) c m lp L.length).2)
def Zb7 (n : Nat) : Prop := ∀ (w : World) (CB : Nat) (G : Nat → Prop) (L : List Ze) (lp : Option Zr) (lv : Value) (LB : Nat) (E : Nat → Prop) (ex : List Nat) (F : Nat → Prop) (c : Zd) (cb co : Nat) (A : Option Addr) (k m : Nat), Hd (Zbm n w CB G L lp lv LB E ex F c cb co A k m) →
 Calls Tryz.prog 82 #[.pointer (some ⟨CB, 0, none⟩), .pointer (some ⟨cb, co, none⟩), .int .i64 m, lv] w (Zbk n w CB G L lp lv LB E ex c m)
section
variable {n : Nat} {w w1 : World} {CB : Nat} {G G1 : Nat → Prop} {L L1 : List Ze} {lp lp1 : Option Zr} {lv lv1 : Value} {LB LB1 : Nat} {E E1 : Nat → Prop} {ex ex1 : List Nat} {F : Nat → Prop} {c : Zd} {cb co : Nat} {A : Option Addr} {k m m1 : Nat}
theorem Zbm.sub (h : Zbm (n + 1) w CB G L lp lv LB E ex F c cb co A k m) {i : Nat} (hi : i < c.kids.length) (hs : w.heap.size ≤ w1.heap.size) (hk : Zb F w w1) (ks : KS w1 w1 CB G1 G1 L1 lp1 lv1 LB1 E1 E1 ex1) (hG : ∀ b, G1 b → G b ∨ w.heap.size ≤ b) (hE : lp1.isSome = true → ∀ b, F b → b ≠ LB1 ∧ ¬ E1 b)
  (hin : Zm c.kind i lp.isSome = lp1.isSome) (hm : m1 ≤ m + 2) (hlm : ∀ x, lp1 = some x → x.marks + 1 ≤ m1) (hex : ex1.length + Z0 (c.kid i) ≤ 100000) : ∃ kb ko B q, A = some ⟨kb, ko, none⟩ ∧ Hd (Zbm n w1 CB G1 L1 lp1 lv1 LB1 E1 ex1 F (c.kid i) kb (ko + i * 6) B q m1) := by
 obtain ⟨kb, ko, B, q, hA, hc⟩ := CAt.kid h.ca.kids hi;have hok := h.ok.2.2.2 i hi;have hd := Zdm hi;have hmb := h.mb;refine ⟨kb, ko, B, q, hA, zh ⟨ks, ?_, ?_, fun b hb => ⟨(h.fr b hb).1, fun hg => ?_, fun hp => hE hp b hb⟩, fun b hb => Nat.lt_of_lt_of_le (h.flt b hb) hs, ?_, hlm, hex⟩⟩
 ·rw [Za4 hi]; exact hc.keep (fun _ h => h) hk
 ·rw [Za4 hi, ← hin]; exact hok
 ·rcases hG b hg with h1 | h1
  ·exact (h.fr b hb).2.1 h1
  ·have := h.flt b hb; omega
 ·rw [Za4 hi]; omega
theorem Zbm.over (h : Zbm n w CB G L lp lv LB E ex F c cb co A k m) (ho : 60000 < L.length) : Zbk n w CB G L lp lv LB E ex c m (.returned (.tuple #[])) w :=
 ⟨rfl, G, E, h.ks.over ho (by simp) (by simp)⟩
end
theorem KS.cast {w0 w : World} {CB LB : Nat} {G0 G E0 E : Nat → Prop} {L L' : List Ze} {lp : Option Zr} {lv : Value} {ex ex' : List Nat} (h : KS w0 w CB G0 G L lp lv LB E0 E ex) (hL : L = L') (he : ex = ex') : KS w0 w CB G0 G L' lp lv LB E0 E ex' := by
 subst hL he;exact h
theorem KS.relabel {w0 w : World} {CB LB : Nat} {G0 G E0 E : Nat → Prop} {L : List Ze} {lp : Option Zr} {lv : Value} {ex : List Nat} {op z y b l : Int} {t : ByteArray} (h : KS w0 w CB G0 G (L ++ [⟨op, z, b, l, t⟩]) lp lv LB E0 E ex) (hz : L.length < 60000 → z = y) : KS w0 w CB G0 G (L ++ [⟨op, y, b, l, t⟩]) lp lv LB E0 E ex := by
 by_cases hl : L.length < 60000
 ·rw [← hz hl]; exact h
 ·exact h.over (by simp; omega) (by simp) (Nat.le_refl _)
theorem Zbm.move {n : Nat} {w w1 : World} {CB : Nat} {G G1 : Nat → Prop} {L L1 : List Ze} {lp : Option Zr} {lv : Value} {LB : Nat} {E E1 : Nat → Prop} {ex ex1 : List Nat} {F : Nat → Prop} {c : Zd} {cb co : Nat} {A : Option Addr} {k m : Nat} (h : Zbm n w CB G L lp lv LB E ex F c cb co A k m) (hk : KS w w1 CB G G1 L1 lp lv LB E E1 ex1) (hex : ex1.length + Z0 c ≤ 100000) : Zbm n w1 CB G1 L1 lp lv LB E1 ex1 F c cb co A k m :=
 ⟨hk.here, h.ca.keep (fun _ h => h) (hk.keeps h.fr), h.ok, fun b hb => ⟨(h.fr b hb).1, fun hg => by
   rcases hk.gG b hg with h1 | h1
   ·exact (h.fr b hb).2.1 h1
   ·have := h.flt b hb; omega, fun hp => ⟨((h.fr b hb).2.2 hp).1, fun he => by
   obtain ⟨x, hx⟩ := Option.isSome_iff_exists.1 hp
   rcases (hk.lk x hx).2.2.2.2.2.2 b he with h1 | h1
   ·exact ((h.fr b hb).2.2 hp).2 h1
   ·have := h.flt b hb; omega⟩⟩, fun b hb => Nat.lt_of_lt_of_le (h.flt b hb) hk.tn.size, h.mb, h.lm, hex⟩
theorem Zc3 (rc : Cg) (c : Zd) (m : Nat) (lp : Option Zr) : ∀ (l : List Zd) (b : Nat), Z4 rc (l ++ [c]) m lp b = ((Z4 rc l m lp b).1 ++ (rc c m lp (b + (Z4 rc l m lp b).1.length)).1, (Z4 rc l m lp b).2 ++ (rc c m lp (b + (Z4 rc l m lp b).1.length)).2)
 | [], b => by simp [Z4]
 | d :: l, b => by
  simp only [List.cons_append, Z4];rw [Zc3 rc c m lp l];simp [Nat.add_assoc]
theorem Zgk {rc : Cg} {m : Nat} {lp : Option Zr} : ∀ (l : List Zd) (b : Nat), (∀ x ∈ l, ∀ b, (rc x m lp b).2.length ≤ Z0 x) → (Z4 rc l m lp b).2.length ≤ Zx l
 | [], b, _ => by simp [Z4]
 | x :: l, b, hx => by
  have h1 := hx x (by simp) b;have h2 := Zgk l (b + (rc x m lp b).1.length) (fun y hy => hx y (by simp [hy]));simp only [Z4, List.length_append, Zx]
  omega
theorem Zdx : ∀ (l : List Zd) (j : Nat) (h : j < l.length), Zx (l.take j) + Z0 l[j] ≤ Zx l
 | [], j, h => by simp at h
 | a :: l, 0, h => by simp [Zx]
 | a :: l, j + 1, h => by
  have := Zdx l j (by simpa using h);simp only [List.take_succ_cons, Zx, List.getElem_cons_succ]
  omega
theorem Zav {LL A B : List Ze} {op a0 l : Int} {i k : Nat} (h : LL = A ++ Zg op a0 l :: B) (hi : i = A.length) (hk : LL.length = k) : Zei i (LL.length : Int) LL = A ++ Zg op k l :: B := by
 subst h hi hk;exact Zo6 _ _ _ _ rfl
end
section
open Go
def Zlp (l : List UInt8) : List Int := l.map fun b => (b.toNat : Int)
theorem Zm8 (a b : List UInt8) : Zlp (a ++ b) = Zlp a ++ Zlp b := by simp [Zlp]
def Zm9 (ns : List Int) : ByteArray := ⟨(ns.map fun n => UInt8.ofNat n.toNat).toArray⟩
theorem Zoj (ns : List Int) (r : ByteArray) : ns.foldl (fun r n => r.push (UInt8.ofNat n.toNat)) r = ⟨r.data ++ (ns.map fun n => UInt8.ofNat n.toNat).toArray⟩ := by
 induction ns generalizing r with
 | nil => simp
 | cons a l ih =>
  simp only [List.foldl_cons, ih]
  congr 1
  simp [ByteArray.push]
theorem Zna (ns : List Int) : ns.foldl (fun r n => r.push (UInt8.ofNat n.toNat)) ByteArray.empty = Zm9 ns := by
 rw [Zoj];show (⟨#[] ++ _⟩ : ByteArray) = _;unfold Zm9; congr 1; simp
end
section
open Go
end
section
open Go
end
section
open Go
end
section
open Go
/-! ### Numbers -/
/-! ### Quoted texts -/
/-! ### Names -/
/-! ### Cutting -/
end
def bl (s : ByteArray) : List UInt8 := s.data.toList
theorem Zgy {a b : ByteArray} (h : bl a = bl b) : a = b := by
 cases a; cases b
 simp only [bl, ByteArray.mk.injEq] at h ⊢;exact Array.ext' h
theorem Zh4 {a b : ByteArray} (h : a.toList = b.toList) : a = b := by
 have e : ∀ x : ByteArray, x.toList = x.data.toList := fun x => ByteArray.toList_eq x;rw [e, e] at h;exact Zgy h
theorem Zke : ∀ (L : List (List UInt8)) (x : List UInt8) (j : Nat) (h : j < L.length), L[j] = x → L.idxOf x ≤ j
 | a :: L, x, j, h, e => by
  rw [List.idxOf_cons]
  cases hx : a == x with
  | true => simp
  | false =>
   cases j with
   | zero => simp at e; simp [e] at hx
   | succ j =>
    have := Zke L x j (by simpa using h) (by simpa using e);simp; omega
def Zdy (l : List ByteArray) (s : ByteArray) : Bool := decide (bl s ∈ l.map bl)
def Zfx (l : List ByteArray) (s : ByteArray) : Int := if bl s ∈ l.map bl then ((l.map bl).idxOf (bl s) : Int) else -1
theorem Zh5 {l : List ByteArray} {s : ByteArray} : Zdy l s = true ↔ s ∈ l := by
 unfold Zdy;rw [nJ, List.mem_map];exact ⟨fun ⟨a, h1, h2⟩ => Zgy h2 ▸ h1, fun h => ⟨s, h, rfl⟩⟩
theorem Ztm {l : List ByteArray} {s : ByteArray} {j : Nat} (h : j < l.length) (he : l[j] = s) : Zdy l s = true := Zh5.2 (he ▸ List.getElem_mem h)
theorem Zpa {l : List ByteArray} {s : ByteArray} (h : ∀ k (hk : k < l.length), l[k] ≠ s) : Zdy l s = false := by
 rw [← Bool.not_eq_true, Zh5];intro hm;obtain ⟨k, hk, e⟩ := List.getElem_of_mem hm;exact h k hk e
theorem Zkf {l : List ByteArray} {s : ByteArray} {j : Nat} (h : j < l.length) (he : l[j] = s) (hn : ∀ k (hk : k < l.length), k < j → l[k] ≠ s) : Zfx l s = j := by
 have hm : bl s ∈ l.map bl := List.mem_map.2 ⟨s, he ▸ List.getElem_mem h, rfl⟩;rw [Zfx, if_pos hm]
 congr 1
 have hi := List.idxOf_lt_length_iff.2 hm;have hg := List.getElem_idxOf hi;rw [List.getElem_map] at hg;have e2 := Zgy hg;rw [List.length_map] at hi
 rcases Nat.lt_trichotomy ((l.map bl).idxOf (bl s)) j with h1 | h1 | h1
 ·exact absurd e2 (hn _ hi h1)
 ·exact h1
 ·have := Zke (l.map bl) (bl s) j (by simpa using h) (by simp [he])
  omega
theorem Znb {l : List ByteArray} {s : ByteArray} (h : ∀ k (hk : k < l.length), l[k] ≠ s) : Zfx l s = -1 := by
 have := Zpa h;rw [Zfx, if_neg]
 simpa [Zdy] using this
theorem Zq1 (l : List ByteArray) (s : ByteArray) : decide (0 ≤ Zfx l s) = Zdy l s := by
 unfold Zfx Zdy
 split
 ·rename_i h; simp [h]
 ·rename_i h; simp [h]
theorem Zq2 {l : List ByteArray} {j : Nat} (h : j < l.length) : decide (Zfx l l[j] < j) = Zdy (l.take j) l[j] := by
 by_cases hm : l[j] ∈ l.take j
 ·rw [Zh5.2 hm];have h1 : bl l[j] ∈ l.map bl := List.mem_map.2 ⟨_, List.getElem_mem h, rfl⟩;rw [Zfx, if_pos h1, nJ];obtain ⟨k, hk, e⟩ := List.getElem_of_mem hm;rw [List.length_take] at hk;rw [List.getElem_take] at e
  rcases Nat.lt_or_ge ((l.map bl).idxOf (bl l[j])) j with h2 | h2
  ·omega
  ·have := Zke (l.map bl) (bl l[j]) k (by simp; omega) (by simp [e])
   omega
 ·have h0 : Zdy (l.take j) l[j] = false := by rw [← Bool.not_eq_true, Zh5]; exact hm
  rw [h0, Zkf h rfl (fun k hk h1 e => hm (by rw [← e, List.mem_take_iff_getElem]; exact ⟨k, by omega, rfl⟩))];simp
theorem Zok (l : List ByteArray) (v : Value) (s : ByteArray) (F : Nat → Prop) (w : World) (hr : Z5 Zbe 1 F w l v) :
  Calls Tryz.prog 92 #[v, .string s] w fun e w' => e = .returned (.int .i64 (Zfx l s)) ∧ w' = w := by
 obtain ⟨A, c, rfl, hc, hcm, hel⟩ := hr;unfold maxLen at hcm;have HEL := zh hel;clear hel;obtain ⟨R, hR⟩ : ∃ R, Zfx l s = R := ⟨_, rfl⟩;rw [hR];have HR := zh hR;clear hR;go_enter Tryz.func92, Tryz.ntmps92;go_wp2_with fail
 go_loopw [5] (fun i wr => ∃ j : Nat, i = .int .i64 j ∧ j ≤ l.length ∧ Hd (∀ k (h : k < l.length), k < j → l[k] ≠ s) ∧ wr = w) (fun i _ => l.length - (intOf i).toNat)
 case atStart => exact ⟨0, rfl, Nat.zero_le _, zh (fun k _ h => by omega), rfl⟩
 case round =>
  obtain ⟨j, rfl, hj, HD, hw⟩ := hrel;obtain rfl : w = wr := hw.symm
  by_cases hlt : j < l.length
  ·obtain ⟨b, o, cs, rfl, hF, hbl, hE, hcell⟩ := HEL.o j hlt;obtain ⟨rfl, hsm⟩ := hE;have t1 : decide ((j : Int) < l.length) = true := nT (by omega);have e0 := hcell 0 _ rfl;simp only [Nat.mul_one, Nat.add_zero] at e0
   by_cases he : l[j] = s
   ·have hR0 : R = (j : Int) := by rw [← HR.o, Zkf hlt he HD.o]
    rw [he] at e0;subst hR0;have v2 : (s.toList == s.toList) = true := by simp
    clear hcell hsm he;go_wp2_with fail;go_ret;exact ⟨rfl, rfl⟩
   ·obtain ⟨y, hy⟩ : ∃ y, l[j] = y := ⟨_, rfl⟩;rw [hy] at e0;have v1 : (y.toList == s.toList) = false := by rw [nH]; exact fun h => he (hy.trans (Zh4 h))
    have HD2 : Hd (∀ k (h : k < l.length), k < j + 1 → l[k] ≠ s) := zh (fun k hk h => by
     rcases Nat.lt_or_ge k j with h1 | h1
     ·exact HD.o k hk h1
     ·obtain rfl : k = j := by omega
      exact he)
    clear hcell hsm he hy;go_wp2_with fail
    go_roundw
    case rel => exact ⟨j + 1, by go_num, by omega, HD2, trivial⟩
    case measure => simp [intOf]; omega
  ·have t1 : decide ((j : Int) < l.length) = false := nU (by omega);have hR0 : R = -1 := by rw [← HR.o, Znb (fun k hk => HD.o k hk (by omega))]
   subst hR0;go_wp2_with fail;go_ret;exact ⟨rfl, rfl⟩
theorem Zps (l : List ByteArray) (v : Value) (s : ByteArray) (F : Nat → Prop) (w : World) (hr : Z5 Zbe 1 F w l v) :
  Calls Tryz.prog 177 #[v, .string s] w fun e w' => e = .returned (.int .i64 (Zfx l s)) ∧ w' = w := by
 obtain ⟨A, c, rfl, hc, hcm, hel⟩ := hr;unfold maxLen at hcm;have HEL := zh hel;clear hel;obtain ⟨R, hR⟩ : ∃ R, Zfx l s = R := ⟨_, rfl⟩;rw [hR];have HR := zh hR;clear hR;go_enter Tryz.func177, Tryz.ntmps177;go_wp2_with fail
 go_loopw [8] (fun i wr => ∃ j : Nat, i = .int .i64 j ∧ j ≤ l.length ∧ Hd (∀ k (h : k < l.length), k < j → l[k] ≠ s) ∧ wr = w) (fun i _ => l.length - (intOf i).toNat)
 case atStart => exact ⟨0, rfl, Nat.zero_le _, zh (fun k _ h => by omega), rfl⟩
 case round =>
  obtain ⟨j, rfl, hj, HD, hw⟩ := hrel;obtain rfl : w = wr := hw.symm
  by_cases hlt : j < l.length
  ·obtain ⟨b, o, cs, rfl, hF, hbl, hE, hcell⟩ := HEL.o j hlt;obtain ⟨rfl, hsm⟩ := hE;have t1 : decide ((j : Int) < l.length) = true := nT (by omega);have e0 := hcell 0 _ rfl;simp only [Nat.mul_one, Nat.add_zero] at e0
   by_cases he : l[j] = s
   ·have hR0 : R = (j : Int) := by rw [← HR.o, Zkf hlt he HD.o]
    rw [he] at e0;subst hR0;have v2 : (s.toList == s.toList) = true := by simp
    clear hcell hsm he;go_wp2_with fail;go_ret;exact ⟨rfl, rfl⟩
   ·obtain ⟨y, hy⟩ : ∃ y, l[j] = y := ⟨_, rfl⟩;rw [hy] at e0;have v1 : (s.toList == y.toList) = false := by rw [nH]; exact fun h => he (hy.trans (Zh4 h.symm))
    have HD2 : Hd (∀ k (h : k < l.length), k < j + 1 → l[k] ≠ s) := zh (fun k hk h => by
     rcases Nat.lt_or_ge k j with h1 | h1
     ·exact HD.o k hk h1
     ·obtain rfl : k = j := by omega
      exact he)
    clear hcell hsm he hy;go_wp2_with fail
    go_roundw
    case rel => exact ⟨j + 1, by go_num, by omega, HD2, trivial⟩
    case measure => simp [intOf]; omega
  ·have t1 : decide ((j : Int) < l.length) = false := nU (by omega);have hR0 : R = -1 := by rw [← HR.o, Znb (fun k hk => HD.o k hk (by omega))]
   subst hR0;go_wp2_with fail;go_ret;exact ⟨rfl, rfl⟩
theorem Zpt (l : List ByteArray) (v : Value) (s : ByteArray) (F : Nat → Prop) (w : World) (hr : Z5 Zbe 1 F w l v) :
  Calls Tryz.prog 158 #[v, .string s] w fun e w' => e = .returned (.bool (Zdy l s)) ∧ w' = w := by
 obtain ⟨A, c, rfl, hc, hcm, hel⟩ := hr;unfold maxLen at hcm;have HEL := zh hel;clear hel;obtain ⟨R, hR⟩ : ∃ R, Zdy l s = R := ⟨_, rfl⟩;rw [hR];have HR := zh hR;clear hR;go_enter Tryz.func158, Tryz.ntmps158;go_wp2_with fail
 go_loopw [5] (fun i wr => ∃ j : Nat, i = .int .i64 j ∧ j ≤ l.length ∧ Hd (∀ k (h : k < l.length), k < j → l[k] ≠ s) ∧ wr = w) (fun i _ => l.length - (intOf i).toNat)
 case atStart => exact ⟨0, rfl, Nat.zero_le _, zh (fun k _ h => by omega), rfl⟩
 case round =>
  obtain ⟨j, rfl, hj, HD, hw⟩ := hrel;obtain rfl : w = wr := hw.symm
  by_cases hlt : j < l.length
  ·obtain ⟨b, o, cs, rfl, hF, hbl, hE, hcell⟩ := HEL.o j hlt;obtain ⟨rfl, hsm⟩ := hE;have t1 : decide ((j : Int) < l.length) = true := nT (by omega);have e0 := hcell 0 _ rfl;simp only [Nat.mul_one, Nat.add_zero] at e0
   by_cases he : l[j] = s
   ·have hR0 : R = true := by rw [← HR.o, Ztm hlt he]
    rw [he] at e0;subst hR0;have v2 : (s.toList == s.toList) = true := by simp
    clear hcell hsm he;go_wp2_with fail;go_ret;exact ⟨rfl, rfl⟩
   ·obtain ⟨y, hy⟩ : ∃ y, l[j] = y := ⟨_, rfl⟩;rw [hy] at e0;have v1 : (y.toList == s.toList) = false := by rw [nH]; exact fun h => he (hy.trans (Zh4 h))
    have HD2 : Hd (∀ k (h : k < l.length), k < j + 1 → l[k] ≠ s) := zh (fun k hk h => by
     rcases Nat.lt_or_ge k j with h1 | h1
     ·exact HD.o k hk h1
     ·obtain rfl : k = j := by omega
      exact he)
    clear hcell hsm he hy;go_wp2_with fail
    go_roundw
    case rel => exact ⟨j + 1, by go_num, by omega, HD2, trivial⟩
    case measure => simp [intOf]; omega
  ·have t1 : decide ((j : Int) < l.length) = false := nU (by omega);have hR0 : R = false := by rw [← HR.o, Zpa (fun k hk => HD.o k hk (by omega))]
   subst hR0;go_wp2_with fail;go_ret;exact ⟨rfl, rfl⟩
theorem Zh6 (l : List ByteArray) (v : Value) (s : ByteArray) (F : Nat → Prop) (w : World) (hr : Z5 Zbe 1 F w l v) :
  Calls Tryz.prog 151 #[v, .string s] w fun e w' => e = .returned (.bool (Zdy l s)) ∧ w' = w := by
 have HI := zh (Zps l v s F w hr);have HG := zh (Zq1 l s);clear hr;go_enter Tryz.func151, Tryz.ntmps151;go_wp2_with fail;refine HI.o.mono ?_;rintro e w' ⟨rfl, hw⟩;obtain rfl := hw.symm;go_wp2_with fail;go_ret;exact ⟨by rw [← HG.o]; rfl, rfl⟩
def Zb0 (x : UInt8) : Bool := decide (48 ≤ x.toNat) && decide (x.toNat ≤ 57)
def Zbr (x : UInt8) : Bool := (decide (97 ≤ x.toNat) && decide (x.toNat ≤ 122)) || (decide (65 ≤ x.toNat) && decide (x.toNat ≤ 90)) || decide (x.toNat = 95)
theorem Zje (x : UInt8) (c : Int) (hc : (x.toNat : Int) = c) (w : World) : Calls Tryz.prog 132 #[.int .u8 c] w fun e w' => e = .returned (.bool (Zb0 x)) ∧ w' = w := by
 have hb : 0 ≤ c ∧ c < 256 := by have := x.toNat_lt; omega
 obtain ⟨hb0, hb1⟩ := hb;obtain ⟨R, hR⟩ : ∃ R, Zb0 x = R := ⟨_, rfl⟩;rw [hR];have HR := zh hR;have HC := zh hc;clear hR hc;have hcase : (c < 48) ∨ (48 ≤ c ∧ c ≤ 57) ∨ (57 < c) := by omega
 rcases hcase with h | h | h
 ·have hR0 : R = false := by rw [← HR.o]; have := HC.o; unfold Zb0; simp; omega
  subst hR0;have : decide ((48 : Int) ≤ c) = false := nU (by omega);have : decide (c ≤ (57 : Int)) = true := nT (by omega);clear HC HR;go_enter Tryz.func132, Tryz.ntmps132;go_wp2_with fail;go_ret;exact ⟨rfl, rfl⟩
 ·have hR0 : R = true := by rw [← HR.o]; have := HC.o; unfold Zb0; simp; omega
  subst hR0;have : decide ((48 : Int) ≤ c) = true := nT (by omega);have : decide (c ≤ (57 : Int)) = true := nT (by omega);clear HC HR;go_enter Tryz.func132, Tryz.ntmps132;go_wp2_with fail;go_ret;exact ⟨rfl, rfl⟩
 ·have hR0 : R = false := by rw [← HR.o]; have := HC.o; unfold Zb0; simp; omega
  subst hR0;have : decide ((48 : Int) ≤ c) = true := nT (by omega);have : decide (c ≤ (57 : Int)) = false := nU (by omega);clear HC HR;go_enter Tryz.func132, Tryz.ntmps132;go_wp2_with fail;go_ret;exact ⟨rfl, rfl⟩
theorem Znc (x : UInt8) (c : Int) (hc : (x.toNat : Int) = c) (w : World) : Calls Tryz.prog 122 #[.int .u8 c] w fun e w' => e = .returned (.bool (Zb0 x)) ∧ w' = w := by
 have hb : 0 ≤ c ∧ c < 256 := by have := x.toNat_lt; omega
 obtain ⟨hb0, hb1⟩ := hb;obtain ⟨R, hR⟩ : ∃ R, Zb0 x = R := ⟨_, rfl⟩;rw [hR];have HR := zh hR;have HC := zh hc;clear hR hc;have hcase : (c < 48) ∨ (48 ≤ c ∧ c ≤ 57) ∨ (57 < c) := by omega
 rcases hcase with h | h | h
 ·have hR0 : R = false := by rw [← HR.o]; have := HC.o; unfold Zb0; simp; omega
  subst hR0;have : decide ((48 : Int) ≤ c) = false := nU (by omega);have : decide (c ≤ (57 : Int)) = true := nT (by omega);clear HC HR;go_enter Tryz.func122, Tryz.ntmps122;go_wp2_with fail;go_ret;exact ⟨rfl, rfl⟩
 ·have hR0 : R = true := by rw [← HR.o]; have := HC.o; unfold Zb0; simp; omega
  subst hR0;have : decide ((48 : Int) ≤ c) = true := nT (by omega);have : decide (c ≤ (57 : Int)) = true := nT (by omega);clear HC HR;go_enter Tryz.func122, Tryz.ntmps122;go_wp2_with fail;go_ret;exact ⟨rfl, rfl⟩
 ·have hR0 : R = false := by rw [← HR.o]; have := HC.o; unfold Zb0; simp; omega
  subst hR0;have : decide ((48 : Int) ≤ c) = true := nT (by omega);have : decide (c ≤ (57 : Int)) = false := nU (by omega);clear HC HR;go_enter Tryz.func122, Tryz.ntmps122;go_wp2_with fail;go_ret;exact ⟨rfl, rfl⟩
theorem Zmj (x : UInt8) (c : Int) (hc : (x.toNat : Int) = c) (w : World) : Calls Tryz.prog 134 #[.int .u8 c] w fun e w' => e = .returned (.bool (Zbr x)) ∧ w' = w := by
 have hb : 0 ≤ c ∧ c < 256 := by have := x.toNat_lt; omega
 obtain ⟨hb0, hb1⟩ := hb;obtain ⟨R, hR⟩ : ∃ R, Zbr x = R := ⟨_, rfl⟩;rw [hR];have HR := zh hR;have HC := zh hc;clear hR hc;have hcase : (c < 65) ∨ (65 ≤ c ∧ c ≤ 90) ∨ (90 < c ∧ c < 95) ∨ (c = 95) ∨ (c = 96) ∨ (97 ≤ c ∧ c ≤ 122) ∨ (122 < c) := by omega
 rcases hcase with h | h | h | h | h | h | h
 ·have hR0 : R = false := by rw [← HR.o]; have := HC.o; unfold Zbr; simp; omega
  subst hR0;have : decide ((97 : Int) ≤ c) = false := nU (by omega);have : decide (c ≤ (122 : Int)) = true := nT (by omega);have : decide ((65 : Int) ≤ c) = false := nU (by omega);have : decide (c ≤ (90 : Int)) = true := nT (by omega);have : (c == (95 : Int)) = false := by rw [nH]; omega
  clear HC HR;go_enter Tryz.func134, Tryz.ntmps134;go_wp2_with fail;go_ret;exact ⟨rfl, rfl⟩
 ·have hR0 : R = true := by rw [← HR.o]; have := HC.o; unfold Zbr; simp; omega
  subst hR0;have : decide ((97 : Int) ≤ c) = false := nU (by omega);have : decide (c ≤ (122 : Int)) = true := nT (by omega);have : decide ((65 : Int) ≤ c) = true := nT (by omega);have : decide (c ≤ (90 : Int)) = true := nT (by omega);have : (c == (95 : Int)) = false := by rw [nH]; omega
  clear HC HR;go_enter Tryz.func134, Tryz.ntmps134;go_wp2_with fail;go_ret;exact ⟨rfl, rfl⟩
 ·have hR0 : R = false := by rw [← HR.o]; have := HC.o; unfold Zbr; simp; omega
  subst hR0;have : decide ((97 : Int) ≤ c) = false := nU (by omega);have : decide (c ≤ (122 : Int)) = true := nT (by omega);have : decide ((65 : Int) ≤ c) = true := nT (by omega);have : decide (c ≤ (90 : Int)) = false := nU (by omega);have : (c == (95 : Int)) = false := by rw [nH]; omega
  clear HC HR;go_enter Tryz.func134, Tryz.ntmps134;go_wp2_with fail;go_ret;exact ⟨rfl, rfl⟩
 ·have hR0 : R = true := by rw [← HR.o]; have := HC.o; unfold Zbr; simp; omega
  subst hR0;have : decide ((97 : Int) ≤ c) = false := nU (by omega);have : decide (c ≤ (122 : Int)) = true := nT (by omega);have : decide ((65 : Int) ≤ c) = true := nT (by omega);have : decide (c ≤ (90 : Int)) = false := nU (by omega);have : (c == (95 : Int)) = true := by rw [beq_iff_eq]; omega
  clear HC HR;go_enter Tryz.func134, Tryz.ntmps134;go_wp2_with fail;go_ret;exact ⟨rfl, rfl⟩
 ·have hR0 : R = false := by rw [← HR.o]; have := HC.o; unfold Zbr; simp; omega
  subst hR0;have : decide ((97 : Int) ≤ c) = false := nU (by omega);have : decide (c ≤ (122 : Int)) = true := nT (by omega);have : decide ((65 : Int) ≤ c) = true := nT (by omega);have : decide (c ≤ (90 : Int)) = false := nU (by omega);have : (c == (95 : Int)) = false := by rw [nH]; omega
  clear HC HR;go_enter Tryz.func134, Tryz.ntmps134;go_wp2_with fail;go_ret;exact ⟨rfl, rfl⟩
 ·have hR0 : R = true := by rw [← HR.o]; have := HC.o; unfold Zbr; simp; omega
  subst hR0;have : decide ((97 : Int) ≤ c) = true := nT (by omega);have : decide (c ≤ (122 : Int)) = true := nT (by omega);have : decide ((65 : Int) ≤ c) = true := nT (by omega);have : decide (c ≤ (90 : Int)) = false := nU (by omega);have : (c == (95 : Int)) = false := by rw [nH]; omega
  clear HC HR;go_enter Tryz.func134, Tryz.ntmps134;go_wp2_with fail;go_ret;exact ⟨rfl, rfl⟩
 ·have hR0 : R = false := by rw [← HR.o]; have := HC.o; unfold Zbr; simp; omega
  subst hR0;have : decide ((97 : Int) ≤ c) = true := nT (by omega);have : decide (c ≤ (122 : Int)) = false := nU (by omega);have : decide ((65 : Int) ≤ c) = true := nT (by omega);have : decide (c ≤ (90 : Int)) = false := nU (by omega);have : (c == (95 : Int)) = false := by rw [nH]; omega
  clear HC HR;go_enter Tryz.func134, Tryz.ntmps134;go_wp2_with fail;go_ret;exact ⟨rfl, rfl⟩
theorem Zh7 (x : UInt8) (c : Int) (hc : (x.toNat : Int) = c) (w : World) : Calls Tryz.prog 120 #[.int .u8 c] w fun e w' => e = .returned (.bool (Zbr x)) ∧ w' = w := by
 have hb : 0 ≤ c ∧ c < 256 := by have := x.toNat_lt; omega
 obtain ⟨hb0, hb1⟩ := hb;obtain ⟨R, hR⟩ : ∃ R, Zbr x = R := ⟨_, rfl⟩;rw [hR];have HR := zh hR;have HC := zh hc;clear hR hc;have hcase : (c < 65) ∨ (65 ≤ c ∧ c ≤ 90) ∨ (90 < c ∧ c < 95) ∨ (c = 95) ∨ (c = 96) ∨ (97 ≤ c ∧ c ≤ 122) ∨ (122 < c) := by omega
 rcases hcase with h | h | h | h | h | h | h
 ·have hR0 : R = false := by rw [← HR.o]; have := HC.o; unfold Zbr; simp; omega
  subst hR0;have : decide ((97 : Int) ≤ c) = false := nU (by omega);have : decide (c ≤ (122 : Int)) = true := nT (by omega);have : decide ((65 : Int) ≤ c) = false := nU (by omega);have : decide (c ≤ (90 : Int)) = true := nT (by omega);have : (c == (95 : Int)) = false := by rw [nH]; omega
  clear HC HR;go_enter Tryz.func120, Tryz.ntmps120;go_wp2_with fail;go_ret;exact ⟨rfl, rfl⟩
 ·have hR0 : R = true := by rw [← HR.o]; have := HC.o; unfold Zbr; simp; omega
  subst hR0;have : decide ((97 : Int) ≤ c) = false := nU (by omega);have : decide (c ≤ (122 : Int)) = true := nT (by omega);have : decide ((65 : Int) ≤ c) = true := nT (by omega);have : decide (c ≤ (90 : Int)) = true := nT (by omega);have : (c == (95 : Int)) = false := by rw [nH]; omega
  clear HC HR;go_enter Tryz.func120, Tryz.ntmps120;go_wp2_with fail;go_ret;exact ⟨rfl, rfl⟩
 ·have hR0 : R = false := by rw [← HR.o]; have := HC.o; unfold Zbr; simp; omega
  subst hR0;have : decide ((97 : Int) ≤ c) = false := nU (by omega);have : decide (c ≤ (122 : Int)) = true := nT (by omega);have : decide ((65 : Int) ≤ c) = true := nT (by omega);have : decide (c ≤ (90 : Int)) = false := nU (by omega);have : (c == (95 : Int)) = false := by rw [nH]; omega
  clear HC HR;go_enter Tryz.func120, Tryz.ntmps120;go_wp2_with fail;go_ret;exact ⟨rfl, rfl⟩
 ·have hR0 : R = true := by rw [← HR.o]; have := HC.o; unfold Zbr; simp; omega
  subst hR0;have : decide ((97 : Int) ≤ c) = false := nU (by omega);have : decide (c ≤ (122 : Int)) = true := nT (by omega);have : decide ((65 : Int) ≤ c) = true := nT (by omega);have : decide (c ≤ (90 : Int)) = false := nU (by omega);have : (c == (95 : Int)) = true := by rw [beq_iff_eq]; omega
  clear HC HR;go_enter Tryz.func120, Tryz.ntmps120;go_wp2_with fail;go_ret;exact ⟨rfl, rfl⟩
 ·have hR0 : R = false := by rw [← HR.o]; have := HC.o; unfold Zbr; simp; omega
  subst hR0;have : decide ((97 : Int) ≤ c) = false := nU (by omega);have : decide (c ≤ (122 : Int)) = true := nT (by omega);have : decide ((65 : Int) ≤ c) = true := nT (by omega);have : decide (c ≤ (90 : Int)) = false := nU (by omega);have : (c == (95 : Int)) = false := by rw [nH]; omega
  clear HC HR;go_enter Tryz.func120, Tryz.ntmps120;go_wp2_with fail;go_ret;exact ⟨rfl, rfl⟩
 ·have hR0 : R = true := by rw [← HR.o]; have := HC.o; unfold Zbr; simp; omega
  subst hR0;have : decide ((97 : Int) ≤ c) = true := nT (by omega);have : decide (c ≤ (122 : Int)) = true := nT (by omega);have : decide ((65 : Int) ≤ c) = true := nT (by omega);have : decide (c ≤ (90 : Int)) = false := nU (by omega);have : (c == (95 : Int)) = false := by rw [nH]; omega
  clear HC HR;go_enter Tryz.func120, Tryz.ntmps120;go_wp2_with fail;go_ret;exact ⟨rfl, rfl⟩
 ·have hR0 : R = false := by rw [← HR.o]; have := HC.o; unfold Zbr; simp; omega
  subst hR0;have : decide ((97 : Int) ≤ c) = true := nT (by omega);have : decide (c ≤ (122 : Int)) = false := nU (by omega);have : decide ((65 : Int) ≤ c) = true := nT (by omega);have : decide (c ≤ (90 : Int)) = false := nU (by omega);have : (c == (95 : Int)) = false := by rw [nH]; omega
  clear HC HR;go_enter Tryz.func120, Tryz.ntmps120;go_wp2_with fail;go_ret;exact ⟨rfl, rfl⟩
def Spc (w : World) : Prop := Lib.TabIs Tryz.prog w "strings.asciiSpace" .u8 Lib.asciiSpaceTab
theorem Zol : Tryz.prog.globalNamed "strings.asciiSpace" = some 0 := by kernel_rfl
theorem Spc.below {w w' : World} (h : Spc w) (hb : Below w.heap.size w w') : Spc w' :=
 var?_below hb Zol (World.block_lt_of_cell? w _ (h.cell Zol 0 (by decide +kernel))) h
def Zbf (l : List (List UInt8)) : Obj := .cells (l.map fun l => Value.string ⟨l.toArray⟩).toArray 9
def Zjq (l : List (List UInt8)) : List ByteArray := l.map fun x => ⟨x.toArray⟩
theorem Znd (w : World) (l : List (List UInt8)) (h1 : l.length ≤ 1000) (h2 : ∀ x ∈ l, x.length ≤ 1000) : Z5 Zbe 1 (fun b => w.heap.size ≤ b) (w.alloc (Zbf l)) (Zjq l) (.slice (some ⟨w.heap.size, 0, none⟩) l.length l.length) := by
 refine ⟨some ⟨w.heap.size, 0, none⟩, l.length, by simp [Zjq], by simp [Zjq], by unfold maxLen; omega, fun i hi => ?_⟩;have hi' : i < l.length := by simpa [Zjq] using hi
 refine ⟨w.heap.size, 0, [.string (Zjq l)[i]], rfl, Nat.le_refl _, by simp, ⟨rfl, ?_⟩, fun j x hj => ?_⟩
 ·have := h2 l[i] (List.getElem_mem hi');simp only [Zjq, List.getElem_map];show l[i].length ≤ maxLen;unfold maxLen
  omega
 ·cases j with
  | zero =>
   obtain rfl : Value.string (Zjq l)[i] = x := by simpa using hj
   rw [cell_of_row _ w.heap.size _ _ _ _ (heap_alloc_new w (Zbf l))];simp [Zjq, hi']
  | succ j => simp at hj
theorem Zl0 (l : List (List UInt8)) (s : ByteArray) : Zdy (Zjq l) s = decide (bl s ∈ l) := by
 unfold Zdy Zjq;rw [List.map_map];have : (bl ∘ fun x : List UInt8 => (⟨x.toArray⟩ : ByteArray)) = id := by funext x; rfl
 rw [this, List.map_id]
def Zdl : List (List UInt8) := [[112, 114, 111, 99, 101, 100, 117, 114, 101], [101, 110, 100], [103, 108, 111, 98, 97, 108], [108, 111, 99, 97, 108], [114, 101, 99, 111, 114, 100], [105, 102], [116, 104, 101, 110], [101, 108, 115, 101], [119, 104, 105, 108, 101], [117, 110, 116, 105, 108], [101, 118, 101, 114, 121], [100, 111], [114, 101, 112, 101, 97, 116], [99, 97, 115, 101], [111, 102], [100, 101, 102, 97, 117, 108, 116], [114, 101, 116, 117, 114, 110], [115, 117, 115, 112, 101, 110, 100], [102, 97, 105, 108], [98, 114, 101, 97, 107], [110, 101, 120, 116], [99, 114, 101, 97, 116, 101], [116, 111], [98, 121], [110, 111, 116], [100, 101, 102, 101, 114]]
theorem Zlq : Lib.fields (ByteArray.mk #[112, 114, 111, 99, 101, 100, 117, 114, 101, 32, 101, 110, 100, 32, 103, 108, 111, 98, 97, 108, 32, 108, 111, 99, 97, 108, 32, 114, 101, 99, 111, 114, 100, 32, 105, 102, 32, 116, 104, 101, 110, 32, 101, 108, 115, 101, 32, 119, 104, 105, 108, 101, 32, 117, 110, 116, 105, 108, 32, 101, 118, 101, 114, 121, 32, 100, 111, 32, 114, 101, 112, 101, 97, 116, 32, 99, 97, 115, 101, 32, 111, 102, 32, 100, 101, 102, 97, 117, 108, 116, 32, 114, 101, 116, 117, 114, 110, 32, 115, 117, 115, 112, 101, 110, 100, 32, 102, 97, 105, 108, 32, 98, 114, 101, 97, 107, 32, 110, 101, 120, 116, 32, 99, 114, 101, 97, 116, 101, 32, 116, 111, 32, 98, 121, 32, 110, 111, 116, 32, 100, 101, 102, 101, 114]).data.toList = Zdl := by decide +kernel
theorem Zlr : ∀ (j : Nat) b, (ByteArray.mk #[112, 114, 111, 99, 101, 100, 117, 114, 101, 32, 101, 110, 100, 32, 103, 108, 111, 98, 97, 108, 32, 108, 111, 99, 97, 108, 32, 114, 101, 99, 111, 114, 100, 32, 105, 102, 32, 116, 104, 101, 110, 32, 101, 108, 115, 101, 32, 119, 104, 105, 108, 101, 32, 117, 110, 116, 105, 108, 32, 101, 118, 101, 114, 121, 32, 100, 111, 32, 114, 101, 112, 101, 97, 116, 32, 99, 97, 115, 101, 32, 111, 102, 32, 100, 101, 102, 97, 117, 108, 116, 32, 114, 101, 116, 117, 114, 110, 32, 115, 117, 115, 112, 101, 110, 100, 32, 102, 97, 105, 108, 32, 98, 114, 101, 97, 107, 32, 110, 101, 120, 116, 32, 99, 114, 101, 97, 116, 101, 32, 116, 111, 32, 98, 121, 32, 110, 111, 116, 32, 100, 101, 102, 101, 114]).data.toList[j]? = some b → b.toNat < 128 := by
 intro j b hb;have h : ∀ c ∈ (ByteArray.mk #[112, 114, 111, 99, 101, 100, 117, 114, 101, 32, 101, 110, 100, 32, 103, 108, 111, 98, 97, 108, 32, 108, 111, 99, 97, 108, 32, 114, 101, 99, 111, 114, 100, 32, 105, 102, 32, 116, 104, 101, 110, 32, 101, 108, 115, 101, 32, 119, 104, 105, 108, 101, 32, 117, 110, 116, 105, 108, 32, 101, 118, 101, 114, 121, 32, 100, 111, 32, 114, 101, 112, 101, 97, 116, 32, 99, 97, 115, 101, 32, 111, 102, 32, 100, 101, 102, 97, 117, 108, 116, 32, 114, 101, 116, 117, 114, 110, 32, 115, 117, 115, 112, 101, 110, 100, 32, 102, 97, 105, 108, 32, 98, 114, 101, 97, 107, 32, 110, 101, 120, 116, 32, 99, 114, 101, 97, 116, 101, 32, 116, 111, 32, 98, 121, 32, 110, 111, 116, 32, 100, 101, 102, 101, 114]).data.toList, c.toNat < 128 := by decide +kernel
 exact h b (List.mem_of_getElem? hb)
theorem Zkg (w : World) (ht : Spc w) : Calls Tryz.prog 182 #[.string ⟨#[112, 114, 111, 99, 101, 100, 117, 114, 101, 32, 101, 110, 100, 32, 103, 108, 111, 98, 97, 108, 32, 108, 111, 99, 97, 108, 32, 114, 101, 99, 111, 114, 100, 32, 105, 102, 32, 116, 104, 101, 110, 32, 101, 108, 115, 101, 32, 119, 104, 105, 108, 101, 32, 117, 110, 116, 105, 108, 32, 101, 118, 101, 114, 121, 32, 100, 111, 32, 114, 101, 112, 101, 97, 116, 32, 99, 97, 115, 101, 32, 111, 102, 32, 100, 101, 102, 97, 117, 108, 116, 32, 114, 101, 116, 117, 114, 110, 32, 115, 117, 115, 112, 101, 110, 100, 32, 102, 97, 105, 108, 32, 98, 114, 101, 97, 107, 32, 110, 101, 120, 116, 32, 99, 114, 101, 97, 116, 101, 32, 116, 111, 32, 98, 121, 32, 110, 111, 116, 32, 100, 101, 102, 101, 114]⟩] w fun e w' => e = .returned (.slice (some ⟨w.heap.size, 0, none⟩) 26 26) ∧ w' = w.alloc (Zbf Zdl) := by
 have h := Tryz.strings_Fields_laid ⟨#[112, 114, 111, 99, 101, 100, 117, 114, 101, 32, 101, 110, 100, 32, 103, 108, 111, 98, 97, 108, 32, 108, 111, 99, 97, 108, 32, 114, 101, 99, 111, 114, 100, 32, 105, 102, 32, 116, 104, 101, 110, 32, 101, 108, 115, 101, 32, 119, 104, 105, 108, 101, 32, 117, 110, 116, 105, 108, 32, 101, 118, 101, 114, 121, 32, 100, 111, 32, 114, 101, 112, 101, 97, 116, 32, 99, 97, 115, 101, 32, 111, 102, 32, 100, 101, 102, 97, 117, 108, 116, 32, 114, 101, 116, 117, 114, 110, 32, 115, 117, 115, 112, 101, 110, 100, 32, 102, 97, 105, 108, 32, 98, 114, 101, 97, 107, 32, 110, 101, 120, 116, 32, 99, 114, 101, 97, 116, 101, 32, 116, 111, 32, 98, 121, 32, 110, 111, 116, 32, 100, 101, 102, 101, 114]⟩ w (by decide +kernel) Zlr ht;rw [Zlq] at h;exact h
def Zh8 (s : ByteArray) : Bool := decide (bl s ∈ Zdl)
theorem Zh9 (w : World) (ht : Spc w) : Calls Tryz.prog 166 #[] w fun e w' => e = .returned (.slice (some ⟨w.heap.size, 0, none⟩) 26 26) ∧ w' = w.alloc (Zbf Zdl) := by
 go_enter Tryz.func166, Tryz.ntmps166;go_wp2_with fail;refine (Zkg w ht).mono ?_;rintro e w' ⟨rfl, rfl⟩;go_wp2_with fail;go_ret;exact ⟨rfl, rfl⟩
theorem Zhu (s : ByteArray) (w : World) (ht : Spc w) : Calls Tryz.prog 133 #[.string s] w fun e w' => e = .returned (.bool (Zh8 s)) ∧ Below w.heap.size w w' := by
 have HW := zh (Zh9 w ht);have hro := Zh6 (Zjq Zdl) _ s _ _ (Znd w Zdl (by decide) (by decide));rw [Zl0] at hro;have HC := zh hro;clear hro;go_enter Tryz.func133, Tryz.ntmps133;go_wp2_with fail;refine HW.o.mono ?_;rintro e w' ⟨rfl, hw⟩;subst hw;go_wp2_with fail;refine HC.o.mono ?_;rintro e w' ⟨rfl, hw⟩;subst hw;go_wp2_with fail;go_ret;exact ⟨rfl, (Below.refl _ _).alloc (Nat.le_refl _) _⟩
theorem Zhv (s : ByteArray) (w : World) : Calls Tryz.prog 121 #[.string s] w fun e w' => e = .returned (.bool (Zh8 s)) ∧ Below w.heap.size w w' := by
 have hro := Zpt (Zjq Zdl) _ s _ _ (Znd w Zdl (by decide) (by decide));rw [Zl0] at hro;have HC := zh hro;clear hro;go_enter Tryz.func121, Tryz.ntmps121;go_wp2_with fail;refine HC.o.mono ?_;rintro e w' ⟨rfl, hw⟩;subst hw;go_wp2_with fail;go_ret;exact ⟨rfl, (Below.refl _ _).alloc (Nat.le_refl _) _⟩
def Zjr : List (List UInt8) := [[45], [43], [42], [47], [92], [126], [33], [61], [94], [46], [46, 62]]
theorem Zq3 : Lib.fields (ByteArray.mk #[45, 32, 43, 32, 42, 32, 47, 32, 92, 32, 126, 32, 33, 32, 61, 32, 94, 32, 46, 32, 46, 62]).data.toList = Zjr := by decide +kernel
theorem Zq4 : ∀ (j : Nat) b, (ByteArray.mk #[45, 32, 43, 32, 42, 32, 47, 32, 92, 32, 126, 32, 33, 32, 61, 32, 94, 32, 46, 32, 46, 62]).data.toList[j]? = some b → b.toNat < 128 := by
 intro j b hb;have h : ∀ c ∈ (ByteArray.mk #[45, 32, 43, 32, 42, 32, 47, 32, 92, 32, 126, 32, 33, 32, 61, 32, 94, 32, 46, 32, 46, 62]).data.toList, c.toNat < 128 := by decide +kernel
 exact h b (List.mem_of_getElem? hb)
theorem Zpu (w : World) (ht : Spc w) : Calls Tryz.prog 182 #[.string ⟨#[45, 32, 43, 32, 42, 32, 47, 32, 92, 32, 126, 32, 33, 32, 61, 32, 94, 32, 46, 32, 46, 62]⟩] w fun e w' => e = .returned (.slice (some ⟨w.heap.size, 0, none⟩) 11 11) ∧ w' = w.alloc (Zbf Zjr) := by
 have h := Tryz.strings_Fields_laid ⟨#[45, 32, 43, 32, 42, 32, 47, 32, 92, 32, 126, 32, 33, 32, 61, 32, 94, 32, 46, 32, 46, 62]⟩ w (by decide +kernel) Zq4 ht;rw [Zq3] at h;exact h
def Zia : List (List UInt8) := [[43], [45], [42], [47], [37], [94]]
theorem Zpv : Lib.fields (ByteArray.mk #[43, 32, 45, 32, 42, 32, 47, 32, 37, 32, 94]).data.toList = Zia := by decide +kernel
theorem Zpw : ∀ (j : Nat) b, (ByteArray.mk #[43, 32, 45, 32, 42, 32, 47, 32, 37, 32, 94]).data.toList[j]? = some b → b.toNat < 128 := by
 intro j b hb;have h : ∀ c ∈ (ByteArray.mk #[43, 32, 45, 32, 42, 32, 47, 32, 37, 32, 94]).data.toList, c.toNat < 128 := by decide +kernel
 exact h b (List.mem_of_getElem? hb)
theorem Zom (w : World) (ht : Spc w) : Calls Tryz.prog 182 #[.string ⟨#[43, 32, 45, 32, 42, 32, 47, 32, 37, 32, 94]⟩] w fun e w' => e = .returned (.slice (some ⟨w.heap.size, 0, none⟩) 6 6) ∧ w' = w.alloc (Zbf Zia) := by
 have h := Tryz.strings_Fields_laid ⟨#[43, 32, 45, 32, 42, 32, 47, 32, 37, 32, 94]⟩ w (by decide +kernel) Zpw ht;rw [Zpv] at h;exact h
def Zjf : List (List UInt8) := [[60], [60, 61], [61], [62, 61], [62], [126, 61]]
theorem Zpx : Lib.fields (ByteArray.mk #[60, 32, 60, 61, 32, 61, 32, 62, 61, 32, 62, 32, 126, 61]).data.toList = Zjf := by decide +kernel
theorem Zpy : ∀ (j : Nat) b, (ByteArray.mk #[60, 32, 60, 61, 32, 61, 32, 62, 61, 32, 62, 32, 126, 61]).data.toList[j]? = some b → b.toNat < 128 := by
 intro j b hb;have h : ∀ c ∈ (ByteArray.mk #[60, 32, 60, 61, 32, 61, 32, 62, 61, 32, 62, 32, 126, 61]).data.toList, c.toNat < 128 := by decide +kernel
 exact h b (List.mem_of_getElem? hb)
theorem Zon (w : World) (ht : Spc w) : Calls Tryz.prog 182 #[.string ⟨#[60, 32, 60, 61, 32, 61, 32, 62, 61, 32, 62, 32, 126, 61]⟩] w fun e w' => e = .returned (.slice (some ⟨w.heap.size, 0, none⟩) 6 6) ∧ w' = w.alloc (Zbf Zjf) := by
 have h := Tryz.strings_Fields_laid ⟨#[60, 32, 60, 61, 32, 61, 32, 62, 61, 32, 62, 32, 126, 61]⟩ w (by decide +kernel) Zpy ht;rw [Zpx] at h;exact h
def Zjg : List (List UInt8) := [[60, 60], [60, 60, 61], [61, 61], [62, 62, 61], [62, 62], [126, 61, 61], [61, 61, 61], [126, 61, 61, 61]]
theorem Zpz : Lib.fields (ByteArray.mk #[60, 60, 32, 60, 60, 61, 32, 61, 61, 32, 62, 62, 61, 32, 62, 62, 32, 126, 61, 61, 32, 61, 61, 61, 32, 126, 61, 61, 61]).data.toList = Zjg := by decide +kernel
theorem Zp0 : ∀ (j : Nat) b, (ByteArray.mk #[60, 60, 32, 60, 60, 61, 32, 61, 61, 32, 62, 62, 61, 32, 62, 62, 32, 126, 61, 61, 32, 61, 61, 61, 32, 126, 61, 61, 61]).data.toList[j]? = some b → b.toNat < 128 := by
 intro j b hb;have h : ∀ c ∈ (ByteArray.mk #[60, 60, 32, 60, 60, 61, 32, 61, 61, 32, 62, 62, 61, 32, 62, 62, 32, 126, 61, 61, 32, 61, 61, 61, 32, 126, 61, 61, 61]).data.toList, c.toNat < 128 := by decide +kernel
 exact h b (List.mem_of_getElem? hb)
theorem Zoo (w : World) (ht : Spc w) : Calls Tryz.prog 182 #[.string ⟨#[60, 60, 32, 60, 60, 61, 32, 61, 61, 32, 62, 62, 61, 32, 62, 62, 32, 126, 61, 61, 32, 61, 61, 61, 32, 126, 61, 61, 61]⟩] w fun e w' => e = .returned (.slice (some ⟨w.heap.size, 0, none⟩) 8 8) ∧ w' = w.alloc (Zbf Zjg) := by
 have h := Tryz.strings_Fields_laid ⟨#[60, 60, 32, 60, 60, 61, 32, 61, 61, 32, 62, 62, 61, 32, 62, 62, 32, 126, 61, 61, 32, 61, 61, 61, 32, 126, 61, 61, 61]⟩ w (by decide +kernel) Zp0 ht;rw [Zpz] at h;exact h
def Zib : List (List UInt8) := [[124, 124], [124, 124, 124], [43, 43], [45, 45], [42, 42]]
theorem Zp1 : Lib.fields (ByteArray.mk #[124, 124, 32, 124, 124, 124, 32, 43, 43, 32, 45, 45, 32, 42, 42]).data.toList = Zib := by decide +kernel
theorem Zp2 : ∀ (j : Nat) b, (ByteArray.mk #[124, 124, 32, 124, 124, 124, 32, 43, 43, 32, 45, 45, 32, 42, 42]).data.toList[j]? = some b → b.toNat < 128 := by
 intro j b hb;have h : ∀ c ∈ (ByteArray.mk #[124, 124, 32, 124, 124, 124, 32, 43, 43, 32, 45, 45, 32, 42, 42]).data.toList, c.toNat < 128 := by decide +kernel
 exact h b (List.mem_of_getElem? hb)
theorem Zop (w : World) (ht : Spc w) : Calls Tryz.prog 182 #[.string ⟨#[124, 124, 32, 124, 124, 124, 32, 43, 43, 32, 45, 45, 32, 42, 42]⟩] w fun e w' => e = .returned (.slice (some ⟨w.heap.size, 0, none⟩) 5 5) ∧ w' = w.alloc (Zbf Zib) := by
 have h := Tryz.strings_Fields_laid ⟨#[124, 124, 32, 124, 124, 124, 32, 43, 43, 32, 45, 45, 32, 42, 42]⟩ w (by decide +kernel) Zp2 ht;rw [Zp1] at h;exact h
def Zjh : List (List UInt8) := [[58, 61], [60, 45], [58, 61, 58], [60, 45, 62]]
theorem Zp3 : Lib.fields (ByteArray.mk #[58, 61, 32, 60, 45, 32, 58, 61, 58, 32, 60, 45, 62]).data.toList = Zjh := by decide +kernel
theorem Zp4 : ∀ (j : Nat) b, (ByteArray.mk #[58, 61, 32, 60, 45, 32, 58, 61, 58, 32, 60, 45, 62]).data.toList[j]? = some b → b.toNat < 128 := by
 intro j b hb;have h : ∀ c ∈ (ByteArray.mk #[58, 61, 32, 60, 45, 32, 58, 61, 58, 32, 60, 45, 62]).data.toList, c.toNat < 128 := by decide +kernel
 exact h b (List.mem_of_getElem? hb)
theorem Zoq (w : World) (ht : Spc w) : Calls Tryz.prog 182 #[.string ⟨#[58, 61, 32, 60, 45, 32, 58, 61, 58, 32, 60, 45, 62]⟩] w fun e w' => e = .returned (.slice (some ⟨w.heap.size, 0, none⟩) 4 4) ∧ w' = w.alloc (Zbf Zjh) := by
 have h := Tryz.strings_Fields_laid ⟨#[58, 61, 32, 60, 45, 32, 58, 61, 58, 32, 60, 45, 62]⟩ w (by decide +kernel) Zp4 ht;rw [Zp3] at h;exact h
def Zji : List (List UInt8) := [[91, 93], [91, 58, 93], [116, 111], [38], [91, 46, 46, 46, 93], [63, 63], [46, 124], [45, 62], [61, 62], [102, 105, 101, 108, 100]]
theorem Zp5 : Lib.fields (ByteArray.mk #[91, 93, 32, 91, 58, 93, 32, 116, 111, 32, 38, 32, 91, 46, 46, 46, 93, 32, 63, 63, 32, 46, 124, 32, 45, 62, 32, 61, 62, 32, 102, 105, 101, 108, 100]).data.toList = Zji := by decide +kernel
theorem Zp6 : ∀ (j : Nat) b, (ByteArray.mk #[91, 93, 32, 91, 58, 93, 32, 116, 111, 32, 38, 32, 91, 46, 46, 46, 93, 32, 63, 63, 32, 46, 124, 32, 45, 62, 32, 61, 62, 32, 102, 105, 101, 108, 100]).data.toList[j]? = some b → b.toNat < 128 := by
 intro j b hb;have h : ∀ c ∈ (ByteArray.mk #[91, 93, 32, 91, 58, 93, 32, 116, 111, 32, 38, 32, 91, 46, 46, 46, 93, 32, 63, 63, 32, 46, 124, 32, 45, 62, 32, 61, 62, 32, 102, 105, 101, 108, 100]).data.toList, c.toNat < 128 := by decide +kernel
 exact h b (List.mem_of_getElem? hb)
theorem Zor (w : World) (ht : Spc w) : Calls Tryz.prog 182 #[.string ⟨#[91, 93, 32, 91, 58, 93, 32, 116, 111, 32, 38, 32, 91, 46, 46, 46, 93, 32, 63, 63, 32, 46, 124, 32, 45, 62, 32, 61, 62, 32, 102, 105, 101, 108, 100]⟩] w fun e w' => e = .returned (.slice (some ⟨w.heap.size, 0, none⟩) 10 10) ∧ w' = w.alloc (Zbf Zji) := by
 have h := Tryz.strings_Fields_laid ⟨#[91, 93, 32, 91, 58, 93, 32, 116, 111, 32, 38, 32, 91, 46, 46, 46, 93, 32, 63, 63, 32, 46, 124, 32, 45, 62, 32, 61, 62, 32, 102, 105, 101, 108, 100]⟩ w (by decide +kernel) Zp6 ht;rw [Zp5] at h;exact h
def Zgs : List (List UInt8) := [[43], [45], [42], [47], [37], [94], [], [], [], [], [60], [60, 61], [61], [62, 61], [62], [126, 61], [], [], [], [], [60, 60], [60, 60, 61], [61, 61], [62, 62, 61], [62, 62], [126, 61, 61], [61, 61, 61], [126, 61, 61, 61], [], [], [124, 124], [124, 124, 124], [43, 43], [45, 45], [42, 42], [], [], [], [], [], [58, 61], [60, 45], [58, 61, 58], [60, 45, 62]]
def opT (op : Int) : List UInt8 :=
 if 1 ≤ op ∧ op ≤ 11 then Zjr.getD (op - 1).toNat [] else
 if 20 ≤ op ∧ op ≤ 25 then Zia.getD (op - 20).toNat [] else
 if 30 ≤ op ∧ op ≤ 35 then Zjf.getD (op - 30).toNat [] else
 if 40 ≤ op ∧ op ≤ 47 then Zjg.getD (op - 40).toNat [] else
 if 50 ≤ op ∧ op ≤ 54 then Zib.getD (op - 50).toNat [] else
 if 60 ≤ op ∧ op ≤ 63 then Zjh.getD (op - 60).toNat [] else
 if 70 ≤ op ∧ op ≤ 79 then Zji.getD (op - 70).toNat [] else
 if op = 81 then [100, 101, 102, 101, 114] else if 220 ≤ op ∧ op ≤ 225 then Zia.getD (op - 220).toNat [] ++ [58, 61] else if 250 ≤ op ∧ op ≤ 254 then Zib.getD (op - 250).toNat [] ++ [58, 61] else []
theorem Zt8 {op : Int} {k : Nat} (h : op - 1 = (k : Int)) (hk : k < 11) : opT op = Zjr.getD k [] := by
 obtain rfl : op = (k : Int) + 1 := by omega
 have : ∀ i : Fin 11, opT ((i.1 : Int) + 1) = Zjr.getD i.1 [] := by decide
 exact this ⟨k, hk⟩
theorem Zul {op : Int} {k : Nat} (h : op - 20 = (k : Int)) (hk : k < 6) : opT op = Zia.getD k [] := by
 obtain rfl : op = (k : Int) + 20 := by omega
 have : ∀ i : Fin 6, opT ((i.1 : Int) + 20) = Zia.getD i.1 [] := by decide
 exact this ⟨k, hk⟩
theorem Zum {op : Int} {k : Nat} (h : op - 30 = (k : Int)) (hk : k < 6) : opT op = Zjf.getD k [] := by
 obtain rfl : op = (k : Int) + 30 := by omega
 have : ∀ i : Fin 6, opT ((i.1 : Int) + 30) = Zjf.getD i.1 [] := by decide
 exact this ⟨k, hk⟩
theorem Zun {op : Int} {k : Nat} (h : op - 40 = (k : Int)) (hk : k < 8) : opT op = Zjg.getD k [] := by
 obtain rfl : op = (k : Int) + 40 := by omega
 have : ∀ i : Fin 8, opT ((i.1 : Int) + 40) = Zjg.getD i.1 [] := by decide
 exact this ⟨k, hk⟩
theorem Zuo {op : Int} {k : Nat} (h : op - 50 = (k : Int)) (hk : k < 5) : opT op = Zib.getD k [] := by
 obtain rfl : op = (k : Int) + 50 := by omega
 have : ∀ i : Fin 5, opT ((i.1 : Int) + 50) = Zib.getD i.1 [] := by decide
 exact this ⟨k, hk⟩
theorem Zup {op : Int} {k : Nat} (h : op - 60 = (k : Int)) (hk : k < 4) : opT op = Zjh.getD k [] := by
 obtain rfl : op = (k : Int) + 60 := by omega
 have : ∀ i : Fin 4, opT ((i.1 : Int) + 60) = Zjh.getD i.1 [] := by decide
 exact this ⟨k, hk⟩
theorem Zuq {op : Int} {k : Nat} (h : op - 70 = (k : Int)) (hk : k < 10) : opT op = Zji.getD k [] := by
 obtain rfl : op = (k : Int) + 70 := by omega
 have : ∀ i : Fin 10, opT ((i.1 : Int) + 70) = Zji.getD i.1 [] := by decide
 exact this ⟨k, hk⟩
theorem Ztn {op : Int} {k : Nat} (h : op - 20 = (k : Int)) (hk : k < 44) : opT op = Zgs.getD k [] := by
 obtain rfl : op = (k : Int) + 20 := by omega
 have : ∀ i : Fin 44, opT ((i.1 : Int) + 20) = Zgs.getD i.1 [] := by decide
 exact this ⟨k, hk⟩
theorem Ze8 {op : Int} {k : Nat} (h : op - 220 = (k : Int)) (hk : k < 6 ∨ (30 ≤ k ∧ k < 35)) : opT op = Zgs.getD k [] ++ [58, 61] ∧ opT (op - 200) = Zgs.getD k [] := by
 obtain rfl : op = (k : Int) + 220 := by omega
 have : ∀ i : Fin 35, i.1 < 6 ∨ 30 ≤ i.1 → opT ((i.1 : Int) + 220) = Zgs.getD i.1 [] ++ [58, 61] ∧ opT ((i.1 : Int) + 220 - 200) = Zgs.getD i.1 [] := by decide
 exact this ⟨k, by omega⟩ (by show k < 6 ∨ 30 ≤ k; omega)
theorem Zcp {op : Int} (h : op < 1 ∨ (11 < op ∧ op < 20) ∨ (25 < op ∧ op < 30) ∨ (35 < op ∧ op < 40) ∨ (47 < op ∧ op < 50) ∨ (54 < op ∧ op < 60) ∨ (63 < op ∧ op < 70) ∨ op = 80 ∨ (81 < op ∧ op < 220) ∨ (225 < op ∧ op < 250) ∨ 254 < op) : opT op = [] := by
 unfold opT
 iterate 7 rw [if_neg (by omega)]
 rw [if_neg (by omega), if_neg (by omega), if_neg (by omega)]
theorem Zha (op : Int) : (opT op).length ≤ 11 := by
 by_cases h : 1 ≤ op ∧ op ≤ 254
 ·obtain ⟨k, hk⟩ : ∃ k : Nat, op = (k : Int) := ⟨op.toNat, by omega⟩;subst hk;have : ∀ i : Fin 255, (opT (i.1 : Int)).length ≤ 11 := by decide +kernel
  exact this ⟨k, by omega⟩
 ·rw [Zcp (by omega)]; simp
theorem Zcm (w : World) (l : List (List UInt8)) (k : Nat) (h : k < l.length) : (w.alloc (Zbf l)).cell? ⟨w.heap.size, k, none⟩ = some (.string ⟨(l.getD k []).toArray⟩) := by
 rw [cell_of_row _ w.heap.size _ _ _ _ (heap_alloc_new w (Zbf l)), List.getD_eq_getElem?_getD, List.getElem?_eq_getElem h];simp [h]
theorem Zec (op : Int) (w : World) (hi : (op ≤ 0) ∨ (1 ≤ op ∧ op ≤ 11) ∨ (12 ≤ op ∧ op ≤ 19) ∨ (20 ≤ op ∧ op ≤ 25) ∨ (26 ≤ op ∧ op ≤ 29) ∨ (30 ≤ op ∧ op ≤ 35) ∨ (36 ≤ op ∧ op ≤ 39) ∨ (40 ≤ op ∧ op ≤ 47) ∨ (48 ≤ op ∧ op ≤ 49) ∨ (50 ≤ op ∧ op ≤ 54) ∨ (55 ≤ op ∧ op ≤ 59) ∨ (60 ≤ op ∧ op ≤ 63) ∨ (64 ≤ op ∧ op ≤ 69) ∨ (70 ≤ op ∧ op ≤ 79) ∨ (80 ≤ op ∧ op ≤ 80) ∨ (81 ≤ op ∧ op ≤ 81) ∨ (82 ≤ op ∧ op ≤ 219) ∨ (226 ≤ op ∧ op ≤ 249) ∨ (255 ≤ op)) (ht : Spc w) : Calls Tryz.prog 155 #[.int .i64 op] w fun e w' => e = .returned (.string ⟨(opT op).toArray⟩) ∧ Below w.heap.size w w' := by
 obtain ⟨R, hR⟩ : ∃ R, (⟨(opT op).toArray⟩ : ByteArray) = R := ⟨_, rfl⟩;rw [hR];have HR := zh hR;have HT := zh ht;clear hR ht
 rcases hi with hi | hi | hi | hi | hi | hi | hi | hi | hi | hi | hi | hi | hi | hi | hi | hi | hi | hi | hi
 ·skip
  have : decide ((1 : Int) ≤ op) = false := nU (by omega);have : decide ((20 : Int) ≤ op) = false := nU (by omega);have : decide ((30 : Int) ≤ op) = false := nU (by omega);have : decide ((40 : Int) ≤ op) = false := nU (by omega);have : decide ((50 : Int) ≤ op) = false := nU (by omega);have : decide ((60 : Int) ≤ op) = false := nU (by omega);have : decide ((70 : Int) ≤ op) = false := nU (by omega);have : decide ((220 : Int) ≤ op) = false := nU (by omega);have : decide ((250 : Int) ≤ op) = false := nU (by omega);have : decide (op ≤ (11 : Int)) = true := nT (by omega);have : decide (op ≤ (25 : Int)) = true := nT (by omega);have : decide (op ≤ (35 : Int)) = true := nT (by omega);have : decide (op ≤ (47 : Int)) = true := nT (by omega);have : decide (op ≤ (54 : Int)) = true := nT (by omega);have : decide (op ≤ (63 : Int)) = true := nT (by omega);have : decide (op ≤ (79 : Int)) = true := nT (by omega);have : decide (op ≤ (225 : Int)) = true := nT (by omega);have : decide (op ≤ (254 : Int)) = true := nT (by omega);have : (op == (81 : Int)) = false := by rw [nH]; omega
  have hR0 : R = ⟨#[]⟩ := by rw [← HR.o, Zcp (by omega)]
  subst hR0;go_enter Tryz.func155, Tryz.ntmps155;go_wp2_with fail;go_ret;exact ⟨rfl, Below.refl _ _⟩
 ·skip
  have : decide ((1 : Int) ≤ op) = true := nT (by omega);have : decide ((20 : Int) ≤ op) = false := nU (by omega);have : decide ((30 : Int) ≤ op) = false := nU (by omega);have : decide ((40 : Int) ≤ op) = false := nU (by omega);have : decide ((50 : Int) ≤ op) = false := nU (by omega);have : decide ((60 : Int) ≤ op) = false := nU (by omega);have : decide ((70 : Int) ≤ op) = false := nU (by omega);have : decide ((220 : Int) ≤ op) = false := nU (by omega);have : decide ((250 : Int) ≤ op) = false := nU (by omega);have : decide (op ≤ (11 : Int)) = true := nT (by omega);have : decide (op ≤ (25 : Int)) = true := nT (by omega);have : decide (op ≤ (35 : Int)) = true := nT (by omega);have : decide (op ≤ (47 : Int)) = true := nT (by omega);have : decide (op ≤ (54 : Int)) = true := nT (by omega);have : decide (op ≤ (63 : Int)) = true := nT (by omega);have : decide (op ≤ (79 : Int)) = true := nT (by omega);have : decide (op ≤ (225 : Int)) = true := nT (by omega);have : decide (op ≤ (254 : Int)) = true := nT (by omega);have : (op == (81 : Int)) = false := by rw [nH]; omega
  obtain ⟨k, hk⟩ : ∃ k : Nat, op - 1 = (k : Int) := ⟨(op - 1).toNat, by omega⟩;have hk1 : k < 11 := by omega
  have hk2 : (k : Int) < 11 := by omega
  have hR0 : R = ⟨(Zjr.getD k []).toArray⟩ := by rw [← HR.o, Zt8 hk hk1]
  have e0 := Zcm w Zjr k hk1;rw [← hR0] at e0;obtain ⟨w1, hw1⟩ : ∃ w1, w.alloc (Zbf Zjr) = w1 := ⟨_, rfl⟩;have HW := zh hw1;rw [hw1] at e0;have HB := zh (show Below w.heap.size w w1 by rw [← hw1]; exact (Below.refl _ _).alloc (Nat.le_refl _) _);clear hw1 hR0 HR;go_enter Tryz.func155, Tryz.ntmps155;go_wp2_with fail;refine (Zpu w HT.o).mono ?_;rintro e w' ⟨rfl, hw'⟩;rw [HW.o] at hw';subst hw';go_wp2_with fail;go_ret;exact ⟨rfl, HB.o⟩
 ·skip
  have : decide ((1 : Int) ≤ op) = true := nT (by omega);have : decide ((20 : Int) ≤ op) = false := nU (by omega);have : decide ((30 : Int) ≤ op) = false := nU (by omega);have : decide ((40 : Int) ≤ op) = false := nU (by omega);have : decide ((50 : Int) ≤ op) = false := nU (by omega);have : decide ((60 : Int) ≤ op) = false := nU (by omega);have : decide ((70 : Int) ≤ op) = false := nU (by omega);have : decide ((220 : Int) ≤ op) = false := nU (by omega);have : decide ((250 : Int) ≤ op) = false := nU (by omega);have : decide (op ≤ (11 : Int)) = false := nU (by omega);have : decide (op ≤ (25 : Int)) = true := nT (by omega);have : decide (op ≤ (35 : Int)) = true := nT (by omega);have : decide (op ≤ (47 : Int)) = true := nT (by omega);have : decide (op ≤ (54 : Int)) = true := nT (by omega);have : decide (op ≤ (63 : Int)) = true := nT (by omega);have : decide (op ≤ (79 : Int)) = true := nT (by omega);have : decide (op ≤ (225 : Int)) = true := nT (by omega);have : decide (op ≤ (254 : Int)) = true := nT (by omega);have : (op == (81 : Int)) = false := by rw [nH]; omega
  have hR0 : R = ⟨#[]⟩ := by rw [← HR.o, Zcp (by omega)]
  subst hR0;go_enter Tryz.func155, Tryz.ntmps155;go_wp2_with fail;go_ret;exact ⟨rfl, Below.refl _ _⟩
 ·skip
  have : decide ((1 : Int) ≤ op) = true := nT (by omega);have : decide ((20 : Int) ≤ op) = true := nT (by omega);have : decide ((30 : Int) ≤ op) = false := nU (by omega);have : decide ((40 : Int) ≤ op) = false := nU (by omega);have : decide ((50 : Int) ≤ op) = false := nU (by omega);have : decide ((60 : Int) ≤ op) = false := nU (by omega);have : decide ((70 : Int) ≤ op) = false := nU (by omega);have : decide ((220 : Int) ≤ op) = false := nU (by omega);have : decide ((250 : Int) ≤ op) = false := nU (by omega);have : decide (op ≤ (11 : Int)) = false := nU (by omega);have : decide (op ≤ (25 : Int)) = true := nT (by omega);have : decide (op ≤ (35 : Int)) = true := nT (by omega);have : decide (op ≤ (47 : Int)) = true := nT (by omega);have : decide (op ≤ (54 : Int)) = true := nT (by omega);have : decide (op ≤ (63 : Int)) = true := nT (by omega);have : decide (op ≤ (79 : Int)) = true := nT (by omega);have : decide (op ≤ (225 : Int)) = true := nT (by omega);have : decide (op ≤ (254 : Int)) = true := nT (by omega);have : (op == (81 : Int)) = false := by rw [nH]; omega
  obtain ⟨k, hk⟩ : ∃ k : Nat, op - 20 = (k : Int) := ⟨(op - 20).toNat, by omega⟩;have hk1 : k < 6 := by omega
  have hk2 : (k : Int) < 6 := by omega
  have hR0 : R = ⟨(Zia.getD k []).toArray⟩ := by rw [← HR.o, Zul hk hk1]
  have e0 := Zcm w Zia k hk1;rw [← hR0] at e0;obtain ⟨w1, hw1⟩ : ∃ w1, w.alloc (Zbf Zia) = w1 := ⟨_, rfl⟩;have HW := zh hw1;rw [hw1] at e0;have HB := zh (show Below w.heap.size w w1 by rw [← hw1]; exact (Below.refl _ _).alloc (Nat.le_refl _) _);clear hw1 hR0 HR;go_enter Tryz.func155, Tryz.ntmps155;go_wp2_with fail;refine (Zom w HT.o).mono ?_;rintro e w' ⟨rfl, hw'⟩;rw [HW.o] at hw';subst hw';go_wp2_with fail;go_ret;exact ⟨rfl, HB.o⟩
 ·skip
  have : decide ((1 : Int) ≤ op) = true := nT (by omega);have : decide ((20 : Int) ≤ op) = true := nT (by omega);have : decide ((30 : Int) ≤ op) = false := nU (by omega);have : decide ((40 : Int) ≤ op) = false := nU (by omega);have : decide ((50 : Int) ≤ op) = false := nU (by omega);have : decide ((60 : Int) ≤ op) = false := nU (by omega);have : decide ((70 : Int) ≤ op) = false := nU (by omega);have : decide ((220 : Int) ≤ op) = false := nU (by omega);have : decide ((250 : Int) ≤ op) = false := nU (by omega);have : decide (op ≤ (11 : Int)) = false := nU (by omega);have : decide (op ≤ (25 : Int)) = false := nU (by omega);have : decide (op ≤ (35 : Int)) = true := nT (by omega);have : decide (op ≤ (47 : Int)) = true := nT (by omega);have : decide (op ≤ (54 : Int)) = true := nT (by omega);have : decide (op ≤ (63 : Int)) = true := nT (by omega);have : decide (op ≤ (79 : Int)) = true := nT (by omega);have : decide (op ≤ (225 : Int)) = true := nT (by omega);have : decide (op ≤ (254 : Int)) = true := nT (by omega);have : (op == (81 : Int)) = false := by rw [nH]; omega
  have hR0 : R = ⟨#[]⟩ := by rw [← HR.o, Zcp (by omega)]
  subst hR0;go_enter Tryz.func155, Tryz.ntmps155;go_wp2_with fail;go_ret;exact ⟨rfl, Below.refl _ _⟩
 ·skip
  have : decide ((1 : Int) ≤ op) = true := nT (by omega);have : decide ((20 : Int) ≤ op) = true := nT (by omega);have : decide ((30 : Int) ≤ op) = true := nT (by omega);have : decide ((40 : Int) ≤ op) = false := nU (by omega);have : decide ((50 : Int) ≤ op) = false := nU (by omega);have : decide ((60 : Int) ≤ op) = false := nU (by omega);have : decide ((70 : Int) ≤ op) = false := nU (by omega);have : decide ((220 : Int) ≤ op) = false := nU (by omega);have : decide ((250 : Int) ≤ op) = false := nU (by omega);have : decide (op ≤ (11 : Int)) = false := nU (by omega);have : decide (op ≤ (25 : Int)) = false := nU (by omega);have : decide (op ≤ (35 : Int)) = true := nT (by omega);have : decide (op ≤ (47 : Int)) = true := nT (by omega);have : decide (op ≤ (54 : Int)) = true := nT (by omega);have : decide (op ≤ (63 : Int)) = true := nT (by omega);have : decide (op ≤ (79 : Int)) = true := nT (by omega);have : decide (op ≤ (225 : Int)) = true := nT (by omega);have : decide (op ≤ (254 : Int)) = true := nT (by omega);have : (op == (81 : Int)) = false := by rw [nH]; omega
  obtain ⟨k, hk⟩ : ∃ k : Nat, op - 30 = (k : Int) := ⟨(op - 30).toNat, by omega⟩;have hk1 : k < 6 := by omega
  have hk2 : (k : Int) < 6 := by omega
  have hR0 : R = ⟨(Zjf.getD k []).toArray⟩ := by rw [← HR.o, Zum hk hk1]
  have e0 := Zcm w Zjf k hk1;rw [← hR0] at e0;obtain ⟨w1, hw1⟩ : ∃ w1, w.alloc (Zbf Zjf) = w1 := ⟨_, rfl⟩;have HW := zh hw1;rw [hw1] at e0;have HB := zh (show Below w.heap.size w w1 by rw [← hw1]; exact (Below.refl _ _).alloc (Nat.le_refl _) _);clear hw1 hR0 HR;go_enter Tryz.func155, Tryz.ntmps155;go_wp2_with fail;refine (Zon w HT.o).mono ?_;rintro e w' ⟨rfl, hw'⟩;rw [HW.o] at hw';subst hw';go_wp2_with fail;go_ret;exact ⟨rfl, HB.o⟩
 ·skip
  have : decide ((1 : Int) ≤ op) = true := nT (by omega);have : decide ((20 : Int) ≤ op) = true := nT (by omega);have : decide ((30 : Int) ≤ op) = true := nT (by omega);have : decide ((40 : Int) ≤ op) = false := nU (by omega);have : decide ((50 : Int) ≤ op) = false := nU (by omega);have : decide ((60 : Int) ≤ op) = false := nU (by omega);have : decide ((70 : Int) ≤ op) = false := nU (by omega);have : decide ((220 : Int) ≤ op) = false := nU (by omega);have : decide ((250 : Int) ≤ op) = false := nU (by omega);have : decide (op ≤ (11 : Int)) = false := nU (by omega);have : decide (op ≤ (25 : Int)) = false := nU (by omega);have : decide (op ≤ (35 : Int)) = false := nU (by omega);have : decide (op ≤ (47 : Int)) = true := nT (by omega);have : decide (op ≤ (54 : Int)) = true := nT (by omega);have : decide (op ≤ (63 : Int)) = true := nT (by omega);have : decide (op ≤ (79 : Int)) = true := nT (by omega);have : decide (op ≤ (225 : Int)) = true := nT (by omega);have : decide (op ≤ (254 : Int)) = true := nT (by omega);have : (op == (81 : Int)) = false := by rw [nH]; omega
  have hR0 : R = ⟨#[]⟩ := by rw [← HR.o, Zcp (by omega)]
  subst hR0;go_enter Tryz.func155, Tryz.ntmps155;go_wp2_with fail;go_ret;exact ⟨rfl, Below.refl _ _⟩
 ·skip
  have : decide ((1 : Int) ≤ op) = true := nT (by omega);have : decide ((20 : Int) ≤ op) = true := nT (by omega);have : decide ((30 : Int) ≤ op) = true := nT (by omega);have : decide ((40 : Int) ≤ op) = true := nT (by omega);have : decide ((50 : Int) ≤ op) = false := nU (by omega);have : decide ((60 : Int) ≤ op) = false := nU (by omega);have : decide ((70 : Int) ≤ op) = false := nU (by omega);have : decide ((220 : Int) ≤ op) = false := nU (by omega);have : decide ((250 : Int) ≤ op) = false := nU (by omega);have : decide (op ≤ (11 : Int)) = false := nU (by omega);have : decide (op ≤ (25 : Int)) = false := nU (by omega);have : decide (op ≤ (35 : Int)) = false := nU (by omega);have : decide (op ≤ (47 : Int)) = true := nT (by omega);have : decide (op ≤ (54 : Int)) = true := nT (by omega);have : decide (op ≤ (63 : Int)) = true := nT (by omega);have : decide (op ≤ (79 : Int)) = true := nT (by omega);have : decide (op ≤ (225 : Int)) = true := nT (by omega);have : decide (op ≤ (254 : Int)) = true := nT (by omega);have : (op == (81 : Int)) = false := by rw [nH]; omega
  obtain ⟨k, hk⟩ : ∃ k : Nat, op - 40 = (k : Int) := ⟨(op - 40).toNat, by omega⟩;have hk1 : k < 8 := by omega
  have hk2 : (k : Int) < 8 := by omega
  have hR0 : R = ⟨(Zjg.getD k []).toArray⟩ := by rw [← HR.o, Zun hk hk1]
  have e0 := Zcm w Zjg k hk1;rw [← hR0] at e0;obtain ⟨w1, hw1⟩ : ∃ w1, w.alloc (Zbf Zjg) = w1 := ⟨_, rfl⟩;have HW := zh hw1;rw [hw1] at e0;have HB := zh (show Below w.heap.size w w1 by rw [← hw1]; exact (Below.refl _ _).alloc (Nat.le_refl _) _);clear hw1 hR0 HR;go_enter Tryz.func155, Tryz.ntmps155;go_wp2_with fail;refine (Zoo w HT.o).mono ?_;rintro e w' ⟨rfl, hw'⟩;rw [HW.o] at hw';subst hw';go_wp2_with fail;go_ret;exact ⟨rfl, HB.o⟩
 ·skip
  have : decide ((1 : Int) ≤ op) = true := nT (by omega);have : decide ((20 : Int) ≤ op) = true := nT (by omega);have : decide ((30 : Int) ≤ op) = true := nT (by omega);have : decide ((40 : Int) ≤ op) = true := nT (by omega);have : decide ((50 : Int) ≤ op) = false := nU (by omega);have : decide ((60 : Int) ≤ op) = false := nU (by omega);have : decide ((70 : Int) ≤ op) = false := nU (by omega);have : decide ((220 : Int) ≤ op) = false := nU (by omega);have : decide ((250 : Int) ≤ op) = false := nU (by omega);have : decide (op ≤ (11 : Int)) = false := nU (by omega);have : decide (op ≤ (25 : Int)) = false := nU (by omega);have : decide (op ≤ (35 : Int)) = false := nU (by omega);have : decide (op ≤ (47 : Int)) = false := nU (by omega);have : decide (op ≤ (54 : Int)) = true := nT (by omega);have : decide (op ≤ (63 : Int)) = true := nT (by omega);have : decide (op ≤ (79 : Int)) = true := nT (by omega);have : decide (op ≤ (225 : Int)) = true := nT (by omega);have : decide (op ≤ (254 : Int)) = true := nT (by omega);have : (op == (81 : Int)) = false := by rw [nH]; omega
  have hR0 : R = ⟨#[]⟩ := by rw [← HR.o, Zcp (by omega)]
  subst hR0;go_enter Tryz.func155, Tryz.ntmps155;go_wp2_with fail;go_ret;exact ⟨rfl, Below.refl _ _⟩
 ·skip
  have : decide ((1 : Int) ≤ op) = true := nT (by omega);have : decide ((20 : Int) ≤ op) = true := nT (by omega);have : decide ((30 : Int) ≤ op) = true := nT (by omega);have : decide ((40 : Int) ≤ op) = true := nT (by omega);have : decide ((50 : Int) ≤ op) = true := nT (by omega);have : decide ((60 : Int) ≤ op) = false := nU (by omega);have : decide ((70 : Int) ≤ op) = false := nU (by omega);have : decide ((220 : Int) ≤ op) = false := nU (by omega);have : decide ((250 : Int) ≤ op) = false := nU (by omega);have : decide (op ≤ (11 : Int)) = false := nU (by omega);have : decide (op ≤ (25 : Int)) = false := nU (by omega);have : decide (op ≤ (35 : Int)) = false := nU (by omega);have : decide (op ≤ (47 : Int)) = false := nU (by omega);have : decide (op ≤ (54 : Int)) = true := nT (by omega);have : decide (op ≤ (63 : Int)) = true := nT (by omega);have : decide (op ≤ (79 : Int)) = true := nT (by omega);have : decide (op ≤ (225 : Int)) = true := nT (by omega);have : decide (op ≤ (254 : Int)) = true := nT (by omega);have : (op == (81 : Int)) = false := by rw [nH]; omega
  obtain ⟨k, hk⟩ : ∃ k : Nat, op - 50 = (k : Int) := ⟨(op - 50).toNat, by omega⟩;have hk1 : k < 5 := by omega
  have hk2 : (k : Int) < 5 := by omega
  have hR0 : R = ⟨(Zib.getD k []).toArray⟩ := by rw [← HR.o, Zuo hk hk1]
  have e0 := Zcm w Zib k hk1;rw [← hR0] at e0;obtain ⟨w1, hw1⟩ : ∃ w1, w.alloc (Zbf Zib) = w1 := ⟨_, rfl⟩;have HW := zh hw1;rw [hw1] at e0;have HB := zh (show Below w.heap.size w w1 by rw [← hw1]; exact (Below.refl _ _).alloc (Nat.le_refl _) _);clear hw1 hR0 HR;go_enter Tryz.func155, Tryz.ntmps155;go_wp2_with fail;refine (Zop w HT.o).mono ?_;rintro e w' ⟨rfl, hw'⟩;rw [HW.o] at hw';subst hw';go_wp2_with fail;go_ret;exact ⟨rfl, HB.o⟩
 ·skip
  have : decide ((1 : Int) ≤ op) = true := nT (by omega);have : decide ((20 : Int) ≤ op) = true := nT (by omega);have : decide ((30 : Int) ≤ op) = true := nT (by omega);have : decide ((40 : Int) ≤ op) = true := nT (by omega);have : decide ((50 : Int) ≤ op) = true := nT (by omega);have : decide ((60 : Int) ≤ op) = false := nU (by omega);have : decide ((70 : Int) ≤ op) = false := nU (by omega);have : decide ((220 : Int) ≤ op) = false := nU (by omega);have : decide ((250 : Int) ≤ op) = false := nU (by omega);have : decide (op ≤ (11 : Int)) = false := nU (by omega);have : decide (op ≤ (25 : Int)) = false := nU (by omega);have : decide (op ≤ (35 : Int)) = false := nU (by omega);have : decide (op ≤ (47 : Int)) = false := nU (by omega);have : decide (op ≤ (54 : Int)) = false := nU (by omega);have : decide (op ≤ (63 : Int)) = true := nT (by omega);have : decide (op ≤ (79 : Int)) = true := nT (by omega);have : decide (op ≤ (225 : Int)) = true := nT (by omega);have : decide (op ≤ (254 : Int)) = true := nT (by omega);have : (op == (81 : Int)) = false := by rw [nH]; omega
  have hR0 : R = ⟨#[]⟩ := by rw [← HR.o, Zcp (by omega)]
  subst hR0;go_enter Tryz.func155, Tryz.ntmps155;go_wp2_with fail;go_ret;exact ⟨rfl, Below.refl _ _⟩
 ·skip
  have : decide ((1 : Int) ≤ op) = true := nT (by omega);have : decide ((20 : Int) ≤ op) = true := nT (by omega);have : decide ((30 : Int) ≤ op) = true := nT (by omega);have : decide ((40 : Int) ≤ op) = true := nT (by omega);have : decide ((50 : Int) ≤ op) = true := nT (by omega);have : decide ((60 : Int) ≤ op) = true := nT (by omega);have : decide ((70 : Int) ≤ op) = false := nU (by omega);have : decide ((220 : Int) ≤ op) = false := nU (by omega);have : decide ((250 : Int) ≤ op) = false := nU (by omega);have : decide (op ≤ (11 : Int)) = false := nU (by omega);have : decide (op ≤ (25 : Int)) = false := nU (by omega);have : decide (op ≤ (35 : Int)) = false := nU (by omega);have : decide (op ≤ (47 : Int)) = false := nU (by omega);have : decide (op ≤ (54 : Int)) = false := nU (by omega);have : decide (op ≤ (63 : Int)) = true := nT (by omega);have : decide (op ≤ (79 : Int)) = true := nT (by omega);have : decide (op ≤ (225 : Int)) = true := nT (by omega);have : decide (op ≤ (254 : Int)) = true := nT (by omega);have : (op == (81 : Int)) = false := by rw [nH]; omega
  obtain ⟨k, hk⟩ : ∃ k : Nat, op - 60 = (k : Int) := ⟨(op - 60).toNat, by omega⟩;have hk1 : k < 4 := by omega
  have hk2 : (k : Int) < 4 := by omega
  have hR0 : R = ⟨(Zjh.getD k []).toArray⟩ := by rw [← HR.o, Zup hk hk1]
  have e0 := Zcm w Zjh k hk1;rw [← hR0] at e0;obtain ⟨w1, hw1⟩ : ∃ w1, w.alloc (Zbf Zjh) = w1 := ⟨_, rfl⟩;have HW := zh hw1;rw [hw1] at e0;have HB := zh (show Below w.heap.size w w1 by rw [← hw1]; exact (Below.refl _ _).alloc (Nat.le_refl _) _);clear hw1 hR0 HR;go_enter Tryz.func155, Tryz.ntmps155;go_wp2_with fail;refine (Zoq w HT.o).mono ?_;rintro e w' ⟨rfl, hw'⟩;rw [HW.o] at hw';subst hw';go_wp2_with fail;go_ret;exact ⟨rfl, HB.o⟩
 ·skip
  have : decide ((1 : Int) ≤ op) = true := nT (by omega);have : decide ((20 : Int) ≤ op) = true := nT (by omega);have : decide ((30 : Int) ≤ op) = true := nT (by omega);have : decide ((40 : Int) ≤ op) = true := nT (by omega);have : decide ((50 : Int) ≤ op) = true := nT (by omega);have : decide ((60 : Int) ≤ op) = true := nT (by omega);have : decide ((70 : Int) ≤ op) = false := nU (by omega);have : decide ((220 : Int) ≤ op) = false := nU (by omega);have : decide ((250 : Int) ≤ op) = false := nU (by omega);have : decide (op ≤ (11 : Int)) = false := nU (by omega);have : decide (op ≤ (25 : Int)) = false := nU (by omega);have : decide (op ≤ (35 : Int)) = false := nU (by omega);have : decide (op ≤ (47 : Int)) = false := nU (by omega);have : decide (op ≤ (54 : Int)) = false := nU (by omega);have : decide (op ≤ (63 : Int)) = false := nU (by omega);have : decide (op ≤ (79 : Int)) = true := nT (by omega);have : decide (op ≤ (225 : Int)) = true := nT (by omega);have : decide (op ≤ (254 : Int)) = true := nT (by omega);have : (op == (81 : Int)) = false := by rw [nH]; omega
  have hR0 : R = ⟨#[]⟩ := by rw [← HR.o, Zcp (by omega)]
  subst hR0;go_enter Tryz.func155, Tryz.ntmps155;go_wp2_with fail;go_ret;exact ⟨rfl, Below.refl _ _⟩
 ·skip
  have : decide ((1 : Int) ≤ op) = true := nT (by omega);have : decide ((20 : Int) ≤ op) = true := nT (by omega);have : decide ((30 : Int) ≤ op) = true := nT (by omega);have : decide ((40 : Int) ≤ op) = true := nT (by omega);have : decide ((50 : Int) ≤ op) = true := nT (by omega);have : decide ((60 : Int) ≤ op) = true := nT (by omega);have : decide ((70 : Int) ≤ op) = true := nT (by omega);have : decide ((220 : Int) ≤ op) = false := nU (by omega);have : decide ((250 : Int) ≤ op) = false := nU (by omega);have : decide (op ≤ (11 : Int)) = false := nU (by omega);have : decide (op ≤ (25 : Int)) = false := nU (by omega);have : decide (op ≤ (35 : Int)) = false := nU (by omega);have : decide (op ≤ (47 : Int)) = false := nU (by omega);have : decide (op ≤ (54 : Int)) = false := nU (by omega);have : decide (op ≤ (63 : Int)) = false := nU (by omega);have : decide (op ≤ (79 : Int)) = true := nT (by omega);have : decide (op ≤ (225 : Int)) = true := nT (by omega);have : decide (op ≤ (254 : Int)) = true := nT (by omega);have : (op == (81 : Int)) = false := by rw [nH]; omega
  obtain ⟨k, hk⟩ : ∃ k : Nat, op - 70 = (k : Int) := ⟨(op - 70).toNat, by omega⟩;have hk1 : k < 10 := by omega
  have hk2 : (k : Int) < 10 := by omega
  have hR0 : R = ⟨(Zji.getD k []).toArray⟩ := by rw [← HR.o, Zuq hk hk1]
  have e0 := Zcm w Zji k hk1;rw [← hR0] at e0;obtain ⟨w1, hw1⟩ : ∃ w1, w.alloc (Zbf Zji) = w1 := ⟨_, rfl⟩;have HW := zh hw1;rw [hw1] at e0;have HB := zh (show Below w.heap.size w w1 by rw [← hw1]; exact (Below.refl _ _).alloc (Nat.le_refl _) _);clear hw1 hR0 HR;go_enter Tryz.func155, Tryz.ntmps155;go_wp2_with fail;refine (Zor w HT.o).mono ?_;rintro e w' ⟨rfl, hw'⟩;rw [HW.o] at hw';subst hw';go_wp2_with fail;go_ret;exact ⟨rfl, HB.o⟩
 ·skip
  have : decide ((1 : Int) ≤ op) = true := nT (by omega);have : decide ((20 : Int) ≤ op) = true := nT (by omega);have : decide ((30 : Int) ≤ op) = true := nT (by omega);have : decide ((40 : Int) ≤ op) = true := nT (by omega);have : decide ((50 : Int) ≤ op) = true := nT (by omega);have : decide ((60 : Int) ≤ op) = true := nT (by omega);have : decide ((70 : Int) ≤ op) = true := nT (by omega);have : decide ((220 : Int) ≤ op) = false := nU (by omega);have : decide ((250 : Int) ≤ op) = false := nU (by omega);have : decide (op ≤ (11 : Int)) = false := nU (by omega);have : decide (op ≤ (25 : Int)) = false := nU (by omega);have : decide (op ≤ (35 : Int)) = false := nU (by omega);have : decide (op ≤ (47 : Int)) = false := nU (by omega);have : decide (op ≤ (54 : Int)) = false := nU (by omega);have : decide (op ≤ (63 : Int)) = false := nU (by omega);have : decide (op ≤ (79 : Int)) = false := nU (by omega);have : decide (op ≤ (225 : Int)) = true := nT (by omega);have : decide (op ≤ (254 : Int)) = true := nT (by omega);have : (op == (81 : Int)) = false := by rw [nH]; omega
  have hR0 : R = ⟨#[]⟩ := by rw [← HR.o, Zcp (by omega)]
  subst hR0;go_enter Tryz.func155, Tryz.ntmps155;go_wp2_with fail;go_ret;exact ⟨rfl, Below.refl _ _⟩
 ·skip
  have : decide ((1 : Int) ≤ op) = true := nT (by omega);have : decide ((20 : Int) ≤ op) = true := nT (by omega);have : decide ((30 : Int) ≤ op) = true := nT (by omega);have : decide ((40 : Int) ≤ op) = true := nT (by omega);have : decide ((50 : Int) ≤ op) = true := nT (by omega);have : decide ((60 : Int) ≤ op) = true := nT (by omega);have : decide ((70 : Int) ≤ op) = true := nT (by omega);have : decide ((220 : Int) ≤ op) = false := nU (by omega);have : decide ((250 : Int) ≤ op) = false := nU (by omega);have : decide (op ≤ (11 : Int)) = false := nU (by omega);have : decide (op ≤ (25 : Int)) = false := nU (by omega);have : decide (op ≤ (35 : Int)) = false := nU (by omega);have : decide (op ≤ (47 : Int)) = false := nU (by omega);have : decide (op ≤ (54 : Int)) = false := nU (by omega);have : decide (op ≤ (63 : Int)) = false := nU (by omega);have : decide (op ≤ (79 : Int)) = false := nU (by omega);have : decide (op ≤ (225 : Int)) = true := nT (by omega);have : decide (op ≤ (254 : Int)) = true := nT (by omega);have : (op == (81 : Int)) = true := by rw [beq_iff_eq]; omega
  have hR0 : R = ⟨#[100, 101, 102, 101, 114]⟩ := by rw [← HR.o, show op = 81 by omega]; rfl
  subst hR0;go_enter Tryz.func155, Tryz.ntmps155;go_wp2_with fail;go_ret;exact ⟨rfl, Below.refl _ _⟩
 ·skip
  have : decide ((1 : Int) ≤ op) = true := nT (by omega);have : decide ((20 : Int) ≤ op) = true := nT (by omega);have : decide ((30 : Int) ≤ op) = true := nT (by omega);have : decide ((40 : Int) ≤ op) = true := nT (by omega);have : decide ((50 : Int) ≤ op) = true := nT (by omega);have : decide ((60 : Int) ≤ op) = true := nT (by omega);have : decide ((70 : Int) ≤ op) = true := nT (by omega);have : decide ((220 : Int) ≤ op) = false := nU (by omega);have : decide ((250 : Int) ≤ op) = false := nU (by omega);have : decide (op ≤ (11 : Int)) = false := nU (by omega);have : decide (op ≤ (25 : Int)) = false := nU (by omega);have : decide (op ≤ (35 : Int)) = false := nU (by omega);have : decide (op ≤ (47 : Int)) = false := nU (by omega);have : decide (op ≤ (54 : Int)) = false := nU (by omega);have : decide (op ≤ (63 : Int)) = false := nU (by omega);have : decide (op ≤ (79 : Int)) = false := nU (by omega);have : decide (op ≤ (225 : Int)) = true := nT (by omega);have : decide (op ≤ (254 : Int)) = true := nT (by omega);have : (op == (81 : Int)) = false := by rw [nH]; omega
  have hR0 : R = ⟨#[]⟩ := by rw [← HR.o, Zcp (by omega)]
  subst hR0;go_enter Tryz.func155, Tryz.ntmps155;go_wp2_with fail;go_ret;exact ⟨rfl, Below.refl _ _⟩
 ·skip
  have : decide ((1 : Int) ≤ op) = true := nT (by omega);have : decide ((20 : Int) ≤ op) = true := nT (by omega);have : decide ((30 : Int) ≤ op) = true := nT (by omega);have : decide ((40 : Int) ≤ op) = true := nT (by omega);have : decide ((50 : Int) ≤ op) = true := nT (by omega);have : decide ((60 : Int) ≤ op) = true := nT (by omega);have : decide ((70 : Int) ≤ op) = true := nT (by omega);have : decide ((220 : Int) ≤ op) = true := nT (by omega);have : decide ((250 : Int) ≤ op) = false := nU (by omega);have : decide (op ≤ (11 : Int)) = false := nU (by omega);have : decide (op ≤ (25 : Int)) = false := nU (by omega);have : decide (op ≤ (35 : Int)) = false := nU (by omega);have : decide (op ≤ (47 : Int)) = false := nU (by omega);have : decide (op ≤ (54 : Int)) = false := nU (by omega);have : decide (op ≤ (63 : Int)) = false := nU (by omega);have : decide (op ≤ (79 : Int)) = false := nU (by omega);have : decide (op ≤ (225 : Int)) = false := nU (by omega);have : decide (op ≤ (254 : Int)) = true := nT (by omega);have : (op == (81 : Int)) = false := by rw [nH]; omega
  have hR0 : R = ⟨#[]⟩ := by rw [← HR.o, Zcp (by omega)]
  subst hR0;go_enter Tryz.func155, Tryz.ntmps155;go_wp2_with fail;go_ret;exact ⟨rfl, Below.refl _ _⟩
 ·skip
  have : decide ((1 : Int) ≤ op) = true := nT (by omega);have : decide ((20 : Int) ≤ op) = true := nT (by omega);have : decide ((30 : Int) ≤ op) = true := nT (by omega);have : decide ((40 : Int) ≤ op) = true := nT (by omega);have : decide ((50 : Int) ≤ op) = true := nT (by omega);have : decide ((60 : Int) ≤ op) = true := nT (by omega);have : decide ((70 : Int) ≤ op) = true := nT (by omega);have : decide ((220 : Int) ≤ op) = true := nT (by omega);have : decide ((250 : Int) ≤ op) = true := nT (by omega);have : decide (op ≤ (11 : Int)) = false := nU (by omega);have : decide (op ≤ (25 : Int)) = false := nU (by omega);have : decide (op ≤ (35 : Int)) = false := nU (by omega);have : decide (op ≤ (47 : Int)) = false := nU (by omega);have : decide (op ≤ (54 : Int)) = false := nU (by omega);have : decide (op ≤ (63 : Int)) = false := nU (by omega);have : decide (op ≤ (79 : Int)) = false := nU (by omega);have : decide (op ≤ (225 : Int)) = false := nU (by omega);have : decide (op ≤ (254 : Int)) = false := nU (by omega);have : (op == (81 : Int)) = false := by rw [nH]; omega
  have hR0 : R = ⟨#[]⟩ := by rw [← HR.o, Zcp (by omega)]
  subst hR0;go_enter Tryz.func155, Tryz.ntmps155;go_wp2_with fail;go_ret;exact ⟨rfl, Below.refl _ _⟩
theorem Zkh (op : Int) (w : World) (hi : (220 ≤ op ∧ op ≤ 225) ∨ (250 ≤ op ∧ op ≤ 254)) (ht : Spc w) : Calls Tryz.prog 155 #[.int .i64 op] w fun e w' => e = .returned (.string ⟨(opT op).toArray⟩) ∧ Below w.heap.size w w' := by
 obtain ⟨R, hR⟩ : ∃ R, (⟨(opT op).toArray⟩ : ByteArray) = R := ⟨_, rfl⟩;rw [hR];have HR := zh hR;have HT := zh ht;clear hR ht
 rcases hi with hi | hi
 ·skip
  have : decide ((1 : Int) ≤ op) = true := nT (by omega);have : decide ((20 : Int) ≤ op) = true := nT (by omega);have : decide ((30 : Int) ≤ op) = true := nT (by omega);have : decide ((40 : Int) ≤ op) = true := nT (by omega);have : decide ((50 : Int) ≤ op) = true := nT (by omega);have : decide ((60 : Int) ≤ op) = true := nT (by omega);have : decide ((70 : Int) ≤ op) = true := nT (by omega);have : decide ((220 : Int) ≤ op) = true := nT (by omega);have : decide ((250 : Int) ≤ op) = false := nU (by omega);have : decide (op ≤ (11 : Int)) = false := nU (by omega);have : decide (op ≤ (25 : Int)) = false := nU (by omega);have : decide (op ≤ (35 : Int)) = false := nU (by omega);have : decide (op ≤ (47 : Int)) = false := nU (by omega);have : decide (op ≤ (54 : Int)) = false := nU (by omega);have : decide (op ≤ (63 : Int)) = false := nU (by omega);have : decide (op ≤ (79 : Int)) = false := nU (by omega);have : decide (op ≤ (225 : Int)) = true := nT (by omega);have : decide (op ≤ (254 : Int)) = true := nT (by omega);have : (op == (81 : Int)) = false := by rw [nH]; omega
  obtain ⟨k, hk⟩ : ∃ k : Nat, op - 220 = (k : Int) := ⟨(op - 220).toNat, by omega⟩;have hR0 : R = ⟨(opT (op - 200)).toArray⟩ ++ ⟨#[58, 61]⟩ := by
   rw [← HR.o, (Ze8 hk (by omega)).1, (Ze8 hk (by omega)).2]
   apply Zgy
   simp [bl]
  have HC := zh (Zec (op - 200) w (by omega) HT.o);have hsm := Zha (op - 200);obtain ⟨z, hz⟩ : ∃ z, (⟨(opT (op - 200)).toArray⟩ : ByteArray) = z := ⟨_, rfl⟩;have hzs : z.size ≤ 11 := by rw [← hz]; exact hsm
  have hzs' : ¬ (9223372036854775807 : Int) < (z.size : Int) + 2 := by omega
  have hzs2 : ¬ 9223372036854775807 < z.size + 2 := by omega
  rw [hz] at HC hR0;subst hR0;clear hsm hz hk;go_enter Tryz.func155, Tryz.ntmps155;go_wp2_with fail;refine HC.o.mono ?_;rintro e w1 ⟨rfl, hb1⟩;go_wp2_with fail;go_ret;exact ⟨rfl, hb1⟩
 ·skip
  have : decide ((1 : Int) ≤ op) = true := nT (by omega);have : decide ((20 : Int) ≤ op) = true := nT (by omega);have : decide ((30 : Int) ≤ op) = true := nT (by omega);have : decide ((40 : Int) ≤ op) = true := nT (by omega);have : decide ((50 : Int) ≤ op) = true := nT (by omega);have : decide ((60 : Int) ≤ op) = true := nT (by omega);have : decide ((70 : Int) ≤ op) = true := nT (by omega);have : decide ((220 : Int) ≤ op) = true := nT (by omega);have : decide ((250 : Int) ≤ op) = true := nT (by omega);have : decide (op ≤ (11 : Int)) = false := nU (by omega);have : decide (op ≤ (25 : Int)) = false := nU (by omega);have : decide (op ≤ (35 : Int)) = false := nU (by omega);have : decide (op ≤ (47 : Int)) = false := nU (by omega);have : decide (op ≤ (54 : Int)) = false := nU (by omega);have : decide (op ≤ (63 : Int)) = false := nU (by omega);have : decide (op ≤ (79 : Int)) = false := nU (by omega);have : decide (op ≤ (225 : Int)) = false := nU (by omega);have : decide (op ≤ (254 : Int)) = true := nT (by omega);have : (op == (81 : Int)) = false := by rw [nH]; omega
  obtain ⟨k, hk⟩ : ∃ k : Nat, op - 220 = (k : Int) := ⟨(op - 220).toNat, by omega⟩;have hR0 : R = ⟨(opT (op - 200)).toArray⟩ ++ ⟨#[58, 61]⟩ := by
   rw [← HR.o, (Ze8 hk (by omega)).1, (Ze8 hk (by omega)).2]
   apply Zgy
   simp [bl]
  have HC := zh (Zec (op - 200) w (by omega) HT.o);have hsm := Zha (op - 200);obtain ⟨z, hz⟩ : ∃ z, (⟨(opT (op - 200)).toArray⟩ : ByteArray) = z := ⟨_, rfl⟩;have hzs : z.size ≤ 11 := by rw [← hz]; exact hsm
  have hzs' : ¬ (9223372036854775807 : Int) < (z.size : Int) + 2 := by omega
  have hzs2 : ¬ 9223372036854775807 < z.size + 2 := by omega
  rw [hz] at HC hR0;subst hR0;clear hsm hz hk;go_enter Tryz.func155, Tryz.ntmps155;go_wp2_with fail;refine HC.o.mono ?_;rintro e w1 ⟨rfl, hb1⟩;go_wp2_with fail;go_ret;exact ⟨rfl, hb1⟩
theorem Zki (op : Int) (w : World) (ht : Spc w) : Calls Tryz.prog 155 #[.int .i64 op] w fun e w' => e = .returned (.string ⟨(opT op).toArray⟩) ∧ Below w.heap.size w w' := by
 by_cases h : (220 ≤ op ∧ op ≤ 225) ∨ (250 ≤ op ∧ op ≤ 254)
 ·exact Zkh op w h ht
 ·exact Zec op w (by omega) ht
theorem Zos (w : World) : Calls Tryz.prog 145 #[] w fun e w' => e = .returned (.slice (some ⟨w.heap.size, 0, none⟩) 11 11) ∧ w' = w.alloc (Zbf Zjr) := by
 go_enter Tryz.func145, Tryz.ntmps145
 go_wp2
 go_ret;exact ⟨rfl, rfl⟩
theorem Zfb (w : World) : Calls Tryz.prog 146 #[] w fun e w' => e = .returned (.slice (some ⟨w.heap.size, 0, none⟩) 44 44) ∧ w' = w.alloc (Zbf Zgs) := by
 go_enter Tryz.func146, Tryz.ntmps146
 go_wp2
 go_ret;exact ⟨rfl, rfl⟩
theorem Zkj (op : Int) (w : World) : Calls Tryz.prog 184 #[.int .i64 op] w fun e w' => e = .returned (.string ⟨(opT op).toArray⟩) ∧ Below w.heap.size w w' := by
 obtain ⟨R, hR⟩ : ∃ R, (⟨(opT op).toArray⟩ : ByteArray) = R := ⟨_, rfl⟩;rw [hR];have HR := zh hR;clear hR;have hi : (op ≤ 0) ∨ (1 ≤ op ∧ op ≤ 11) ∨ (12 ≤ op ∧ op ≤ 19) ∨ (20 ≤ op ∧ op ≤ 63) ∨ (64 ≤ op ∧ op ≤ 69) ∨ (70 ≤ op ∧ op ≤ 70) ∨ (71 ≤ op ∧ op ≤ 71) ∨ (72 ≤ op ∧ op ≤ 72) ∨ (73 ≤ op ∧ op ≤ 73) ∨ (74 ≤ op ∧ op ≤ 74) ∨ (75 ≤ op ∧ op ≤ 75) ∨ (76 ≤ op ∧ op ≤ 76) ∨ (77 ≤ op ∧ op ≤ 77) ∨ (78 ≤ op ∧ op ≤ 78) ∨ (79 ≤ op ∧ op ≤ 79) ∨ (80 ≤ op ∧ op ≤ 80) ∨ (81 ≤ op ∧ op ≤ 81) ∨ (82 ≤ op ∧ op ≤ 219) ∨ (220 ≤ op ∧ op ≤ 225) ∨ (226 ≤ op ∧ op ≤ 249) ∨ (250 ≤ op ∧ op ≤ 254) ∨ (255 ≤ op) := by omega
 rcases hi with hi | hi | hi | hi | hi | hi | hi | hi | hi | hi | hi | hi | hi | hi | hi | hi | hi | hi | hi | hi | hi | hi
 ·skip
  have : decide ((1 : Int) ≤ op) = false := nU (by omega);have : decide ((20 : Int) ≤ op) = false := nU (by omega);have : decide ((220 : Int) ≤ op) = false := nU (by omega);have : decide ((250 : Int) ≤ op) = false := nU (by omega);have : decide (op ≤ (11 : Int)) = true := nT (by omega);have : decide (op ≤ (225 : Int)) = true := nT (by omega);have : decide (op ≤ (254 : Int)) = true := nT (by omega);have : decide (op < (64 : Int)) = true := nT (by omega);have : (op == (70 : Int)) = false := by rw [nH]; omega
  have : (op == (71 : Int)) = false := by rw [nH]; omega
  have : (op == (72 : Int)) = false := by rw [nH]; omega
  have : (op == (73 : Int)) = false := by rw [nH]; omega
  have : (op == (74 : Int)) = false := by rw [nH]; omega
  have : (op == (75 : Int)) = false := by rw [nH]; omega
  have : (op == (76 : Int)) = false := by rw [nH]; omega
  have : (op == (77 : Int)) = false := by rw [nH]; omega
  have : (op == (78 : Int)) = false := by rw [nH]; omega
  have : (op == (79 : Int)) = false := by rw [nH]; omega
  have : (op == (81 : Int)) = false := by rw [nH]; omega
  have hR0 : R = ⟨#[]⟩ := by rw [← HR.o, Zcp (by omega)]
  subst hR0;go_enter Tryz.func184, Tryz.ntmps184;go_wp2_with fail;go_ret;exact ⟨rfl, Below.refl _ _⟩
 ·skip
  have : decide ((1 : Int) ≤ op) = true := nT (by omega);have : decide ((20 : Int) ≤ op) = false := nU (by omega);have : decide ((220 : Int) ≤ op) = false := nU (by omega);have : decide ((250 : Int) ≤ op) = false := nU (by omega);have : decide (op ≤ (11 : Int)) = true := nT (by omega);have : decide (op ≤ (225 : Int)) = true := nT (by omega);have : decide (op ≤ (254 : Int)) = true := nT (by omega);have : decide (op < (64 : Int)) = true := nT (by omega);have : (op == (70 : Int)) = false := by rw [nH]; omega
  have : (op == (71 : Int)) = false := by rw [nH]; omega
  have : (op == (72 : Int)) = false := by rw [nH]; omega
  have : (op == (73 : Int)) = false := by rw [nH]; omega
  have : (op == (74 : Int)) = false := by rw [nH]; omega
  have : (op == (75 : Int)) = false := by rw [nH]; omega
  have : (op == (76 : Int)) = false := by rw [nH]; omega
  have : (op == (77 : Int)) = false := by rw [nH]; omega
  have : (op == (78 : Int)) = false := by rw [nH]; omega
  have : (op == (79 : Int)) = false := by rw [nH]; omega
  have : (op == (81 : Int)) = false := by rw [nH]; omega
  obtain ⟨k, hk⟩ : ∃ k : Nat, op - 1 = (k : Int) := ⟨(op - 1).toNat, by omega⟩;have hk1 : k < 11 := by omega
  have hk2 : (k : Int) < 11 := by omega
  have hR0 : R = ⟨(Zjr.getD k []).toArray⟩ := by rw [← HR.o, Zt8 hk hk1]
  have e0 := Zcm w Zjr k hk1;rw [← hR0] at e0;obtain ⟨w1, hw1⟩ : ∃ w1, w.alloc (Zbf Zjr) = w1 := ⟨_, rfl⟩;have HW := zh hw1;rw [hw1] at e0;have HB := zh (show Below w.heap.size w w1 by rw [← hw1]; exact (Below.refl _ _).alloc (Nat.le_refl _) _);clear hw1 hR0 HR;go_enter Tryz.func184, Tryz.ntmps184;go_wp2_with fail;refine (Zos w).mono ?_;rintro e w' ⟨rfl, hw'⟩;rw [HW.o] at hw';subst hw';go_wp2_with fail;go_ret;exact ⟨rfl, HB.o⟩
 ·skip
  have : decide ((1 : Int) ≤ op) = true := nT (by omega);have : decide ((20 : Int) ≤ op) = false := nU (by omega);have : decide ((220 : Int) ≤ op) = false := nU (by omega);have : decide ((250 : Int) ≤ op) = false := nU (by omega);have : decide (op ≤ (11 : Int)) = false := nU (by omega);have : decide (op ≤ (225 : Int)) = true := nT (by omega);have : decide (op ≤ (254 : Int)) = true := nT (by omega);have : decide (op < (64 : Int)) = true := nT (by omega);have : (op == (70 : Int)) = false := by rw [nH]; omega
  have : (op == (71 : Int)) = false := by rw [nH]; omega
  have : (op == (72 : Int)) = false := by rw [nH]; omega
  have : (op == (73 : Int)) = false := by rw [nH]; omega
  have : (op == (74 : Int)) = false := by rw [nH]; omega
  have : (op == (75 : Int)) = false := by rw [nH]; omega
  have : (op == (76 : Int)) = false := by rw [nH]; omega
  have : (op == (77 : Int)) = false := by rw [nH]; omega
  have : (op == (78 : Int)) = false := by rw [nH]; omega
  have : (op == (79 : Int)) = false := by rw [nH]; omega
  have : (op == (81 : Int)) = false := by rw [nH]; omega
  have hR0 : R = ⟨#[]⟩ := by rw [← HR.o, Zcp (by omega)]
  subst hR0;go_enter Tryz.func184, Tryz.ntmps184;go_wp2_with fail;go_ret;exact ⟨rfl, Below.refl _ _⟩
 ·skip
  have : decide ((1 : Int) ≤ op) = true := nT (by omega);have : decide ((20 : Int) ≤ op) = true := nT (by omega);have : decide ((220 : Int) ≤ op) = false := nU (by omega);have : decide ((250 : Int) ≤ op) = false := nU (by omega);have : decide (op ≤ (11 : Int)) = false := nU (by omega);have : decide (op ≤ (225 : Int)) = true := nT (by omega);have : decide (op ≤ (254 : Int)) = true := nT (by omega);have : decide (op < (64 : Int)) = true := nT (by omega);have : (op == (70 : Int)) = false := by rw [nH]; omega
  have : (op == (71 : Int)) = false := by rw [nH]; omega
  have : (op == (72 : Int)) = false := by rw [nH]; omega
  have : (op == (73 : Int)) = false := by rw [nH]; omega
  have : (op == (74 : Int)) = false := by rw [nH]; omega
  have : (op == (75 : Int)) = false := by rw [nH]; omega
  have : (op == (76 : Int)) = false := by rw [nH]; omega
  have : (op == (77 : Int)) = false := by rw [nH]; omega
  have : (op == (78 : Int)) = false := by rw [nH]; omega
  have : (op == (79 : Int)) = false := by rw [nH]; omega
  have : (op == (81 : Int)) = false := by rw [nH]; omega
  obtain ⟨k, hk⟩ : ∃ k : Nat, op - 20 = (k : Int) := ⟨(op - 20).toNat, by omega⟩;have hk1 : k < 44 := by omega
  have hk2 : (k : Int) < 44 := by omega
  have hR0 : R = ⟨(Zgs.getD k []).toArray⟩ := by rw [← HR.o, Ztn hk hk1]
  have e0 := Zcm w Zgs k hk1;rw [← hR0] at e0;obtain ⟨w1, hw1⟩ : ∃ w1, w.alloc (Zbf Zgs) = w1 := ⟨_, rfl⟩;have HW := zh hw1;rw [hw1] at e0;have HB := zh (show Below w.heap.size w w1 by rw [← hw1]; exact (Below.refl _ _).alloc (Nat.le_refl _) _);clear hw1 hR0 HR;go_enter Tryz.func184, Tryz.ntmps184;go_wp2_with fail;refine (Zfb w).mono ?_;rintro e w' ⟨rfl, hw'⟩;rw [HW.o] at hw';subst hw';go_wp2_with fail;go_ret;exact ⟨rfl, HB.o⟩
 ·skip
  have : decide ((1 : Int) ≤ op) = true := nT (by omega);have : decide ((20 : Int) ≤ op) = true := nT (by omega);have : decide ((220 : Int) ≤ op) = false := nU (by omega);have : decide ((250 : Int) ≤ op) = false := nU (by omega);have : decide (op ≤ (11 : Int)) = false := nU (by omega);have : decide (op ≤ (225 : Int)) = true := nT (by omega);have : decide (op ≤ (254 : Int)) = true := nT (by omega);have : decide (op < (64 : Int)) = false := nU (by omega);have : (op == (70 : Int)) = false := by rw [nH]; omega
  have : (op == (71 : Int)) = false := by rw [nH]; omega
  have : (op == (72 : Int)) = false := by rw [nH]; omega
  have : (op == (73 : Int)) = false := by rw [nH]; omega
  have : (op == (74 : Int)) = false := by rw [nH]; omega
  have : (op == (75 : Int)) = false := by rw [nH]; omega
  have : (op == (76 : Int)) = false := by rw [nH]; omega
  have : (op == (77 : Int)) = false := by rw [nH]; omega
  have : (op == (78 : Int)) = false := by rw [nH]; omega
  have : (op == (79 : Int)) = false := by rw [nH]; omega
  have : (op == (81 : Int)) = false := by rw [nH]; omega
  have hR0 : R = ⟨#[]⟩ := by rw [← HR.o, Zcp (by omega)]
  subst hR0;go_enter Tryz.func184, Tryz.ntmps184;go_wp2_with fail;go_ret;exact ⟨rfl, Below.refl _ _⟩
 ·skip
  have : decide ((1 : Int) ≤ op) = true := nT (by omega);have : decide ((20 : Int) ≤ op) = true := nT (by omega);have : decide ((220 : Int) ≤ op) = false := nU (by omega);have : decide ((250 : Int) ≤ op) = false := nU (by omega);have : decide (op ≤ (11 : Int)) = false := nU (by omega);have : decide (op ≤ (225 : Int)) = true := nT (by omega);have : decide (op ≤ (254 : Int)) = true := nT (by omega);have : decide (op < (64 : Int)) = false := nU (by omega);have : (op == (70 : Int)) = true := by rw [beq_iff_eq]; omega
  have : (op == (71 : Int)) = false := by rw [nH]; omega
  have : (op == (72 : Int)) = false := by rw [nH]; omega
  have : (op == (73 : Int)) = false := by rw [nH]; omega
  have : (op == (74 : Int)) = false := by rw [nH]; omega
  have : (op == (75 : Int)) = false := by rw [nH]; omega
  have : (op == (76 : Int)) = false := by rw [nH]; omega
  have : (op == (77 : Int)) = false := by rw [nH]; omega
  have : (op == (78 : Int)) = false := by rw [nH]; omega
  have : (op == (79 : Int)) = false := by rw [nH]; omega
  have : (op == (81 : Int)) = false := by rw [nH]; omega
  have hR0 : R = ⟨#[91, 93]⟩ := by rw [← HR.o, show op = 70 by omega]; rfl
  subst hR0;go_enter Tryz.func184, Tryz.ntmps184;go_wp2_with fail;go_ret;exact ⟨rfl, Below.refl _ _⟩
 ·skip
  have : decide ((1 : Int) ≤ op) = true := nT (by omega);have : decide ((20 : Int) ≤ op) = true := nT (by omega);have : decide ((220 : Int) ≤ op) = false := nU (by omega);have : decide ((250 : Int) ≤ op) = false := nU (by omega);have : decide (op ≤ (11 : Int)) = false := nU (by omega);have : decide (op ≤ (225 : Int)) = true := nT (by omega);have : decide (op ≤ (254 : Int)) = true := nT (by omega);have : decide (op < (64 : Int)) = false := nU (by omega);have : (op == (70 : Int)) = false := by rw [nH]; omega
  have : (op == (71 : Int)) = true := by rw [beq_iff_eq]; omega
  have : (op == (72 : Int)) = false := by rw [nH]; omega
  have : (op == (73 : Int)) = false := by rw [nH]; omega
  have : (op == (74 : Int)) = false := by rw [nH]; omega
  have : (op == (75 : Int)) = false := by rw [nH]; omega
  have : (op == (76 : Int)) = false := by rw [nH]; omega
  have : (op == (77 : Int)) = false := by rw [nH]; omega
  have : (op == (78 : Int)) = false := by rw [nH]; omega
  have : (op == (79 : Int)) = false := by rw [nH]; omega
  have : (op == (81 : Int)) = false := by rw [nH]; omega
  have hR0 : R = ⟨#[91, 58, 93]⟩ := by rw [← HR.o, show op = 71 by omega]; rfl
  subst hR0;go_enter Tryz.func184, Tryz.ntmps184;go_wp2_with fail;go_ret;exact ⟨rfl, Below.refl _ _⟩
 ·skip
  have : decide ((1 : Int) ≤ op) = true := nT (by omega);have : decide ((20 : Int) ≤ op) = true := nT (by omega);have : decide ((220 : Int) ≤ op) = false := nU (by omega);have : decide ((250 : Int) ≤ op) = false := nU (by omega);have : decide (op ≤ (11 : Int)) = false := nU (by omega);have : decide (op ≤ (225 : Int)) = true := nT (by omega);have : decide (op ≤ (254 : Int)) = true := nT (by omega);have : decide (op < (64 : Int)) = false := nU (by omega);have : (op == (70 : Int)) = false := by rw [nH]; omega
  have : (op == (71 : Int)) = false := by rw [nH]; omega
  have : (op == (72 : Int)) = true := by rw [beq_iff_eq]; omega
  have : (op == (73 : Int)) = false := by rw [nH]; omega
  have : (op == (74 : Int)) = false := by rw [nH]; omega
  have : (op == (75 : Int)) = false := by rw [nH]; omega
  have : (op == (76 : Int)) = false := by rw [nH]; omega
  have : (op == (77 : Int)) = false := by rw [nH]; omega
  have : (op == (78 : Int)) = false := by rw [nH]; omega
  have : (op == (79 : Int)) = false := by rw [nH]; omega
  have : (op == (81 : Int)) = false := by rw [nH]; omega
  have hR0 : R = ⟨#[116, 111]⟩ := by rw [← HR.o, show op = 72 by omega]; rfl
  subst hR0;go_enter Tryz.func184, Tryz.ntmps184;go_wp2_with fail;go_ret;exact ⟨rfl, Below.refl _ _⟩
 ·skip
  have : decide ((1 : Int) ≤ op) = true := nT (by omega);have : decide ((20 : Int) ≤ op) = true := nT (by omega);have : decide ((220 : Int) ≤ op) = false := nU (by omega);have : decide ((250 : Int) ≤ op) = false := nU (by omega);have : decide (op ≤ (11 : Int)) = false := nU (by omega);have : decide (op ≤ (225 : Int)) = true := nT (by omega);have : decide (op ≤ (254 : Int)) = true := nT (by omega);have : decide (op < (64 : Int)) = false := nU (by omega);have : (op == (70 : Int)) = false := by rw [nH]; omega
  have : (op == (71 : Int)) = false := by rw [nH]; omega
  have : (op == (72 : Int)) = false := by rw [nH]; omega
  have : (op == (73 : Int)) = true := by rw [beq_iff_eq]; omega
  have : (op == (74 : Int)) = false := by rw [nH]; omega
  have : (op == (75 : Int)) = false := by rw [nH]; omega
  have : (op == (76 : Int)) = false := by rw [nH]; omega
  have : (op == (77 : Int)) = false := by rw [nH]; omega
  have : (op == (78 : Int)) = false := by rw [nH]; omega
  have : (op == (79 : Int)) = false := by rw [nH]; omega
  have : (op == (81 : Int)) = false := by rw [nH]; omega
  have hR0 : R = ⟨#[38]⟩ := by rw [← HR.o, show op = 73 by omega]; rfl
  subst hR0;go_enter Tryz.func184, Tryz.ntmps184;go_wp2_with fail;go_ret;exact ⟨rfl, Below.refl _ _⟩
 ·skip
  have : decide ((1 : Int) ≤ op) = true := nT (by omega);have : decide ((20 : Int) ≤ op) = true := nT (by omega);have : decide ((220 : Int) ≤ op) = false := nU (by omega);have : decide ((250 : Int) ≤ op) = false := nU (by omega);have : decide (op ≤ (11 : Int)) = false := nU (by omega);have : decide (op ≤ (225 : Int)) = true := nT (by omega);have : decide (op ≤ (254 : Int)) = true := nT (by omega);have : decide (op < (64 : Int)) = false := nU (by omega);have : (op == (70 : Int)) = false := by rw [nH]; omega
  have : (op == (71 : Int)) = false := by rw [nH]; omega
  have : (op == (72 : Int)) = false := by rw [nH]; omega
  have : (op == (73 : Int)) = false := by rw [nH]; omega
  have : (op == (74 : Int)) = true := by rw [beq_iff_eq]; omega
  have : (op == (75 : Int)) = false := by rw [nH]; omega
  have : (op == (76 : Int)) = false := by rw [nH]; omega
  have : (op == (77 : Int)) = false := by rw [nH]; omega
  have : (op == (78 : Int)) = false := by rw [nH]; omega
  have : (op == (79 : Int)) = false := by rw [nH]; omega
  have : (op == (81 : Int)) = false := by rw [nH]; omega
  have hR0 : R = ⟨#[91, 46, 46, 46, 93]⟩ := by rw [← HR.o, show op = 74 by omega]; rfl
  subst hR0;go_enter Tryz.func184, Tryz.ntmps184;go_wp2_with fail;go_ret;exact ⟨rfl, Below.refl _ _⟩
 ·skip
  have : decide ((1 : Int) ≤ op) = true := nT (by omega);have : decide ((20 : Int) ≤ op) = true := nT (by omega);have : decide ((220 : Int) ≤ op) = false := nU (by omega);have : decide ((250 : Int) ≤ op) = false := nU (by omega);have : decide (op ≤ (11 : Int)) = false := nU (by omega);have : decide (op ≤ (225 : Int)) = true := nT (by omega);have : decide (op ≤ (254 : Int)) = true := nT (by omega);have : decide (op < (64 : Int)) = false := nU (by omega);have : (op == (70 : Int)) = false := by rw [nH]; omega
  have : (op == (71 : Int)) = false := by rw [nH]; omega
  have : (op == (72 : Int)) = false := by rw [nH]; omega
  have : (op == (73 : Int)) = false := by rw [nH]; omega
  have : (op == (74 : Int)) = false := by rw [nH]; omega
  have : (op == (75 : Int)) = true := by rw [beq_iff_eq]; omega
  have : (op == (76 : Int)) = false := by rw [nH]; omega
  have : (op == (77 : Int)) = false := by rw [nH]; omega
  have : (op == (78 : Int)) = false := by rw [nH]; omega
  have : (op == (79 : Int)) = false := by rw [nH]; omega
  have : (op == (81 : Int)) = false := by rw [nH]; omega
  have hR0 : R = ⟨#[63, 63]⟩ := by rw [← HR.o, show op = 75 by omega]; rfl
  subst hR0;go_enter Tryz.func184, Tryz.ntmps184;go_wp2_with fail;go_ret;exact ⟨rfl, Below.refl _ _⟩
 ·skip
  have : decide ((1 : Int) ≤ op) = true := nT (by omega);have : decide ((20 : Int) ≤ op) = true := nT (by omega);have : decide ((220 : Int) ≤ op) = false := nU (by omega);have : decide ((250 : Int) ≤ op) = false := nU (by omega);have : decide (op ≤ (11 : Int)) = false := nU (by omega);have : decide (op ≤ (225 : Int)) = true := nT (by omega);have : decide (op ≤ (254 : Int)) = true := nT (by omega);have : decide (op < (64 : Int)) = false := nU (by omega);have : (op == (70 : Int)) = false := by rw [nH]; omega
  have : (op == (71 : Int)) = false := by rw [nH]; omega
  have : (op == (72 : Int)) = false := by rw [nH]; omega
  have : (op == (73 : Int)) = false := by rw [nH]; omega
  have : (op == (74 : Int)) = false := by rw [nH]; omega
  have : (op == (75 : Int)) = false := by rw [nH]; omega
  have : (op == (76 : Int)) = true := by rw [beq_iff_eq]; omega
  have : (op == (77 : Int)) = false := by rw [nH]; omega
  have : (op == (78 : Int)) = false := by rw [nH]; omega
  have : (op == (79 : Int)) = false := by rw [nH]; omega
  have : (op == (81 : Int)) = false := by rw [nH]; omega
  have hR0 : R = ⟨#[46, 124]⟩ := by rw [← HR.o, show op = 76 by omega]; rfl
  subst hR0;go_enter Tryz.func184, Tryz.ntmps184;go_wp2_with fail;go_ret;exact ⟨rfl, Below.refl _ _⟩
 ·skip
  have : decide ((1 : Int) ≤ op) = true := nT (by omega);have : decide ((20 : Int) ≤ op) = true := nT (by omega);have : decide ((220 : Int) ≤ op) = false := nU (by omega);have : decide ((250 : Int) ≤ op) = false := nU (by omega);have : decide (op ≤ (11 : Int)) = false := nU (by omega);have : decide (op ≤ (225 : Int)) = true := nT (by omega);have : decide (op ≤ (254 : Int)) = true := nT (by omega);have : decide (op < (64 : Int)) = false := nU (by omega);have : (op == (70 : Int)) = false := by rw [nH]; omega
  have : (op == (71 : Int)) = false := by rw [nH]; omega
  have : (op == (72 : Int)) = false := by rw [nH]; omega
  have : (op == (73 : Int)) = false := by rw [nH]; omega
  have : (op == (74 : Int)) = false := by rw [nH]; omega
  have : (op == (75 : Int)) = false := by rw [nH]; omega
  have : (op == (76 : Int)) = false := by rw [nH]; omega
  have : (op == (77 : Int)) = true := by rw [beq_iff_eq]; omega
  have : (op == (78 : Int)) = false := by rw [nH]; omega
  have : (op == (79 : Int)) = false := by rw [nH]; omega
  have : (op == (81 : Int)) = false := by rw [nH]; omega
  have hR0 : R = ⟨#[45, 62]⟩ := by rw [← HR.o, show op = 77 by omega]; rfl
  subst hR0;go_enter Tryz.func184, Tryz.ntmps184;go_wp2_with fail;go_ret;exact ⟨rfl, Below.refl _ _⟩
 ·skip
  have : decide ((1 : Int) ≤ op) = true := nT (by omega);have : decide ((20 : Int) ≤ op) = true := nT (by omega);have : decide ((220 : Int) ≤ op) = false := nU (by omega);have : decide ((250 : Int) ≤ op) = false := nU (by omega);have : decide (op ≤ (11 : Int)) = false := nU (by omega);have : decide (op ≤ (225 : Int)) = true := nT (by omega);have : decide (op ≤ (254 : Int)) = true := nT (by omega);have : decide (op < (64 : Int)) = false := nU (by omega);have : (op == (70 : Int)) = false := by rw [nH]; omega
  have : (op == (71 : Int)) = false := by rw [nH]; omega
  have : (op == (72 : Int)) = false := by rw [nH]; omega
  have : (op == (73 : Int)) = false := by rw [nH]; omega
  have : (op == (74 : Int)) = false := by rw [nH]; omega
  have : (op == (75 : Int)) = false := by rw [nH]; omega
  have : (op == (76 : Int)) = false := by rw [nH]; omega
  have : (op == (77 : Int)) = false := by rw [nH]; omega
  have : (op == (78 : Int)) = true := by rw [beq_iff_eq]; omega
  have : (op == (79 : Int)) = false := by rw [nH]; omega
  have : (op == (81 : Int)) = false := by rw [nH]; omega
  have hR0 : R = ⟨#[61, 62]⟩ := by rw [← HR.o, show op = 78 by omega]; rfl
  subst hR0;go_enter Tryz.func184, Tryz.ntmps184;go_wp2_with fail;go_ret;exact ⟨rfl, Below.refl _ _⟩
 ·skip
  have : decide ((1 : Int) ≤ op) = true := nT (by omega);have : decide ((20 : Int) ≤ op) = true := nT (by omega);have : decide ((220 : Int) ≤ op) = false := nU (by omega);have : decide ((250 : Int) ≤ op) = false := nU (by omega);have : decide (op ≤ (11 : Int)) = false := nU (by omega);have : decide (op ≤ (225 : Int)) = true := nT (by omega);have : decide (op ≤ (254 : Int)) = true := nT (by omega);have : decide (op < (64 : Int)) = false := nU (by omega);have : (op == (70 : Int)) = false := by rw [nH]; omega
  have : (op == (71 : Int)) = false := by rw [nH]; omega
  have : (op == (72 : Int)) = false := by rw [nH]; omega
  have : (op == (73 : Int)) = false := by rw [nH]; omega
  have : (op == (74 : Int)) = false := by rw [nH]; omega
  have : (op == (75 : Int)) = false := by rw [nH]; omega
  have : (op == (76 : Int)) = false := by rw [nH]; omega
  have : (op == (77 : Int)) = false := by rw [nH]; omega
  have : (op == (78 : Int)) = false := by rw [nH]; omega
  have : (op == (79 : Int)) = true := by rw [beq_iff_eq]; omega
  have : (op == (81 : Int)) = false := by rw [nH]; omega
  have hR0 : R = ⟨#[102, 105, 101, 108, 100]⟩ := by rw [← HR.o, show op = 79 by omega]; rfl
  subst hR0;go_enter Tryz.func184, Tryz.ntmps184;go_wp2_with fail;go_ret;exact ⟨rfl, Below.refl _ _⟩
 ·skip
  have : decide ((1 : Int) ≤ op) = true := nT (by omega);have : decide ((20 : Int) ≤ op) = true := nT (by omega);have : decide ((220 : Int) ≤ op) = false := nU (by omega);have : decide ((250 : Int) ≤ op) = false := nU (by omega);have : decide (op ≤ (11 : Int)) = false := nU (by omega);have : decide (op ≤ (225 : Int)) = true := nT (by omega);have : decide (op ≤ (254 : Int)) = true := nT (by omega);have : decide (op < (64 : Int)) = false := nU (by omega);have : (op == (70 : Int)) = false := by rw [nH]; omega
  have : (op == (71 : Int)) = false := by rw [nH]; omega
  have : (op == (72 : Int)) = false := by rw [nH]; omega
  have : (op == (73 : Int)) = false := by rw [nH]; omega
  have : (op == (74 : Int)) = false := by rw [nH]; omega
  have : (op == (75 : Int)) = false := by rw [nH]; omega
  have : (op == (76 : Int)) = false := by rw [nH]; omega
  have : (op == (77 : Int)) = false := by rw [nH]; omega
  have : (op == (78 : Int)) = false := by rw [nH]; omega
  have : (op == (79 : Int)) = false := by rw [nH]; omega
  have : (op == (81 : Int)) = false := by rw [nH]; omega
  have hR0 : R = ⟨#[]⟩ := by rw [← HR.o, Zcp (by omega)]
  subst hR0;go_enter Tryz.func184, Tryz.ntmps184;go_wp2_with fail;go_ret;exact ⟨rfl, Below.refl _ _⟩
 ·skip
  have : decide ((1 : Int) ≤ op) = true := nT (by omega);have : decide ((20 : Int) ≤ op) = true := nT (by omega);have : decide ((220 : Int) ≤ op) = false := nU (by omega);have : decide ((250 : Int) ≤ op) = false := nU (by omega);have : decide (op ≤ (11 : Int)) = false := nU (by omega);have : decide (op ≤ (225 : Int)) = true := nT (by omega);have : decide (op ≤ (254 : Int)) = true := nT (by omega);have : decide (op < (64 : Int)) = false := nU (by omega);have : (op == (70 : Int)) = false := by rw [nH]; omega
  have : (op == (71 : Int)) = false := by rw [nH]; omega
  have : (op == (72 : Int)) = false := by rw [nH]; omega
  have : (op == (73 : Int)) = false := by rw [nH]; omega
  have : (op == (74 : Int)) = false := by rw [nH]; omega
  have : (op == (75 : Int)) = false := by rw [nH]; omega
  have : (op == (76 : Int)) = false := by rw [nH]; omega
  have : (op == (77 : Int)) = false := by rw [nH]; omega
  have : (op == (78 : Int)) = false := by rw [nH]; omega
  have : (op == (79 : Int)) = false := by rw [nH]; omega
  have : (op == (81 : Int)) = true := by rw [beq_iff_eq]; omega
  have hR0 : R = ⟨#[100, 101, 102, 101, 114]⟩ := by rw [← HR.o, show op = 81 by omega]; rfl
  subst hR0;go_enter Tryz.func184, Tryz.ntmps184;go_wp2_with fail;go_ret;exact ⟨rfl, Below.refl _ _⟩
 ·skip
  have : decide ((1 : Int) ≤ op) = true := nT (by omega);have : decide ((20 : Int) ≤ op) = true := nT (by omega);have : decide ((220 : Int) ≤ op) = false := nU (by omega);have : decide ((250 : Int) ≤ op) = false := nU (by omega);have : decide (op ≤ (11 : Int)) = false := nU (by omega);have : decide (op ≤ (225 : Int)) = true := nT (by omega);have : decide (op ≤ (254 : Int)) = true := nT (by omega);have : decide (op < (64 : Int)) = false := nU (by omega);have : (op == (70 : Int)) = false := by rw [nH]; omega
  have : (op == (71 : Int)) = false := by rw [nH]; omega
  have : (op == (72 : Int)) = false := by rw [nH]; omega
  have : (op == (73 : Int)) = false := by rw [nH]; omega
  have : (op == (74 : Int)) = false := by rw [nH]; omega
  have : (op == (75 : Int)) = false := by rw [nH]; omega
  have : (op == (76 : Int)) = false := by rw [nH]; omega
  have : (op == (77 : Int)) = false := by rw [nH]; omega
  have : (op == (78 : Int)) = false := by rw [nH]; omega
  have : (op == (79 : Int)) = false := by rw [nH]; omega
  have : (op == (81 : Int)) = false := by rw [nH]; omega
  have hR0 : R = ⟨#[]⟩ := by rw [← HR.o, Zcp (by omega)]
  subst hR0;go_enter Tryz.func184, Tryz.ntmps184;go_wp2_with fail;go_ret;exact ⟨rfl, Below.refl _ _⟩
 ·skip
  have : decide ((1 : Int) ≤ op) = true := nT (by omega);have : decide ((20 : Int) ≤ op) = true := nT (by omega);have : decide ((220 : Int) ≤ op) = true := nT (by omega);have : decide ((250 : Int) ≤ op) = false := nU (by omega);have : decide (op ≤ (11 : Int)) = false := nU (by omega);have : decide (op ≤ (225 : Int)) = true := nT (by omega);have : decide (op ≤ (254 : Int)) = true := nT (by omega);have : decide (op < (64 : Int)) = false := nU (by omega);have : (op == (70 : Int)) = false := by rw [nH]; omega
  have : (op == (71 : Int)) = false := by rw [nH]; omega
  have : (op == (72 : Int)) = false := by rw [nH]; omega
  have : (op == (73 : Int)) = false := by rw [nH]; omega
  have : (op == (74 : Int)) = false := by rw [nH]; omega
  have : (op == (75 : Int)) = false := by rw [nH]; omega
  have : (op == (76 : Int)) = false := by rw [nH]; omega
  have : (op == (77 : Int)) = false := by rw [nH]; omega
  have : (op == (78 : Int)) = false := by rw [nH]; omega
  have : (op == (79 : Int)) = false := by rw [nH]; omega
  have : (op == (81 : Int)) = false := by rw [nH]; omega
  obtain ⟨k, hk⟩ : ∃ k : Nat, op - 220 = (k : Int) := ⟨(op - 220).toNat, by omega⟩;have hk1 : k < 44 := by omega
  have hk2 : (k : Int) < 44 := by omega
  have e0 := Zcm w Zgs k hk1;have hR0 : R = ⟨(Zgs.getD k []).toArray⟩ ++ ⟨#[58, 61]⟩ := by
   rw [← HR.o, (Ze8 hk (by omega)).1]
   apply Zgy
   simp [bl]
  have hsm := Zha (op - 200);rw [(Ze8 hk (by omega)).2] at hsm;obtain ⟨z, hz⟩ : ∃ z, (⟨(Zgs.getD k []).toArray⟩ : ByteArray) = z := ⟨_, rfl⟩;have hzs : z.size ≤ 11 := by rw [← hz]; exact hsm
  have hzs' : ¬ (9223372036854775807 : Int) < (z.size : Int) + 2 := by omega
  have hzs2 : ¬ 9223372036854775807 < z.size + 2 := by omega
  rw [hz] at e0 hR0;subst hR0;clear hsm hz;obtain ⟨w1, hw1⟩ : ∃ w1, w.alloc (Zbf Zgs) = w1 := ⟨_, rfl⟩;have HW := zh hw1;rw [hw1] at e0;have HB := zh (show Below w.heap.size w w1 by rw [← hw1]; exact (Below.refl _ _).alloc (Nat.le_refl _) _);clear hw1 HR;go_enter Tryz.func184, Tryz.ntmps184;go_wp2_with fail;refine (Zfb w).mono ?_;rintro e w' ⟨rfl, hw'⟩;rw [HW.o] at hw';subst hw';go_wp2_with fail;go_ret;exact ⟨rfl, HB.o⟩
 ·skip
  have : decide ((1 : Int) ≤ op) = true := nT (by omega);have : decide ((20 : Int) ≤ op) = true := nT (by omega);have : decide ((220 : Int) ≤ op) = true := nT (by omega);have : decide ((250 : Int) ≤ op) = false := nU (by omega);have : decide (op ≤ (11 : Int)) = false := nU (by omega);have : decide (op ≤ (225 : Int)) = false := nU (by omega);have : decide (op ≤ (254 : Int)) = true := nT (by omega);have : decide (op < (64 : Int)) = false := nU (by omega);have : (op == (70 : Int)) = false := by rw [nH]; omega
  have : (op == (71 : Int)) = false := by rw [nH]; omega
  have : (op == (72 : Int)) = false := by rw [nH]; omega
  have : (op == (73 : Int)) = false := by rw [nH]; omega
  have : (op == (74 : Int)) = false := by rw [nH]; omega
  have : (op == (75 : Int)) = false := by rw [nH]; omega
  have : (op == (76 : Int)) = false := by rw [nH]; omega
  have : (op == (77 : Int)) = false := by rw [nH]; omega
  have : (op == (78 : Int)) = false := by rw [nH]; omega
  have : (op == (79 : Int)) = false := by rw [nH]; omega
  have : (op == (81 : Int)) = false := by rw [nH]; omega
  have hR0 : R = ⟨#[]⟩ := by rw [← HR.o, Zcp (by omega)]
  subst hR0;go_enter Tryz.func184, Tryz.ntmps184;go_wp2_with fail;go_ret;exact ⟨rfl, Below.refl _ _⟩
 ·skip
  have : decide ((1 : Int) ≤ op) = true := nT (by omega);have : decide ((20 : Int) ≤ op) = true := nT (by omega);have : decide ((220 : Int) ≤ op) = true := nT (by omega);have : decide ((250 : Int) ≤ op) = true := nT (by omega);have : decide (op ≤ (11 : Int)) = false := nU (by omega);have : decide (op ≤ (225 : Int)) = false := nU (by omega);have : decide (op ≤ (254 : Int)) = true := nT (by omega);have : decide (op < (64 : Int)) = false := nU (by omega);have : (op == (70 : Int)) = false := by rw [nH]; omega
  have : (op == (71 : Int)) = false := by rw [nH]; omega
  have : (op == (72 : Int)) = false := by rw [nH]; omega
  have : (op == (73 : Int)) = false := by rw [nH]; omega
  have : (op == (74 : Int)) = false := by rw [nH]; omega
  have : (op == (75 : Int)) = false := by rw [nH]; omega
  have : (op == (76 : Int)) = false := by rw [nH]; omega
  have : (op == (77 : Int)) = false := by rw [nH]; omega
  have : (op == (78 : Int)) = false := by rw [nH]; omega
  have : (op == (79 : Int)) = false := by rw [nH]; omega
  have : (op == (81 : Int)) = false := by rw [nH]; omega
  obtain ⟨k, hk⟩ : ∃ k : Nat, op - 220 = (k : Int) := ⟨(op - 220).toNat, by omega⟩;have hk1 : k < 44 := by omega
  have hk2 : (k : Int) < 44 := by omega
  have e0 := Zcm w Zgs k hk1;have hR0 : R = ⟨(Zgs.getD k []).toArray⟩ ++ ⟨#[58, 61]⟩ := by
   rw [← HR.o, (Ze8 hk (by omega)).1]
   apply Zgy
   simp [bl]
  have hsm := Zha (op - 200);rw [(Ze8 hk (by omega)).2] at hsm;obtain ⟨z, hz⟩ : ∃ z, (⟨(Zgs.getD k []).toArray⟩ : ByteArray) = z := ⟨_, rfl⟩;have hzs : z.size ≤ 11 := by rw [← hz]; exact hsm
  have hzs' : ¬ (9223372036854775807 : Int) < (z.size : Int) + 2 := by omega
  have hzs2 : ¬ 9223372036854775807 < z.size + 2 := by omega
  rw [hz] at e0 hR0;subst hR0;clear hsm hz;obtain ⟨w1, hw1⟩ : ∃ w1, w.alloc (Zbf Zgs) = w1 := ⟨_, rfl⟩;have HW := zh hw1;rw [hw1] at e0;have HB := zh (show Below w.heap.size w w1 by rw [← hw1]; exact (Below.refl _ _).alloc (Nat.le_refl _) _);clear hw1 HR;go_enter Tryz.func184, Tryz.ntmps184;go_wp2_with fail;refine (Zfb w).mono ?_;rintro e w' ⟨rfl, hw'⟩;rw [HW.o] at hw';subst hw';go_wp2_with fail;go_ret;exact ⟨rfl, HB.o⟩
 ·skip
  have : decide ((1 : Int) ≤ op) = true := nT (by omega);have : decide ((20 : Int) ≤ op) = true := nT (by omega);have : decide ((220 : Int) ≤ op) = true := nT (by omega);have : decide ((250 : Int) ≤ op) = true := nT (by omega);have : decide (op ≤ (11 : Int)) = false := nU (by omega);have : decide (op ≤ (225 : Int)) = false := nU (by omega);have : decide (op ≤ (254 : Int)) = false := nU (by omega);have : decide (op < (64 : Int)) = false := nU (by omega);have : (op == (70 : Int)) = false := by rw [nH]; omega
  have : (op == (71 : Int)) = false := by rw [nH]; omega
  have : (op == (72 : Int)) = false := by rw [nH]; omega
  have : (op == (73 : Int)) = false := by rw [nH]; omega
  have : (op == (74 : Int)) = false := by rw [nH]; omega
  have : (op == (75 : Int)) = false := by rw [nH]; omega
  have : (op == (76 : Int)) = false := by rw [nH]; omega
  have : (op == (77 : Int)) = false := by rw [nH]; omega
  have : (op == (78 : Int)) = false := by rw [nH]; omega
  have : (op == (79 : Int)) = false := by rw [nH]; omega
  have : (op == (81 : Int)) = false := by rw [nH]; omega
  have hR0 : R = ⟨#[]⟩ := by rw [← HR.o, Zcp (by omega)]
  subst hR0;go_enter Tryz.func184, Tryz.ntmps184;go_wp2_with fail;go_ret;exact ⟨rfl, Below.refl _ _⟩
end Go.Proofs.YtcmmdchjppaimaaGreatDoor
