/- Part of the walks that the claim stands on. -/
import Derived.Lib.Hide
import Derived.Below
import Derived.Laws.Rows
import Derived.Calls
import Derived.Deep.RegionHeld3
import Derived.Deep.DrawnRows
import Derived.WalkKit
import Derived.ProofKit
import Derived.OpenShut
import Derived.Laws.AppendOwn
import Derived.OwnWalk
import Derived.Test.YtcmmdchjppaimaaGreatDoorChecked
import Derived.Lib.ItoaMem
import Derived.Lib.ItoaLen
import Derived.Lib.Split
import Derived.WalkSpells
import Derived.WalkLawsBesides
import Derived.Outline
import Derived.Test.YtcmmdchjppaimaaGreatDoorShelf
import Derived.Deep.QuietTactic
import Derived.BigQuiet
import Derived.Deep.DeepCutAuto
import Derived.WalkSmall
import Derived.Laws.AppendOwnNone
import Derived.Deep.Upon
set_option maxRecDepth 1000000
set_option maxHeartbeats 40000000
namespace Go.Proofs.YtcmmdchjppaimaaGreatDoor
open Go.RowKit
theorem nD {α : Type} (l : List α) (i : Nat) : l.toArray[i]? = l[i]? := List.getElem?_toArray
theorem yE {α : Type} (a : α) (l : List α) (i : Nat) : (a :: l)[i + 1]? = l[i]? := List.getElem?_cons_succ
theorem yF {α : Type} (a : α) (l : List α) : (a :: l)[0]? = some a := List.getElem?_cons_zero
theorem nH {α : Type} [BEq α] [LawfulBEq α] {a b : α} : (a == b) = false ↔ a ≠ b := beq_eq_false_iff_ne
theorem nI {p : Prop} [Decidable p] : decide p = false ↔ ¬ p := decide_eq_false_iff_not
theorem nJ {p : Prop} [Decidable p] : (decide p = true) = p := decide_eq_true_eq
theorem nT {p : Prop} [Decidable p] (h : p) : decide p = true := decide_eq_true h
theorem nU {p : Prop} [Decidable p] (h : ¬ p) : decide p = false := decide_eq_false h
def Hd (p : Prop) : Prop := p
theorem Hd.o {p : Prop} (h : Hd p) : p := h
theorem zh {p : Prop} (h : p) : Hd p := h
theorem yN : (∀ (l : List Value) (i : Nat) (a : Value), l.toArray.setIfInBounds i a = (l.set i a).toArray) ∧ (∀ (a b : Value) (l : List Value), (a :: l).set 0 b = b :: l) ∧ (∀ (a b : Value) (l : List Value) (n : Nat), (a :: l).set (n + 1) b = a :: l.set n b) ∧ (∀ (a : Act) (d : Tmp) (v : Value), a.put (some d) v = { a with tmps := a.tmps.setIfInBounds d v }) ∧ ∀ (a : Act) (v : Value), a.put none v = a := ⟨fun _ _ _ => List.setIfInBounds_toArray .., fun _ _ _ => rfl, fun _ _ _ _ => rfl, fun _ _ _ => rfl, fun _ _ => rfl⟩
theorem gA {α : Type} (l : List α) (i : Nat) (h : i < l.toArray.size) : l.toArray[i] = l[i]'(by simpa using h) := List.getElem_toArray ..
theorem gB {α : Type} (a : α) (l : List α) (i : Nat) (h : i + 1 < (a :: l).length) : (a :: l)[i + 1] = l[i]'(by simpa using h) := List.getElem_cons_succ ..
theorem gC {α : Type} (a : α) (l : List α) (h : 0 < (a :: l).length) : (a :: l)[0] = a := rfl
theorem lB {w : World} {b : Nat} {o : Obj} (h : w.heap[b]? = some o) : b < w.heap.size := (Array.getElem?_eq_some_iff.1 h).1
theorem zB {u v : World} {b : Nat} {o : Obj} (h : Hd (Below u.heap.size u v)) (k : Hd (u.heap[b]? = some o)) : Hd (v.heap[b]? = some o) := (Below.block h b (lB k)).trans k
theorem yC {u v : World} {b : Nat} {o : Obj} (h : Below u.heap.size u v) (k : Hd (u.heap[b]? = some o)) : Hd (v.heap[b]? = some o) := (Below.block h b (lB k)).trans k
theorem yq {w : World} {g : Nat} {cs : Array Value} {t : TypeId} {fr : Nat × Nat} (h : w.heap[g]? = some (.cells cs t fr)) (j : Nat) : w.cell? ⟨g, j, none⟩ = cs[j]? := cell_of_row w g j cs t fr h
theorem fz {w : World} {g : Nat} {cs : Array Value} {t : TypeId} (h : w.heap[g]? = some (.cells cs t (0, 0))) : ∀ j, w.frozen? ⟨g, j, none⟩ = false := fun j => frozen_of_row w g j cs t h
theorem cz2 {w : World} {g : Nat} {t : TypeId} {fr : Nat × Nat} {r : List Value} {a0 a1 : Value} (h : w.heap[g]? = some (.cells (a0 :: a1 :: r).toArray t fr)) : w.cell? ⟨g, 0, none⟩ = some a0 ∧ w.cell? ⟨g, 1, none⟩ = some a1 := ⟨(cell_of_row w g 0 _ t fr h).trans (by simp), (cell_of_row w g 1 _ t fr h).trans (by simp)⟩
theorem cz3 {w : World} {g : Nat} {t : TypeId} {fr : Nat × Nat} {r : List Value} {a0 a1 a2 : Value} (h : w.heap[g]? = some (.cells (a0 :: a1 :: a2 :: r).toArray t fr)) : w.cell? ⟨g, 0, none⟩ = some a0 ∧ w.cell? ⟨g, 1, none⟩ = some a1 ∧ w.cell? ⟨g, 2, none⟩ = some a2 := ⟨(cell_of_row w g 0 _ t fr h).trans (by simp), (cell_of_row w g 1 _ t fr h).trans (by simp), (cell_of_row w g 2 _ t fr h).trans (by simp)⟩
theorem cz4 {w : World} {g : Nat} {t : TypeId} {fr : Nat × Nat} {r : List Value} {a0 a1 a2 a3 : Value} (h : w.heap[g]? = some (.cells (a0 :: a1 :: a2 :: a3 :: r).toArray t fr)) : w.cell? ⟨g, 0, none⟩ = some a0 ∧ w.cell? ⟨g, 1, none⟩ = some a1 ∧ w.cell? ⟨g, 2, none⟩ = some a2 ∧ w.cell? ⟨g, 3, none⟩ = some a3 := ⟨(cell_of_row w g 0 _ t fr h).trans (by simp), (cell_of_row w g 1 _ t fr h).trans (by simp), (cell_of_row w g 2 _ t fr h).trans (by simp), (cell_of_row w g 3 _ t fr h).trans (by simp)⟩
theorem Z1 {w : World} {g : Nat} {t : TypeId} {fr : Nat × Nat} {r : List Value} {a0 a1 a2 a3 a4 : Value} (h : w.heap[g]? = some (.cells (a0 :: a1 :: a2 :: a3 :: a4 :: r).toArray t fr)) : w.cell? ⟨g, 0, none⟩ = some a0 ∧ w.cell? ⟨g, 1, none⟩ = some a1 ∧ w.cell? ⟨g, 2, none⟩ = some a2 ∧ w.cell? ⟨g, 3, none⟩ = some a3 ∧ w.cell? ⟨g, 4, none⟩ = some a4 := ⟨(cell_of_row w g 0 _ t fr h).trans (by simp), (cell_of_row w g 1 _ t fr h).trans (by simp), (cell_of_row w g 2 _ t fr h).trans (by simp), (cell_of_row w g 3 _ t fr h).trans (by simp), (cell_of_row w g 4 _ t fr h).trans (by simp)⟩
theorem cz6 {w : World} {g : Nat} {t : TypeId} {fr : Nat × Nat} {r : List Value} {a0 a1 a2 a3 a4 a5 : Value} (h : w.heap[g]? = some (.cells (a0 :: a1 :: a2 :: a3 :: a4 :: a5 :: r).toArray t fr)) : w.cell? ⟨g, 0, none⟩ = some a0 ∧ w.cell? ⟨g, 1, none⟩ = some a1 ∧ w.cell? ⟨g, 2, none⟩ = some a2 ∧ w.cell? ⟨g, 3, none⟩ = some a3 ∧ w.cell? ⟨g, 4, none⟩ = some a4 ∧ w.cell? ⟨g, 5, none⟩ = some a5 := ⟨(cell_of_row w g 0 _ t fr h).trans (by simp), (cell_of_row w g 1 _ t fr h).trans (by simp), (cell_of_row w g 2 _ t fr h).trans (by simp), (cell_of_row w g 3 _ t fr h).trans (by simp), (cell_of_row w g 4 _ t fr h).trans (by simp), (cell_of_row w g 5 _ t fr h).trans (by simp)⟩
theorem cz9 {w : World} {g : Nat} {t : TypeId} {fr : Nat × Nat} {r : List Value} {a0 a1 a2 a3 a4 a5 a6 a7 a8 : Value} (h : w.heap[g]? = some (.cells (a0 :: a1 :: a2 :: a3 :: a4 :: a5 :: a6 :: a7 :: a8 :: r).toArray t fr)) : w.cell? ⟨g, 0, none⟩ = some a0 ∧ w.cell? ⟨g, 1, none⟩ = some a1 ∧ w.cell? ⟨g, 2, none⟩ = some a2 ∧ w.cell? ⟨g, 3, none⟩ = some a3 ∧ w.cell? ⟨g, 4, none⟩ = some a4 ∧ w.cell? ⟨g, 5, none⟩ = some a5 ∧ w.cell? ⟨g, 6, none⟩ = some a6 ∧ w.cell? ⟨g, 7, none⟩ = some a7 ∧ w.cell? ⟨g, 8, none⟩ = some a8 := ⟨(cell_of_row w g 0 _ t fr h).trans (by simp), (cell_of_row w g 1 _ t fr h).trans (by simp), (cell_of_row w g 2 _ t fr h).trans (by simp), (cell_of_row w g 3 _ t fr h).trans (by simp), (cell_of_row w g 4 _ t fr h).trans (by simp), (cell_of_row w g 5 _ t fr h).trans (by simp), (cell_of_row w g 6 _ t fr h).trans (by simp), (cell_of_row w g 7 _ t fr h).trans (by simp), (cell_of_row w g 8 _ t fr h).trans (by simp)⟩
section
def Zb (w x : World) : Prop := Below w.heap.size w x
theorem Zb.refl (w : World) : Zb w w := Below.refl _ _
theorem Zb.trans {a b c : World} (h : Zb a b) (k : Zb b c) : Zb a c := Below.trans h (Below.mono k h.size)
theorem Zb.cell {w x : World} (h : Zb w x) : ∀ p : Addr, p.block < w.heap.size → x.cell? p = w.cell? p := fun _ hp => Below.cell h hp
theorem Zb.block {w x : World} (h : Zb w x) : ∀ k, k < w.heap.size → x.heap[k]? = w.heap[k]? := fun k hk => Below.block h k hk
theorem Zb.size {w x : World} (h : Zb w x) : w.heap.size ≤ x.heap.size := Below.size h
theorem Zb.drew {w x : World} (h : Zb w x) : Zb w x.drew := Below.drew h
theorem Zb.alloc {w x : World} (h : Zb w x) (o : Obj) : Zb w (x.alloc o) := Below.alloc h h.size o
theorem al (w : World) (o : Obj) : ∃ x B, Zb w x ∧ x.heap[B]? = some o ∧ w.alloc o = x ∧ w.heap.size = B := ⟨_, _, (Zb.refl _).alloc _, heap_alloc_new w o, rfl, rfl⟩
theorem aN (w : World) (o : Obj) : ∃ x, Zb w x ∧ x.heap[w.heap.size]? = some o ∧ w.alloc o = x := ⟨_, (Zb.refl _).alloc _, heap_alloc_new w o, rfl⟩
section
variable {P : Program} {ops : Array Oper} {Q : Exit → Act → World → Prop} {md : Region.Mode} {tl : Nat → Bool} {S S' : World → Prop}
def Zi8 (md : Region.Mode) (ops : Array Oper) (listed : Array Bool) : Prop :=
 ∀ j o, ops[j]? = some o → listed.getD j false = true → ∀ e ∈ o.after, Region.binds md e = true → listed.getD e.on false = true
def Zqj (md : Region.Mode) (ops : Array Oper) (listed : Array Bool) : Bool :=
 (List.range ops.size).all fun j => !listed.getD j false || match ops[j]? with
  | some o => o.after.all fun e => !Region.binds md e || listed.getD e.on false
  | none => true
theorem Zhi {listed : Array Bool} (h : Zqj md ops listed = true) : Zi8 md ops listed := by
 intro j o ho hl e he hb;have hj : j < ops.size := (Array.getElem?_eq_some_iff.1 ho).1;have h1 := List.all_eq_true.1 h j (List.mem_range.2 hj);simp only [ho, hl, Bool.not_true, Bool.false_or] at h1;have h2 := Array.all_eq_true_iff_forall_mem.1 h1 e he
 simpa [hb] using h2
theorem Zh1 {listed : Array Bool} {j : Nat} (h : Zi8 md ops listed) (hj : j ∈ Region.ready md ops listed) : Zi8 md ops (listed.setIfInBounds j true) := by
 intro k o ho hl e he hb;obtain ⟨_, oj, hoj, hall⟩ := mem_ready.1 hj
 by_cases hjk : j = k
 ·subst hjk;rw [hoj] at ho
  cases ho
  exact getD_set_true (hall e he hb)
 ·rw [getD_set_ne false hjk] at hl;exact getD_set_true (h k o ho hl e he hb)
def Zjz (md : Region.Mode) (ops : Array Oper) : Nat → Nat → Nat → Bool
 | 0, _, _ => false
 | f + 1, j, i => match ops[j]? with
  | some o => o.after.any fun e => Region.binds md e && (e.on == i || Zjz md ops f e.on i)
  | none => false
theorem Zev {listed : Array Bool} (hc : Zi8 md ops listed) : ∀ (f j i : Nat) (o : Oper), ops[j]? = some o → (∀ e ∈ o.after, Region.binds md e = true → listed.getD e.on false = true) →
  Zjz md ops f j i = true → listed.getD i false = true
 | 0, _, _, _, _, _, h => by simp [Zjz] at h
 | f + 1, j, i, o, ho, hall, h => by
  simp only [Zjz, ho] at h;obtain ⟨e, he, h1⟩ := Array.any_eq_true'.1 h;simp only [Bool.and_eq_true, Bool.or_eq_true, beq_iff_eq] at h1;obtain ⟨hb, h2⟩ := h1
  rcases h2 with h2 | h2
  ·rw [← h2]; exact hall e he hb
  ·rcases hoe : ops[e.on]? with _ | oe
   ·cases f <;> simp [Zjz, hoe] at h2
   ·exact Zev hc f e.on i oe hoe (hc e.on oe hoe (hall e he hb)) h2
def Zn1 (Q : Exit → Act → World → Prop) (w : World) (K : Act → World → Prop) : Exit → Act → World → Prop
 | .normal, a', w' => Zb w w' ∧ K a' w'
 | e, a', w' => Q e a' w'
def Zga (ops : Array Oper) : List Nat → Array Bool → Bool
 | [], listed => (Region.ready .any ops listed).isEmpty
 | i :: r, listed => (Region.ready .any ops listed == [i]) && Zga ops r (listed.setIfInBounds i true)
end
end
section
structure Zc (F : Nat → Prop) (w x : World) : Prop where
 size : w.heap.size ≤ x.heap.size
 same : ∀ b, F b → b < w.heap.size → x.heap[b]? = w.heap[b]?
theorem Zc.later {F : Nat → Prop} {w x : World} (h : Zb w x) : Zc F w x := ⟨h.size, fun b _ hb => h.block b hb⟩
theorem Zc.trans {F : Nat → Prop} {w x y : World} (h : Zc F w x) (k : Zc F x y) : Zc F w y :=
 ⟨Nat.le_trans h.size k.size, fun b hF hb => (k.same b hF (Nat.lt_of_lt_of_le hb h.size)).trans (h.same b hF hb)⟩
theorem Zc.set {F : Nat → Prop} {w x : World} (h : Zc F w x) {B : Nat} (hB : ¬ F B) (o : Nat) (v : Value) : Zc F w (x.setCell ⟨B, o, none⟩ v) :=
 ⟨Nat.le_trans h.size (Below.setCell (B := 0) (Below.refl 0 x) (p := ⟨B, o, none⟩) (Nat.zero_le _) v).size, fun b hF hb => (Below.heap_setCell _ _ _ _ (fun e => hB (by have e2 : b = B := e; rw [← e2]; exact hF))).trans (h.same b hF hb)⟩
theorem Zc.cell {F : Nat → Prop} {w x : World} (h : Zc F w x) {b o : Nat} (hF : F b) (hb : b < w.heap.size) : x.cell? ⟨b, o, none⟩ = w.cell? ⟨b, o, none⟩ := World.cell?_of_block (w := w) (h.same b hF hb)
abbrev Zaj (α : Type) := (Nat → Prop) → World → α → List Value → Prop
structure Zbf {α : Type} (El : Zaj α) (size : Nat) : Prop where
 len : ∀ {F w a cs}, El F w a cs → cs.length = size
 keep : ∀ {F G : Nat → Prop} {w x a cs}, El F w a cs → (∀ b, F b → G b) → Zc F w x → El G x a cs
def Zq {α : Type} (El : Zaj α) (size : Nat) (F : Nat → Prop) (w : World) (l : List α) (v : Value) : Prop :=
 ∃ A c, v = .slice A l.length c ∧ l.length ≤ c ∧ c ≤ maxLen ∧ ∀ i (h : i < l.length), ∃ b o cs, A = some ⟨b, o, none⟩ ∧ F b ∧ b < w.heap.size ∧ El F w l[i] cs ∧ ∀ j x, cs[j]? = some x → w.cell? ⟨b, o + i * size + j, none⟩ = some x
def Zxa {α : Type} (El : Zaj α) (size : Nat) : Zaj (List α) := fun F w l cs => ∃ v, cs = [v] ∧ Zq El size F w l v
def Zy (n : Int) : Prop := -9223372036854775808 ≤ n ∧ n ≤ 9223372036854775807
def Zah : Zaj ByteArray := fun _ _ s cs => cs = [.string s] ∧ s.size ≤ maxLen
def Zyu : Zaj Int := fun _ _ n cs => cs = [.int .i64 n] ∧ Zy n
section
variable {α : Type} {El : Zaj α} {size : Nat} {F G : Nat → Prop} {w x : World} {l : List α} {v : Value}
theorem Zq.keep (hE : Zbf El size) (h : Zq El size F w l v) (hFG : ∀ b, F b → G b) (hk : Zc F w x) : Zq El size G x l v := by
 obtain ⟨A, c, rfl, h1, h2, h3⟩ := h;refine ⟨A, c, rfl, h1, h2, fun i hi => ?_⟩;obtain ⟨b, o, cs, e, hF, hb, hel, hc⟩ := h3 i hi;exact ⟨b, o, cs, e, hFG b hF, Nat.lt_of_lt_of_le hb hk.size, hE.keep hel hFG hk, fun j y hy => (hk.cell hF hb).trans (hc j y hy)⟩
theorem Zq.later (hE : Zbf El size) (h : Zq El size F w l v) (hl : Zb w x) : Zq El size F x l v := h.keep hE (fun _ hb => hb) (Zc.later hl)
theorem Zq.nil (El : Zaj α) (size : Nat) (F : Nat → Prop) (w : World) : Zq El size F w ([] : List α) (.slice none 0 0) := ⟨none, 0, rfl, Nat.le_refl _, Nat.zero_le _, fun i h => by simp at h⟩
end
theorem Zg : Zbf Zah 1 where
 len := fun h => by rw [h.1]; rfl
 keep := fun h _ _ => h
/-! ### Many cells written -/
def Zb3 (w : World) (B : Nat) : Nat → List Value → World
 | _, [] => w
 | o, v :: vs => Zb3 (w.setCell ⟨B, o, none⟩ v) B (o + 1) vs
theorem Z0 {w : World} {M o : Nat} {cur : Array Value} {T : TypeId} (h : w.heap[M]? = some (.cells cur T (0, 0))) (u : Value) :
  (w.setCell ⟨M, o, none⟩ u).heap[M]? = some (.cells (cur.setIfInBounds o u) T (0, 0)) := by
 simp only [World.setCell];rw [Array.getElem?_modify];simp [h]
theorem Zgu {B : Nat} {T : TypeId} : ∀ (vs : List Value) (w : World) (o : Nat) (cur : Array Value), w.heap[B]? = some (.cells cur T (0, 0)) → o + vs.length ≤ cur.size →
  ∃ cur', (Zb3 w B o vs).heap[B]? = some (.cells cur' T (0, 0)) ∧ cur'.size = cur.size ∧ (∀ p, (p < o ∨ o + vs.length ≤ p) → cur'[p]? = cur[p]?) ∧ ∀ q y, vs[q]? = some y → cur'[o + q]? = some y
 | [], w, o, cur, h, _ => ⟨cur, h, rfl, fun _ _ => rfl, fun q y hq => by simp at hq⟩
 | v :: vs, w, o, cur, h, hs => by
  simp only [List.length_cons] at hs;obtain ⟨cur', h1, h2, h3, h4⟩ := Zgu vs (w.setCell ⟨B, o, none⟩ v) (o + 1) (cur.setIfInBounds o v) (Z0 h v) (by simp; omega);refine ⟨cur', h1, by rw [h2]; simp, fun p hp => ?_, fun q y hq => ?_⟩
  ·simp only [List.length_cons] at hp;rw [h3 p (by omega), Array.getElem?_setIfInBounds_ne (by omega)]
  ·cases q with
   | zero =>
    obtain rfl : v = y := by simpa using hq
    rw [Nat.add_zero, h3 o (by omega), Array.getElem?_setIfInBounds_self_of_lt (by omega)]
   | succ q => rw [show o + (q + 1) = o + 1 + q by omega]; exact h4 q y (by simpa using hq)
theorem Zbw {b B : Nat} {a : World} (hB : b ≤ B) : ∀ (vs : List Value) (w : World) (o : Nat), Below b a w → Below b a (Zb3 w B o vs)
 | [], _, _, h => h
 | v :: vs, w, o, h => Zbw hB vs _ _ (h.setCell hB v)
theorem Zca {F : Nat → Prop} {B : Nat} {w : World} (hB : ¬ F B) : ∀ (vs : List Value) (x : World) (o : Nat), Zc F w x → Zc F w (Zb3 x B o vs)
 | [], _, _, h => h
 | v :: vs, x, o, h => Zca hB vs _ _ (h.set hB o v)
/-! ### A row that is being made -/
section
variable {α : Type} {El : Zaj α} {size : Nat} {T : TypeId} {B : Nat} {F G : Nat → Prop} {w x : World} {l : List α}
end
/-! ### How much there is -/
def Zct (n : Nat) (l : Int) : Int := if (n : Int) ≤ l then l - n else -1
theorem Zar {n : Nat} {l : Int} (h : (n : Int) ≤ l) : Zct n l = l - n := by unfold Zct; rw [if_pos h]
theorem Zaa {n : Nat} {l : Int} (h : l < n) : Zct n l = -1 := by unfold Zct; rw [if_neg (by omega)]
theorem Zu {m n : Int} (h : m = n) : Ending.returned (Value.int .i64 m) = Ending.returned (Value.int .i64 n) := by rw [h]
def Za2 {α : Type} (sz : α → Nat) : List α → Nat
 | [] => 0
 | a :: l => sz a + Za2 sz l
def Zp {α : Type} (sz : α → Nat) (l : List α) : Nat := l.length + Za2 sz l
theorem Zff {α : Type} (sz : α → Nat) : ∀ (l : List α) (j : Nat) (h : j < l.length), Za2 sz (l.take (j + 1)) = Za2 sz (l.take j) + sz l[j]
 | a :: l, 0, _ => by simp [Za2]
 | a :: l, j + 1, h => by
  have := Zff sz l j (by simpa using h);simp only [List.take_succ_cons, Za2, List.getElem_cons_succ]
  omega
theorem Zgv {α : Type} (sz : α → Nat) : ∀ (l : List α) (j : Nat), Za2 sz (l.take j) ≤ Za2 sz l
 | [], j => by simp [Za2]
 | a :: l, 0 => by simp [Za2]
 | a :: l, j + 1 => by
  have := Zgv sz l j;simp only [List.take_succ_cons, Za2]
  omega
theorem Zd9 {α : Type} (sz : α → Nat) : ∀ (l : List α) (a : α), a ∈ l → sz a ≤ Za2 sz l
 | b :: l, a, h => by
  simp only [Za2]
  rcases List.mem_cons.1 h with rfl | h
  ·omega
  ·have := Zd9 sz l a h; omega
end
section
structure Zcp {α : Type} (S El : Zaj α) (size : Nat) : Prop where
 is : Zbf S size
 el : ∀ {F w a cs}, S F w a cs → El F w a cs
 trim : ∀ {F w a cs}, S F w a cs → S (fun b => F b ∧ b < w.heap.size) w a cs
def Zz {α : Type} (S : Zaj α) (size : Nat) (T : TypeId) (F : Nat → Prop) (w : World) (l : List α) (v : Value) : Prop :=
 ∃ A c, v = .slice A l.length c ∧ l.length ≤ c ∧ c ≤ maxLen ∧ (0 < c → ∃ (b o : Nat) (cur : Array Value) (tag : Nat → Nat), A = some ⟨b, o, none⟩ ∧ F b ∧ w.heap[b]? = some (.cells cur T (0, 0)) ∧ (o = 0 ∧ o + c * size ≤ cur.size) ∧
  ∀ i (h : i < l.length), ∃ cs, S (fun x => (F x ∧ x ≠ b) ∧ tag x = i) w l[i] cs ∧ ∀ j x, cs[j]? = some x → cur[o + i * size + j]? = some x)
section
variable {α : Type} {S El : Zaj α} {size : Nat} {T : TypeId} {F G : Nat → Prop} {w x : World} {l : List α} {v : Value}
theorem Za {w : World} {b : Nat} {o : Obj} (h : w.heap[b]? = some o) : b < w.heap.size := (Array.getElem?_eq_some_iff.1 h).1
theorem Zc.mono {F G : Nat → Prop} {w x : World} (h : Zc F w x) (hFG : ∀ b, G b → F b) : Zc G w x := ⟨h.size, fun b hb hl => h.same b (hFG b hb) hl⟩
theorem Zc.refl (F : Nat → Prop) (w : World) : Zc F w w := ⟨Nat.le_refl _, fun _ _ _ => rfl⟩
theorem Zz.nil (S : Zaj α) (size : Nat) (T : TypeId) (F : Nat → Prop) (w : World) : Zz S size T F w ([] : List α) (.slice none 0 0) := ⟨none, 0, rfl, Nat.le_refl _, Nat.zero_le _, fun h => by simp at h⟩
theorem Zz.keep (hE : Zbf S size) (h : Zz S size T F w l v) (hFG : ∀ b, F b → G b) (hk : Zc F w x) : Zz S size T G x l v := by
 obtain ⟨A, c, rfl, h1, h2, h3⟩ := h;refine ⟨A, c, rfl, h1, h2, fun hp => ?_⟩;obtain ⟨b, o, cur, tag, e, hF, hb, hcp, hel⟩ := h3 hp;refine ⟨b, o, cur, tag, e, hFG b hF, (hk.same b hF (Za hb)).trans hb, hcp, fun i hi => ?_⟩;obtain ⟨cs, hs, hc⟩ := hel i hi;exact ⟨cs, hE.keep hs (fun y hy => ⟨⟨hFG y hy.1.1, hy.1.2⟩, hy.2⟩) (hk.mono fun y hy => hy.1.1), hc⟩
theorem Zz.later (hE : Zbf S size) (h : Zz S size T F w l v) (hl : Zb w x) : Zz S size T F x l v := h.keep hE (fun _ hb => hb) (Zc.later hl)
theorem Zz.el (hE : Zcp S El size) (h : Zz S size T F w l v) : Zq El size F w l v := by
 obtain ⟨A, c, rfl, h1, h2, h3⟩ := h;refine ⟨A, c, rfl, h1, h2, fun i hi => ?_⟩;obtain ⟨b, o, cur, tag, e, hF, hb, hcp, hel⟩ := h3 (by omega);obtain ⟨cs, hs, hc⟩ := hel i hi;exact ⟨b, o, cs, e, hF, Za hb, hE.el (hE.is.keep hs (fun y hy => hy.1.1) (Zc.refl _ _)), fun j y hy => (cell_of_row _ _ _ _ _ _ hb).trans (hc j y hy)⟩
theorem Zz.trim (hE : Zcp S El size) (h : Zz S size T F w l v) : Zz S size T (fun b => F b ∧ b < w.heap.size) w l v := by
 obtain ⟨A, c, rfl, h1, h2, h3⟩ := h;refine ⟨A, c, rfl, h1, h2, fun hp => ?_⟩;obtain ⟨b, o, cur, tag, e, hF, hb, hcp, hel⟩ := h3 hp;refine ⟨b, o, cur, tag, e, ⟨hF, Za hb⟩, hb, hcp, fun i hi => ?_⟩;obtain ⟨cs, hs, hc⟩ := hel i hi;exact ⟨cs, hE.is.keep (hE.trim hs) (fun y hy => ⟨⟨⟨hy.1.1.1, hy.2⟩, hy.1.1.2⟩, hy.1.2⟩) (Zc.refl _ _), hc⟩
end
theorem Zvz {α : Type} {El : Zaj α} {size : Nat} (hE : Zbf El size) (hflat : ∀ {F G w a cs}, El F w a cs → El G w a cs) : Zcp El El size := ⟨hE, fun h => h, fun h => hflat h⟩
theorem Zj : Zcp Zah Zah 1 := Zvz Zg fun h => h
theorem Zde {F : Nat → Prop} {B : Nat} {w x : World} (hk : Zc (fun y => ¬ F y) w x) (h0 : Below 0 w x) (hF : ∀ b, F b → B ≤ b) (hB : B ≤ w.heap.size) : Below B w x :=
 ⟨h0.os, h0.tape, h0.output, h0.size, fun k h => hk.same k (fun hf => by have := hF k hf; omega) (by omega)⟩
/-! ### A row that is being made -/
def SMk {α : Type} (S : Zaj α) (size : Nat) (T : TypeId) (B : Nat) (l : List α) (j : Nat) (w : World) : Prop :=
 ∃ (cur : Array Value) (tag : Nat → Nat), w.heap[B]? = some (.cells cur T (0, 0)) ∧ cur.size = l.length * size ∧ ∀ i (h : i < l.length), i < j → ∃ cs, S (fun x => (B < x ∧ x < w.heap.size) ∧ tag x = i) w l[i] cs ∧ ∀ q x, cs[q]? = some x → cur[i * size + q]? = some x
section
variable {α : Type} {S El : Zaj α} {size : Nat} {T : TypeId} {B : Nat} {F G : Nat → Prop} {w x : World} {l : List α}
theorem SMk.start {cur : Array Value} (h : w.heap[B]? = some (.cells cur T (0, 0))) (hs : cur.size = l.length * size) : SMk S size T B l 0 w := ⟨cur, fun _ => 0, h, hs, fun i _ h => by omega⟩
theorem SMk.next {j : Nat} (hE : Zcp S El size) (h : SMk S size T B l j w) (hl : Zb w x) (hj : j < l.length) {cs : List Value} (he : S (fun b => w.heap.size ≤ b) x l[j] cs) : SMk S size T B l (j + 1) (Zb3 x B (j * size) cs) := by
 obtain ⟨cur, tag, hB, hs, hall⟩ := h;have hBw := Za hB;have hBx : x.heap[B]? = some (.cells cur T (0, 0)) := (hl.block B hBw).trans hB;have hlen := hE.is.len he;have hroom : j * size + size ≤ cur.size := by
  have : (j + 1) * size ≤ l.length * size := Nat.mul_le_mul_right _ hj;rw [Nat.add_mul, Nat.one_mul] at this
  omega
 obtain ⟨cur', h1, h2, h3, h4⟩ := Zgu cs x (j * size) cur hBx (by omega);have hkeep : ∀ {F : Nat → Prop}, ¬ F B → Zc F x (Zb3 x B (j * size) cs) := fun hF => Zca hF _ _ _ (Zc.refl _ _);have hsz := (hkeep (F := fun _ => False) (by simp)).size;refine ⟨cur', fun y => if w.heap.size ≤ y then j else tag y, h1, by omega, fun i hi hij => ?_⟩
 by_cases e : i = j
 ·subst e;exact ⟨cs, hE.is.keep (hE.trim he) (fun y hy => ⟨⟨by omega, by omega⟩, by simp [hy.1]⟩) (hkeep (by omega)), h4⟩
 ·obtain ⟨cs0, ha, hb⟩ := hall i hi (by omega);refine ⟨cs0, hE.is.keep ha (fun y hy => ⟨⟨hy.1.1, by have := hl.size; omega⟩, by show (if w.heap.size ≤ y then j else tag y) = i; rw [if_neg (by omega)]; exact hy.2⟩) ((Zc.later hl).trans (hkeep (by omega))), fun q y hq => ?_⟩;have hq' : q < size := by have := hE.is.len ha; have := (List.getElem?_eq_some_iff.1 hq).1; omega
  have : (i + 1) * size ≤ j * size := Nat.mul_le_mul_right _ (by omega);rw [Nat.add_mul, Nat.one_mul] at this;rw [h3 _ (by omega)];exact hb q y hq
theorem SMk.done (hE : Zcp S El size) (h : SMk S size T B l l.length w) (hG : ∀ b, B ≤ b → G b) (hn : l.length ≤ maxLen) : Zz S size T G w l (.slice (some ⟨B, 0, none⟩) l.length l.length) := by
 obtain ⟨cur, tag, hB, hs, hall⟩ := h;refine ⟨_, _, rfl, Nat.le_refl _, hn, fun _ => ⟨B, 0, cur, tag, rfl, hG B (Nat.le_refl _), hB, ⟨rfl, by omega⟩, fun i hi => ?_⟩⟩;obtain ⟨cs, ha, hb⟩ := hall i hi hi;exact ⟨cs, hE.is.keep ha (fun y hy => ⟨⟨hG y (by omega), by omega⟩, hy.2⟩) (Zc.refl _ _), fun q y hq => by rw [Nat.zero_add]; exact hb q y hq⟩
theorem SMk.later {j : Nat} (hE : Zbf S size) (h : SMk S size T B l j w) (hl : Zb w x) : SMk S size T B l j x := by
 obtain ⟨cur, tag, hB, hs, hall⟩ := h;refine ⟨cur, tag, (hl.block B (Za hB)).trans hB, hs, fun i hi hij => ?_⟩;obtain ⟨cs, ha, hb⟩ := hall i hi hij;exact ⟨cs, hE.keep ha (fun y hy => ⟨⟨hy.1.1, by have := hl.size; omega⟩, hy.2⟩) (Zc.later hl), hb⟩
theorem SMk.at_ {j : Nat} (h : SMk S size T B l j w) {k : Nat} (hk : k < l.length) : (∀ q, q < size → ∃ v, w.cell? ⟨B, k * size + q, none⟩ = some v) ∧ ∀ o, w.frozen? ⟨B, o, none⟩ = false := by
 obtain ⟨cur, tag, hB, hs, _⟩ := h;refine ⟨fun q hq => ?_, fun o => frozen_of_row _ _ _ _ _ hB⟩;have : (k + 1) * size ≤ l.length * size := Nat.mul_le_mul_right _ hk;rw [Nat.add_mul, Nat.one_mul] at this;exact ⟨cur[k * size + q]'(by omega), by rw [cell_of_row _ _ _ _ _ _ hB]; exact Array.getElem?_eq_getElem _⟩
theorem SMk.lt {j : Nat} (h : SMk S size T B l j w) : B < w.heap.size := by
 obtain ⟨cur, tag, hB, _⟩ := h;exact Za hB
end
/-! ### A row that is being written over -/
def SAt {α : Type} (S : Zaj α) (size : Nat) (T : TypeId) (F : Nat → Prop) (b o n : Nat) (tag : Nat → Nat) (w : World) (l : List α) : Prop :=
 ∃ cur, w.heap[b]? = some (.cells cur T (0, 0)) ∧ n ≤ cur.size ∧ ∀ i (h : i < l.length), ∃ cs, S (fun x => (F x ∧ x ≠ b) ∧ tag x = i) w l[i] cs ∧ ∀ j x, cs[j]? = some x → cur[o + i * size + j]? = some x
def St (T : TypeId) (b base : Nat) (cur0 : Array Value) (vs : List Value) (w : World) : Prop :=
 ∃ cur, w.heap[b]? = some (.cells cur T (0, 0)) ∧ cur.size = cur0.size ∧ base + vs.length ≤ cur.size ∧ (∀ p, (p < base ∨ base + vs.length ≤ p) → cur[p]? = cur0[p]?) ∧ ∀ q y, vs[q]? = some y → cur[base + q]? = some y
section
variable {α : Type} {S El : Zaj α} {size : Nat} {T : TypeId} {b o n base : Nat} {tag : Nat → Nat} {F G : Nat → Prop} {w x : World} {l : List α} {cur0 : Array Value} {vs : List Value}
theorem St.keep (h : St T b base cur0 vs w) (hk : x.heap[b]? = w.heap[b]?) : St T b base cur0 vs x := by
 obtain ⟨cur, hb, h⟩ := h;exact ⟨cur, hk.trans hb, h⟩
theorem St.lt (h : St T b base cur0 vs w) : b < w.heap.size := by
 obtain ⟨cur, hb, h⟩ := h;exact Za hb
theorem St.set (h : St T b base cur0 vs w) (q : Nat) (hq : q < vs.length) (u : Value) : St T b base cur0 (vs.set q u) (w.setCell ⟨b, base + q, none⟩ u) := by
 obtain ⟨cur, hb, hs, hr, ho, hi⟩ := h;refine ⟨_, Z0 hb u, by simpa using hs, by simpa using hr, fun p hp => ?_, fun q' y hy => ?_⟩
 ·simp only [List.length_set] at hp;rw [Array.getElem?_setIfInBounds_ne (by omega)];exact ho p hp
 ·by_cases e : q = q'
  ·subst e;rw [Array.getElem?_setIfInBounds_self_of_lt (by omega)]
   simpa [hq] using hy
  ·rw [Array.getElem?_setIfInBounds_ne (by omega)];exact hi q' y (by simpa [List.getElem?_set_ne e] using hy)
theorem St.cell (h : St T b base cur0 vs w) {q : Nat} {y : Value} (hy : vs[q]? = some y) : w.cell? ⟨b, base + q, none⟩ = some y := by
 obtain ⟨cur, hb, hs, hr, ho, hi⟩ := h;rw [cell_of_row _ _ _ _ _ _ hb];exact hi q y hy
theorem St.frozen (h : St T b base cur0 vs w) (o : Nat) : w.frozen? ⟨b, o, none⟩ = false := by
 obtain ⟨cur, hb, _⟩ := h;exact frozen_of_row _ _ _ _ _ hb
theorem SAt.open_ (hE : Zbf S size) (h : SAt S size T F b o n tag w l) {i : Nat} (hi : i < l.length) :
  ∃ cur cs, w.heap[b]? = some (.cells cur T (0, 0)) ∧ S (fun x => (F x ∧ x ≠ b) ∧ tag x = i) w l[i] cs ∧ (0 < size → St T b (o + i * size) cur cs w) := by
 obtain ⟨cur, hb, hnc, hall⟩ := h;obtain ⟨cs, hs, hc⟩ := hall i hi;refine ⟨cur, cs, hb, hs, fun h0 => ⟨cur, hb, rfl, ?_, fun _ _ => rfl, hc⟩⟩;have hl := hE.len hs;obtain ⟨q, rfl⟩ : ∃ q, size = q + 1 := ⟨size - 1, by omega⟩;have h1 := hc q _ (List.getElem?_eq_getElem (by omega));have := (Array.getElem?_eq_some_iff.1 h1).1
 omega
theorem SAt.put (hE : Zbf S size) (h : SAt S size T F b o n tag w l) {i : Nat} (hi : i < l.length) {cur : Array Value} (hc : w.heap[b]? = some (.cells cur T (0, 0))) {a : α} {cs : List Value}
  (hst : St T b (o + i * size) cur cs x) (hk : Zc (fun y => (F y ∧ y ≠ b) ∧ tag y ≠ i) w x) (hs : S (fun y => (F y ∧ y ≠ b) ∧ tag y = i) x a cs) : SAt S size T F b o n tag x (l.set i a) := by
 obtain ⟨cur1, hb, hnc, hall⟩ := h;obtain rfl : cur1 = cur := by rw [hb] at hc; cases hc; rfl
 obtain ⟨cur', hb', hsz, hr, ho, hin⟩ := hst;have hlen := hE.len hs;refine ⟨cur', hb', by omega, fun p hp => ?_⟩;simp only [List.length_set] at hp
 by_cases e : i = p
 ·subst e;rw [List.getElem_set_self];exact ⟨cs, hs, hin⟩
 ·rw [List.getElem_set_ne e];obtain ⟨cs0, ha, hcs⟩ := hall p hp;refine ⟨cs0, hE.keep ha (fun _ h => h) (hk.mono fun y hy => ⟨hy.1, fun h => e (h.symm.trans hy.2)⟩), fun q y hq => ?_⟩;have hq' : q < size := by have := hE.len ha; have := (List.getElem?_eq_some_iff.1 hq).1; omega
  rw [ho _ ?_]
  ·exact hcs q y hq
  ·rcases Nat.lt_or_gt_of_ne e with h | h
   ·have : (i + 1) * size ≤ p * size := Nat.mul_le_mul_right _ h;rw [Nat.add_mul, Nat.one_mul] at this
    omega
   ·have : (p + 1) * size ≤ i * size := Nat.mul_le_mul_right _ h;rw [Nat.add_mul, Nat.one_mul] at this
    omega
theorem SAt.row (h : SAt S size T F b o n tag w l) (hF : F b) {c : Nat} (hc : l.length ≤ c) (hm : c ≤ maxLen) (hn : o = 0 ∧ o + c * size ≤ n) : Zz S size T F w l (.slice (some ⟨b, o, none⟩) l.length c) := by
 obtain ⟨cur, hb, hnc, h⟩ := h;exact ⟨_, c, rfl, hc, hm, fun _ => ⟨b, o, cur, tag, rfl, hF, hb, ⟨hn.1, by omega⟩, h⟩⟩
end
/-! ### Marked rows -/
section
variable {α : Type} (mk : α → Int → α) (cnt : α → Nat)
def Zd : List α → Nat
 | [] => 0
 | a :: l => cnt a + Zd l
def Zel : List α → Int → Nat → List α
 | [], _, _ => []
 | a :: l, _, 0 => a :: l
 | a :: l, k, j + 1 => mk a k :: Zel l (k + cnt a) j
def Zbs (l : List α) (k : Int) : List α := Zel mk cnt l k l.length
theorem Zea (l : List α) (k : Int) : Zel mk cnt l k 0 = l := by cases l <;> rfl
theorem Z2 : ∀ (l : List α) (k : Int) (j : Nat), (Zel mk cnt l k j).length = l.length
 | [], _, _ => rfl
 | a :: l, _, 0 => rfl
 | a :: l, k, j + 1 => by simp only [Zel, List.length_cons, Z2 l]
theorem Zbx (l : List α) (k : Int) : (Zbs mk cnt l k).length = l.length := Z2 _ _ _ _ _
theorem Zgb : ∀ (l : List α) (k : Int) (j : Nat) (h : j < l.length), (Zel mk cnt l k j)[j]'(by rw [Z2]; exact h) = l[j]
 | a :: l, _, 0, _ => rfl
 | a :: l, k, j + 1, h => by
  simp only [Zel, List.getElem_cons_succ];exact Zgb l _ j (by simpa using h)
theorem Zeb : ∀ (l : List α) (k : Int) (j : Nat) (h : j < l.length), Zel mk cnt l k (j + 1) = (Zel mk cnt l k j).set j (mk l[j] (k + Zd cnt (l.take j)))
 | a :: l, k, 0, _ => by simp [Zel, Zd, Zea]
 | a :: l, k, j + 1, h => by
  have := Zeb l (k + cnt a) j (by simpa using h);simp only [Zel, List.set_cons_succ, List.getElem_cons_succ, List.take_succ_cons, Zd] at this ⊢;rw [this]
  congr 3
  push_cast
  omega
theorem Zn2 : ∀ (l : List α) (k : Int) (j i : Nat) (h : i < l.length), i < j → (Zel mk cnt l k j)[i]'(by rw [Z2]; exact h) = mk l[i] (k + Zd cnt (l.take i))
 | a :: l, k, j + 1, 0, _, _ => by simp [Zel, Zd]
 | a :: l, k, j + 1, i + 1, h, hj => by
  simp only [Zel, List.getElem_cons_succ, List.take_succ_cons, Zd];rw [Zn2 l _ j i (by simpa using h) (by omega)]
  congr 1
  push_cast
  omega
theorem Zhk (l : List α) (k : Int) (i : Nat) (h : i < l.length) : (Zbs mk cnt l k)[i]'(by rw [Zbx]; exact h) = mk l[i] (k + Zd cnt (l.take i)) := Zn2 _ _ _ _ _ _ h h
theorem Zb0 : ∀ (l : List α) (j : Nat) (h : j < l.length), Zd cnt (l.take (j + 1)) = Zd cnt (l.take j) + cnt l[j]
 | a :: l, 0, _ => by simp [Zd]
 | a :: l, j + 1, h => by
  have := Zb0 l j (by simpa using h);simp only [List.take_succ_cons, Zd, List.getElem_cons_succ]
  omega
theorem Za1 : ∀ (l : List α) (j : Nat), Zd cnt (l.take j) ≤ Zd cnt l
 | [], j => by simp [Zd]
 | a :: l, 0 => by simp [Zd]
 | a :: l, j + 1 => by
  have := Za1 l j;simp only [List.take_succ_cons, Zd]
  omega
end
end
structure Z3 where
 name : ByteArray
 fields : List ByteArray
 line : Int
def Zan : Zaj Z3 := fun F w r cs => ∃ aE, cs = [.string r.name, aE, .int .i64 r.line] ∧ r.name.size ≤ maxLen ∧ Zq Zah 1 F w r.fields aE ∧ Zy r.line
theorem Z4 : Zbf Zan 3 where
 len := fun ⟨_, e, _⟩ => by rw [e]; rfl
 keep := fun ⟨aE, e, h0, h1, h2⟩ hFG hk => ⟨aE, e, h0, h1.keep Zg hFG hk, h2⟩
def Zk (r : Z3) : Nat := r.name.size + (Zp ByteArray.size r.fields)
def Zac : Zaj Z3 := fun F w r cs => ∃ (tag : Nat → Nat) (aE : Value), cs = [.string r.name, aE, .int .i64 r.line] ∧ r.name.size ≤ maxLen ∧ Zz Zah 1 9 (fun y => F y ∧ tag y = 0) w r.fields aE ∧ Zy r.line
theorem Zh : Zcp Zac Zan 3 where
 is := {
  len := fun ⟨_, _, e, _⟩ => by rw [e]; rfl
  keep := fun ⟨tag, aE, e, h0, h1, h2⟩ hFG hk => ⟨tag, aE, e, h0, h1.keep Zj.is (fun y hy => ⟨hFG y hy.1, hy.2⟩) (hk.mono fun y hy => hy.1), h2⟩ }
 el := fun ⟨tag, aE, e, h0, h1, h2⟩ => ⟨aE, e, h0, (h1.el Zj).keep Zg (fun y hy => hy.1) (Zc.refl _ _), h2⟩
 trim := fun ⟨tag, aE, e, h0, h1, h2⟩ => ⟨tag, aE, e, h0, (h1.trim Zj).keep Zj.is (fun y hy => ⟨⟨hy.1.1, hy.2⟩, hy.1.2⟩) (Zc.refl _ _), h2⟩
structure Zf where
 kind : Int
 op : Int
 aB : Int
 line : Int
 text : ByteArray
 kids : List Zf
def Zgc (K : Zaj Zf) : Zaj Zf := fun F w r cs => ∃ vkids, cs = [.int .i64 r.kind, .int .i64 r.op, .int .i64 r.aB, .int .i64 r.line, .string r.text, vkids] ∧ Zy r.kind ∧ Zy r.op ∧ Zy r.aB ∧ Zy r.line ∧ r.text.size ≤ maxLen ∧ Zq K 6 F w r.kids vkids
theorem Zec {K : Zaj Zf} (hK : Zbf K 6) : Zbf (Zgc K) 6 where
 len := fun ⟨_, e, _⟩ => by rw [e]; rfl
 keep := fun ⟨vkids, e, h0, h1, h2, h3, h4, h5⟩ hFG hk => ⟨vkids, e, h0, h1, h2, h3, h4, h5.keep hK hFG hk⟩
def Zk3 (S : Zaj Zf) : Zaj Zf := fun F w r cs => ∃ (tag : Nat → Nat) (vkids : Value), cs = [.int .i64 r.kind, .int .i64 r.op, .int .i64 r.aB, .int .i64 r.line, .string r.text, vkids] ∧ Zy r.kind ∧ Zy r.op ∧ Zy r.aB ∧ Zy r.line ∧ r.text.size ≤ maxLen ∧ Zz S 6 68 (fun y => F y ∧ tag y = 0) w r.kids vkids
theorem Zi9 {S K : Zaj Zf} (hS : Zcp S K 6) (hK : Zbf K 6) : Zcp (Zk3 S) (Zgc K) 6 where
 is := {
  len := fun ⟨_, _, e, _⟩ => by rw [e]; rfl
  keep := fun ⟨tag, vkids, e, h0, h1, h2, h3, h4, h5⟩ hFG hk => ⟨tag, vkids, e, h0, h1, h2, h3, h4, h5.keep hS.is (fun y hy => ⟨hFG y hy.1, hy.2⟩) (hk.mono fun y hy => hy.1)⟩ }
 el := fun ⟨tag, vkids, e, h0, h1, h2, h3, h4, h5⟩ => ⟨vkids, e, h0, h1, h2, h3, h4, (h5.el hS).keep hK (fun y hy => hy.1) (Zc.refl _ _)⟩
 trim := fun ⟨tag, vkids, e, h0, h1, h2, h3, h4, h5⟩ => ⟨tag, vkids, e, h0, h1, h2, h3, h4, (h5.trim hS).keep hS.is (fun y hy => ⟨⟨hy.1.1, hy.2⟩, hy.1.2⟩) (Zc.refl _ _)⟩
structure Zbi where
 name : ByteArray
 params : Int
 slots : List ByteArray
 body : Zf
def Zc9 (K : Zaj Zf) : Zaj Zbi := fun F w r cs => ∃ vslots vbodykids, cs = [.string r.name, .int .i64 r.params, vslots, .int .i64 r.body.kind, .int .i64 r.body.op, .int .i64 r.body.aB, .int .i64 r.body.line, .string r.body.text, vbodykids] ∧ r.name.size ≤ maxLen ∧ Zy r.params ∧ Zq Zah 1 F w r.slots vslots ∧ Zy r.body.kind ∧ Zy r.body.op ∧ Zy r.body.aB ∧ Zy r.body.line ∧ r.body.text.size ≤ maxLen ∧ Zq K 6 F w r.body.kids vbodykids
theorem Zcm {K : Zaj Zf} (hK : Zbf K 6) : Zbf (Zc9 K) 9 where
 len := fun ⟨_, _, e, _⟩ => by rw [e]; rfl
 keep := fun ⟨vslots, vbodykids, e, h0, h1, h2, h3, h4, h5, h6, h7, h8⟩ hFG hk => ⟨vslots, vbodykids, e, h0, h1, h2.keep Zg hFG hk, h3, h4, h5, h6, h7, h8.keep hK hFG hk⟩
def Zb4 (S : Zaj Zf) : Zaj Zbi := fun F w r cs => ∃ (tag : Nat → Nat) (vslots : Value) (vbodykids : Value), cs = [.string r.name, .int .i64 r.params, vslots, .int .i64 r.body.kind, .int .i64 r.body.op, .int .i64 r.body.aB, .int .i64 r.body.line, .string r.body.text, vbodykids] ∧ r.name.size ≤ maxLen ∧ Zy r.params ∧ Zz Zah 1 9 (fun y => F y ∧ tag y = 0) w r.slots vslots ∧ Zy r.body.kind ∧ Zy r.body.op ∧ Zy r.body.aB ∧ Zy r.body.line ∧ r.body.text.size ≤ maxLen ∧ Zz S 6 68 (fun y => F y ∧ tag y = 1) w r.body.kids vbodykids
theorem Zbo {S K : Zaj Zf} (hS : Zcp S K 6) (hK : Zbf K 6) : Zcp (Zb4 S) (Zc9 K) 9 where
 is := {
  len := fun ⟨_, _, _, e, _⟩ => by rw [e]; rfl
  keep := fun ⟨tag, vslots, vbodykids, e, h0, h1, h2, h3, h4, h5, h6, h7, h8⟩ hFG hk => ⟨tag, vslots, vbodykids, e, h0, h1, h2.keep Zj.is (fun y hy => ⟨hFG y hy.1, hy.2⟩) (hk.mono fun y hy => hy.1), h3, h4, h5, h6, h7, h8.keep hS.is (fun y hy => ⟨hFG y hy.1, hy.2⟩) (hk.mono fun y hy => hy.1)⟩ }
 el := fun ⟨tag, vslots, vbodykids, e, h0, h1, h2, h3, h4, h5, h6, h7, h8⟩ => ⟨vslots, vbodykids, e, h0, h1, (h2.el Zj).keep Zg (fun y hy => hy.1) (Zc.refl _ _), h3, h4, h5, h6, h7, (h8.el hS).keep hK (fun y hy => hy.1) (Zc.refl _ _)⟩
 trim := fun ⟨tag, vslots, vbodykids, e, h0, h1, h2, h3, h4, h5, h6, h7, h8⟩ => ⟨tag, vslots, vbodykids, e, h0, h1, (h2.trim Zj).keep Zj.is (fun y hy => ⟨⟨hy.1.1, hy.2⟩, hy.1.2⟩) (Zc.refl _ _), h3, h4, h5, h6, h7, (h8.trim hS).keep hS.is (fun y hy => ⟨⟨hy.1.1, hy.2⟩, hy.1.2⟩) (Zc.refl _ _)⟩
structure Za7 where
 routines : List Zbi
 aA : List Z3
 globals : List ByteArray
 main : Int
def Zhl (K : Zaj Zf) : Zaj Za7 := fun F w r cs => ∃ vroutines aC aD, cs = [vroutines, aC, aD, .int .i64 r.main] ∧ Zq (Zc9 K) 9 F w r.routines vroutines ∧ Zq Zan 3 F w r.aA aC ∧ Zq Zah 1 F w r.globals aD ∧ Zy r.main
def Zfb (S : Zaj Zf) : Zaj Za7 := fun F w r cs => ∃ (tag : Nat → Nat) (vroutines : Value) (aC : Value) (aD : Value), cs = [vroutines, aC, aD, .int .i64 r.main] ∧ Zz (Zb4 S) 9 70 (fun y => F y ∧ tag y = 0) w r.routines vroutines ∧ Zz Zac 3 101 (fun y => F y ∧ tag y = 1) w r.aA aC ∧ Zz Zah 1 9 (fun y => F y ∧ tag y = 2) w r.globals aD ∧ Zy r.main
theorem Zm {S K : Zaj Zf} (hS : Zcp S K 6) (hK : Zbf K 6) : Zcp (Zfb S) (Zhl K) 4 where
 is := {
  len := fun ⟨_, _, _, _, e, _⟩ => by rw [e]; rfl
  keep := fun ⟨tag, vroutines, aC, aD, e, h0, h1, h2, h3⟩ hFG hk => ⟨tag, vroutines, aC, aD, e, h0.keep (Zbo hS hK).is (fun y hy => ⟨hFG y hy.1, hy.2⟩) (hk.mono fun y hy => hy.1), h1.keep Zh.is (fun y hy => ⟨hFG y hy.1, hy.2⟩) (hk.mono fun y hy => hy.1), h2.keep Zj.is (fun y hy => ⟨hFG y hy.1, hy.2⟩) (hk.mono fun y hy => hy.1), h3⟩ }
 el := fun ⟨tag, vroutines, aC, aD, e, h0, h1, h2, h3⟩ => ⟨vroutines, aC, aD, e, (h0.el (Zbo hS hK)).keep (Zcm hK) (fun y hy => hy.1) (Zc.refl _ _), (h1.el Zh).keep Z4 (fun y hy => hy.1) (Zc.refl _ _), (h2.el Zj).keep Zg (fun y hy => hy.1) (Zc.refl _ _), h3⟩
 trim := fun ⟨tag, vroutines, aC, aD, e, h0, h1, h2, h3⟩ => ⟨tag, vroutines, aC, aD, e, (h0.trim (Zbo hS hK)).keep (Zbo hS hK).is (fun y hy => ⟨⟨hy.1.1, hy.2⟩, hy.1.2⟩) (Zc.refl _ _), (h1.trim Zh).keep Zh.is (fun y hy => ⟨⟨hy.1.1, hy.2⟩, hy.1.2⟩) (Zc.refl _ _), (h2.trim Zj).keep Zj.is (fun y hy => ⟨⟨hy.1.1, hy.2⟩, hy.1.2⟩) (Zc.refl _ _), h3⟩
structure Zpt where
 op : Int
 a : Int
 b : Int
 line : Int
 text : ByteArray
def Zmk : Nat → Zaj Zf
 | 0 => fun _ _ _ _ => False
 | n + 1 => Zgc (Zmk n)
def Ze3 : Nat → Zaj Zf
 | 0 => fun _ _ _ _ => False
 | n + 1 => Zk3 (Ze3 n)
theorem Zr : ∀ n, Zbf (Zmk n) 6
 | 0 => ⟨fun h => h.elim, fun h _ _ => h⟩
 | n + 1 => Zec (Zr n)
theorem Zw : ∀ n, Zcp (Ze3 n) (Zmk n) 6
 | 0 => ⟨⟨fun h => h.elim, fun h _ _ => h⟩, fun h => h, fun h => h⟩
 | n + 1 => Zi9 (Zw n) (Zr n)
structure Ze where
 kind : Int
 text : ByteArray
 aB : Int
 line : Int
 kids : List Ze
def Zds (K : Zaj Ze) : Zaj Ze := fun F w r cs => ∃ vkids, cs = [.int .i64 r.kind, .string r.text, .int .i64 r.aB, .int .i64 r.line, vkids] ∧ Zy r.kind ∧ r.text.size ≤ maxLen ∧ Zy r.aB ∧ Zy r.line ∧ Zq K 5 F w r.kids vkids
theorem Zcu {K : Zaj Ze} (hK : Zbf K 5) : Zbf (Zds K) 5 where
 len := fun ⟨_, e, _⟩ => by rw [e]; rfl
 keep := fun ⟨vkids, e, h0, h1, h2, h3, h4⟩ hFG hk => ⟨vkids, e, h0, h1, h2, h3, h4.keep hK hFG hk⟩
def Zat (sK : Ze → Nat) (r : Ze) : Nat := r.text.size + (Zp sK r.kids)
def Zgd (S : Zaj Ze) : Zaj Ze := fun F w r cs => ∃ (tag : Nat → Nat) (vkids : Value), cs = [.int .i64 r.kind, .string r.text, .int .i64 r.aB, .int .i64 r.line, vkids] ∧ Zy r.kind ∧ r.text.size ≤ maxLen ∧ Zy r.aB ∧ Zy r.line ∧ Zz S 5 104 (fun y => F y ∧ tag y = 0) w r.kids vkids
theorem Zfc {S K : Zaj Ze} (hS : Zcp S K 5) (hK : Zbf K 5) : Zcp (Zgd S) (Zds K) 5 where
 is := {
  len := fun ⟨_, _, e, _⟩ => by rw [e]; rfl
  keep := fun ⟨tag, vkids, e, h0, h1, h2, h3, h4⟩ hFG hk => ⟨tag, vkids, e, h0, h1, h2, h3, h4.keep hS.is (fun y hy => ⟨hFG y hy.1, hy.2⟩) (hk.mono fun y hy => hy.1)⟩ }
 el := fun ⟨tag, vkids, e, h0, h1, h2, h3, h4⟩ => ⟨vkids, e, h0, h1, h2, h3, (h4.el hS).keep hK (fun y hy => hy.1) (Zc.refl _ _)⟩
 trim := fun ⟨tag, vkids, e, h0, h1, h2, h3, h4⟩ => ⟨tag, vkids, e, h0, h1, h2, h3, (h4.trim hS).keep hS.is (fun y hy => ⟨⟨hy.1.1, hy.2⟩, hy.1.2⟩) (Zc.refl _ _)⟩
structure Zag where
 name : ByteArray
 params : List ByteArray
 locals : List ByteArray
 body : Ze
 line : Int
def Zbb (K : Zaj Ze) : Zaj Zag := fun F w r cs => ∃ vparams vlocals vbodykids, cs = [.string r.name, vparams, vlocals, .int .i64 r.body.kind, .string r.body.text, .int .i64 r.body.aB, .int .i64 r.body.line, vbodykids, .int .i64 r.line] ∧ r.name.size ≤ maxLen ∧ Zq Zah 1 F w r.params vparams ∧ Zq Zah 1 F w r.locals vlocals ∧ Zy r.body.kind ∧ r.body.text.size ≤ maxLen ∧ Zy r.body.aB ∧ Zy r.body.line ∧ Zq K 5 F w r.body.kids vbodykids ∧ Zy r.line
theorem Zaq {K : Zaj Ze} (hK : Zbf K 5) : Zbf (Zbb K) 9 where
 len := fun ⟨_, _, _, e, _⟩ => by rw [e]; rfl
 keep := fun ⟨vparams, vlocals, vbodykids, e, h0, h1, h2, h3, h4, h5, h6, h7, h8⟩ hFG hk => ⟨vparams, vlocals, vbodykids, e, h0, h1.keep Zg hFG hk, h2.keep Zg hFG hk, h3, h4, h5, h6, h7.keep hK hFG hk, h8⟩
def Zn (sK : Ze → Nat) (r : Zag) : Nat := r.name.size + (Zp ByteArray.size r.params + (Zp ByteArray.size r.locals + ((Zat sK) r.body)))
def Zcb (S : Zaj Ze) : Zaj Zag := fun F w r cs => ∃ (tag : Nat → Nat) (vparams : Value) (vlocals : Value) (vbodykids : Value), cs = [.string r.name, vparams, vlocals, .int .i64 r.body.kind, .string r.body.text, .int .i64 r.body.aB, .int .i64 r.body.line, vbodykids, .int .i64 r.line] ∧ r.name.size ≤ maxLen ∧ Zz Zah 1 9 (fun y => F y ∧ tag y = 0) w r.params vparams ∧ Zz Zah 1 9 (fun y => F y ∧ tag y = 1) w r.locals vlocals ∧ Zy r.body.kind ∧ r.body.text.size ≤ maxLen ∧ Zy r.body.aB ∧ Zy r.body.line ∧ Zz S 5 104 (fun y => F y ∧ tag y = 2) w r.body.kids vbodykids ∧ Zy r.line
theorem Zae {S K : Zaj Ze} (hS : Zcp S K 5) (hK : Zbf K 5) : Zcp (Zcb S) (Zbb K) 9 where
 is := {
  len := fun ⟨_, _, _, _, e, _⟩ => by rw [e]; rfl
  keep := fun ⟨tag, vparams, vlocals, vbodykids, e, h0, h1, h2, h3, h4, h5, h6, h7, h8⟩ hFG hk => ⟨tag, vparams, vlocals, vbodykids, e, h0, h1.keep Zj.is (fun y hy => ⟨hFG y hy.1, hy.2⟩) (hk.mono fun y hy => hy.1), h2.keep Zj.is (fun y hy => ⟨hFG y hy.1, hy.2⟩) (hk.mono fun y hy => hy.1), h3, h4, h5, h6, h7.keep hS.is (fun y hy => ⟨hFG y hy.1, hy.2⟩) (hk.mono fun y hy => hy.1), h8⟩ }
 el := fun ⟨tag, vparams, vlocals, vbodykids, e, h0, h1, h2, h3, h4, h5, h6, h7, h8⟩ => ⟨vparams, vlocals, vbodykids, e, h0, (h1.el Zj).keep Zg (fun y hy => hy.1) (Zc.refl _ _), (h2.el Zj).keep Zg (fun y hy => hy.1) (Zc.refl _ _), h3, h4, h5, h6, (h7.el hS).keep hK (fun y hy => hy.1) (Zc.refl _ _), h8⟩
 trim := fun ⟨tag, vparams, vlocals, vbodykids, e, h0, h1, h2, h3, h4, h5, h6, h7, h8⟩ => ⟨tag, vparams, vlocals, vbodykids, e, h0, (h1.trim Zj).keep Zj.is (fun y hy => ⟨⟨hy.1.1, hy.2⟩, hy.1.2⟩) (Zc.refl _ _), (h2.trim Zj).keep Zj.is (fun y hy => ⟨⟨hy.1.1, hy.2⟩, hy.1.2⟩) (Zc.refl _ _), h3, h4, h5, h6, (h7.trim hS).keep hS.is (fun y hy => ⟨⟨hy.1.1, hy.2⟩, hy.1.2⟩) (Zc.refl _ _), h8⟩
structure Zt where
 aA : List Z3
 globals : List ByteArray
 procedures : List Zag
def Zgw (K : Zaj Ze) : Zaj Zt := fun F w r cs => ∃ aC aD vprocedures, cs = [aC, aD, vprocedures] ∧ Zq Zan 3 F w r.aA aC ∧ Zq Zah 1 F w r.globals aD ∧ Zq (Zbb K) 9 F w r.procedures vprocedures
theorem Zfd {K : Zaj Ze} (hK : Zbf K 5) : Zbf (Zgw K) 3 where
 len := fun ⟨_, _, _, e, _⟩ => by rw [e]; rfl
 keep := fun ⟨aC, aD, vprocedures, e, h0, h1, h2⟩ hFG hk => ⟨aC, aD, vprocedures, e, h0.keep Z4 hFG hk, h1.keep Zg hFG hk, h2.keep (Zaq hK) hFG hk⟩
def Zb5 (sK : Ze → Nat) (r : Zt) : Nat := Zp Zk r.aA + (Zp ByteArray.size r.globals + (Zp (Zn sK) r.procedures))
def Zk4 (S : Zaj Ze) : Zaj Zt := fun F w r cs => ∃ (tag : Nat → Nat) (aC : Value) (aD : Value) (vprocedures : Value), cs = [aC, aD, vprocedures] ∧ Zz Zac 3 101 (fun y => F y ∧ tag y = 0) w r.aA aC ∧ Zz Zah 1 9 (fun y => F y ∧ tag y = 1) w r.globals aD ∧ Zz (Zcb S) 9 106 (fun y => F y ∧ tag y = 2) w r.procedures vprocedures
theorem Zcd {S K : Zaj Ze} (hS : Zcp S K 5) (hK : Zbf K 5) : Zcp (Zk4 S) (Zgw K) 3 where
 is := {
  len := fun ⟨_, _, _, _, e, _⟩ => by rw [e]; rfl
  keep := fun ⟨tag, aC, aD, vprocedures, e, h0, h1, h2⟩ hFG hk => ⟨tag, aC, aD, vprocedures, e, h0.keep Zh.is (fun y hy => ⟨hFG y hy.1, hy.2⟩) (hk.mono fun y hy => hy.1), h1.keep Zj.is (fun y hy => ⟨hFG y hy.1, hy.2⟩) (hk.mono fun y hy => hy.1), h2.keep (Zae hS hK).is (fun y hy => ⟨hFG y hy.1, hy.2⟩) (hk.mono fun y hy => hy.1)⟩ }
 el := fun ⟨tag, aC, aD, vprocedures, e, h0, h1, h2⟩ => ⟨aC, aD, vprocedures, e, (h0.el Zh).keep Z4 (fun y hy => hy.1) (Zc.refl _ _), (h1.el Zj).keep Zg (fun y hy => hy.1) (Zc.refl _ _), (h2.el (Zae hS hK)).keep (Zaq hK) (fun y hy => hy.1) (Zc.refl _ _)⟩
 trim := fun ⟨tag, aC, aD, vprocedures, e, h0, h1, h2⟩ => ⟨tag, aC, aD, vprocedures, e, (h0.trim Zh).keep Zh.is (fun y hy => ⟨⟨hy.1.1, hy.2⟩, hy.1.2⟩) (Zc.refl _ _), (h1.trim Zj).keep Zj.is (fun y hy => ⟨⟨hy.1.1, hy.2⟩, hy.1.2⟩) (Zc.refl _ _), (h2.trim (Zae hS hK)).keep (Zae hS hK).is (fun y hy => ⟨⟨hy.1.1, hy.2⟩, hy.1.2⟩) (Zc.refl _ _)⟩
def Ze4 : Nat → Zaj Ze
 | 0 => fun _ _ _ _ => False
 | n + 1 => Zds (Ze4 n)
def Zn3 : Nat → Zaj Ze
 | 0 => fun _ _ _ _ => False
 | n + 1 => Zgd (Zn3 n)
theorem Zab : ∀ n, Zbf (Ze4 n) 5
 | 0 => ⟨fun h => h.elim, fun h _ _ => h⟩
 | n + 1 => Zcu (Zab n)
theorem Zbj : ∀ n, Zcp (Zn3 n) (Ze4 n) 5
 | 0 => ⟨⟨fun h => h.elim, fun h _ _ => h⟩, fun h => h, fun h => h⟩
 | n + 1 => Zfc (Zbj n) (Zab n)
def Zfz : Nat → Ze → Nat
 | 0 => fun _ => 0
 | n + 1 => Zat (Zfz n)
section
abbrev TEx : TypeId := 104
mutual
def Zc6 : Ze → Nat
 | ⟨_, _, _, _, kids⟩ => Zcc kids + 1
def Zcc : List Ze → Nat
 | [] => 0
 | c :: l => Zc6 c + Zcc l
end
mutual
def dpX : Ze → Nat
 | ⟨_, _, _, _, kids⟩ => Zgr kids + 1
def Zgr : List Ze → Nat
 | [] => 0
 | c :: l => max (dpX c) (Zgr l)
end
theorem Zfu (c : Ze) : Zc6 c = Zcc c.kids + 1 := by cases c; simp [Zc6]
theorem Zpv (c : Ze) : dpX c = Zgr c.kids + 1 := by cases c; simp [dpX]
theorem Zfg : ∀ (l : List Ze) (j : Nat) (h : j < l.length), Zcc (l.take (j + 1)) = Zcc (l.take j) + Zc6 l[j]
 | [], _, h => by simp at h
 | c :: l, 0, _ => by simp [Zcc]
 | c :: l, j + 1, h => by
  simp only [List.take_succ_cons, Zcc, List.getElem_cons_succ];rw [Zfg l j (by simpa using h)]
  omega
theorem Zhu : ∀ (l : List Ze) (j : Nat), Zcc (l.take j) ≤ Zcc l
 | [], _ => by simp
 | c :: l, 0 => by simp [Zcc]
 | c :: l, j + 1 => by
  simp only [List.take_succ_cons, Zcc];have := Zhu l j
  omega
theorem Zn4 (c : Ze) : 1 ≤ Zc6 c := by rw [Zfu]; omega
theorem Zcv {c : Ze} {j : Nat} (h : j < c.kids.length) : Zcc (c.kids.take j) + Zc6 c.kids[j] + 1 ≤ Zc6 c := by
 have h1 := Zfg c.kids j h;have h2 := Zhu c.kids (j + 1);rw [Zfu c]
 omega
theorem Zml : ∀ (l : List Ze) (j : Nat) (h : j < l.length), Zgr (l.take (j + 1)) = max (Zgr (l.take j)) (dpX l[j])
 | [], _, h => by simp at h
 | c :: l, 0, _ => by simp [Zgr]
 | c :: l, j + 1, h => by
  simp only [List.take_succ_cons, Zgr, List.getElem_cons_succ];rw [Zml l j (by simpa using h), Nat.max_assoc]
theorem Zm3 : ∀ (l : List Ze) (d : Nat), Zgr l ≤ d ↔ ∀ i (h : i < l.length), dpX l[i] ≤ d
 | [], d => by simp [Zgr]
 | c :: l, d => by
  simp only [Zgr, Nat.max_le, Zm3 l d]
  constructor
  ·rintro ⟨h1, h2⟩ i hi
   cases i with
   | zero => exact h1
   | succ i => exact h2 i (by simpa using hi)
  ·exact fun h => ⟨h 0 (by simp), fun i hi => h (i + 1) (by simpa using hi)⟩
mutual
theorem Zm4 : ∀ (c : Ze), dpX c ≤ Zc6 c
 | ⟨_, _, _, _, kids⟩ => by
  have := Zgx kids;simp only [dpX, Zc6]
  omega
theorem Zgx : ∀ (l : List Ze), Zgr l ≤ Zcc l
 | [] => by simp [Zgr]
 | c :: l => by
  have := Zm4 c;have := Zgx l;simp only [Zgr, Zcc]
  omega
end
def eZ : Ze := ⟨0, ⟨#[]⟩, 0, 0, []⟩
def Ze.kid (c : Ze) (i : Nat) : Ze := c.kids.getD i eZ
theorem Zcr {c : Ze} {i : Nat} (h : i < c.kids.length) : c.kid i = c.kids[i] := by simp [Ze.kid, List.getD, h]
structure EV (n : Nat) (F : Nat → Prop) (w : World) (c : Ze) (A : Option Addr) (k : Nat) : Prop where
 n0 : Zy c.kind
 tx : c.text.size ≤ maxLen
 n1 : Zy c.aB
 n2 : Zy c.line
 kids : Zq (Ze4 n) 5 F w c.kids (.slice A c.kids.length k)
def Ze.val (c : Ze) (A : Option Addr) (k : Nat) : Value := .agg #[.int .i64 c.kind, .string c.text, .int .i64 c.aB, .int .i64 c.line, .slice A c.kids.length k]
structure EAt (n : Nat) (F : Nat → Prop) (w : World) (c : Ze) (b o : Nat) (A : Option Addr) (k : Nat) : Prop where
 own : F b
 lt : b < w.heap.size
 c0 : w.cell? ⟨b, o, none⟩ = some (.int .i64 c.kind)
 c1 : w.cell? ⟨b, o + 1, none⟩ = some (.string c.text)
 c2 : w.cell? ⟨b, o + 2, none⟩ = some (.int .i64 c.aB)
 c3 : w.cell? ⟨b, o + 3, none⟩ = some (.int .i64 c.line)
 c4 : w.cell? ⟨b, o + 4, none⟩ = some (.slice A c.kids.length k)
 ev : EV n F w c A k
section
variable {n : Nat} {F G : Nat → Prop} {w x : World} {c : Ze} {A : Option Addr} {k : Nat}
theorem EV.keep (h : EV n F w c A k) (hFG : ∀ b, F b → G b) (hk : Zc F w x) : EV n G x c A k :=
 ⟨h.n0, h.tx, h.n1, h.n2, h.kids.keep (Zab n) hFG hk⟩
theorem EV.later (h : EV n F w c A k) (hl : Zb w x) : EV n F x c A k := h.keep (fun _ h => h) (Zc.later hl)
theorem EV.lev (h : EV n F w c A k) {i : Nat} (hi : i < c.kids.length) : ∃ m, n = m + 1 := by
 obtain ⟨A', c', e, _, _, hel⟩ := h.kids;obtain ⟨b, o, cs, _, _, _, hE, _⟩ := hel i hi
 cases n with
 | zero => exact hE.elim
 | succ m => exact ⟨m, rfl⟩
theorem EV.len (h : EV n F w c A k) : (c.kids.length : Int) ≤ 9223372036854775807 := by
 obtain ⟨A', k', ek, hkc, hkm, _⟩ := h.kids;unfold maxLen at hkm;cases ek
 omega
theorem EV.kid (h : EV (n + 1) F w c A k) {i : Nat} (hi : i < c.kids.length) : ∃ kb ko B q, A = some ⟨kb, ko, none⟩ ∧ EAt n F w c.kids[i] kb (ko + i * 5) B q := by
 obtain ⟨A', c', e, _, _, hel⟩ := h.kids;cases e;obtain ⟨b, o, cs, rfl, hF, hb, hE, hc⟩ := hel i hi;obtain ⟨vk, rfl, h0, h1, h2, h3, h4⟩ := hE;obtain ⟨Ak, ck, rfl, -⟩ := id h4;exact ⟨b, o, Ak, ck, rfl, hF, hb, hc 0 _ rfl, hc 1 _ rfl, hc 2 _ rfl, hc 3 _ rfl, hc 4 _ rfl, h0, h1, h2, h3, h4⟩
end
end
section
open Go
def Zmd (l : List UInt8) : List Int := l.map fun b => (b.toNat : Int)
theorem Zn5 (a b : List UInt8) : Zmd (a ++ b) = Zmd a ++ Zmd b := by simp [Zmd]
def Zn6 (ns : List Int) : ByteArray := ⟨(ns.map fun n => UInt8.ofNat n.toNat).toArray⟩
theorem Zpw (ns : List Int) (r : ByteArray) : ns.foldl (fun r n => r.push (UInt8.ofNat n.toNat)) r = ⟨r.data ++ (ns.map fun n => UInt8.ofNat n.toNat).toArray⟩ := by
 induction ns generalizing r with
 | nil => simp
 | cons a l ih =>
  simp only [List.foldl_cons, ih]
  congr 1
  simp [ByteArray.push]
theorem Zn7 (ns : List Int) : ns.foldl (fun r n => r.push (UInt8.ofNat n.toNat)) ByteArray.empty = Zn6 ns := by
 rw [Zpw];show (⟨#[] ++ _⟩ : ByteArray) = _;unfold Zn6; congr 1; simp
end
section
open Go
end
section
open Go
end
section
open Go
end
section
open Go
/-! ### Numbers -/
/-! ### Quoted texts -/
/-! ### Names -/
/-! ### Cutting -/
end
def bl (s : ByteArray) : List UInt8 := s.data.toList
theorem Zh2 {a b : ByteArray} (h : bl a = bl b) : a = b := by
 cases a; cases b
 simp only [bl, ByteArray.mk.injEq] at h ⊢;exact Array.ext' h
theorem Zdy {a b : ByteArray} (h : a.toList = b.toList) : a = b := by
 have e : ∀ x : ByteArray, x.toList = x.data.toList := fun x => ByteArray.toList_eq x;rw [e, e] at h;exact Zh2 h
theorem Zk5 : ∀ (L : List (List UInt8)) (x : List UInt8) (j : Nat) (h : j < L.length), L[j] = x → L.idxOf x ≤ j
 | a :: L, x, j, h, e => by
  rw [List.idxOf_cons]
  cases hx : a == x with
  | true => simp
  | false =>
   cases j with
   | zero => simp at e; simp [e] at hx
   | succ j =>
    have := Zk5 L x j (by simpa using h) (by simpa using e);simp; omega
def Zbm (l : List ByteArray) (s : ByteArray) : Bool := decide (bl s ∈ l.map bl)
def Zak (l : List ByteArray) (s : ByteArray) : Int := if bl s ∈ l.map bl then ((l.map bl).idxOf (bl s) : Int) else -1
theorem Zdz {l : List ByteArray} {s : ByteArray} : Zbm l s = true ↔ s ∈ l := by
 unfold Zbm;rw [nJ, List.mem_map];exact ⟨fun ⟨a, h1, h2⟩ => Zh2 h2 ▸ h1, fun h => ⟨s, h, rfl⟩⟩
theorem Zv0 {l : List ByteArray} {s : ByteArray} {j : Nat} (h : j < l.length) (he : l[j] = s) : Zbm l s = true := Zdz.2 (he ▸ List.getElem_mem h)
theorem Zqk {l : List ByteArray} {s : ByteArray} (h : ∀ k (hk : k < l.length), l[k] ≠ s) : Zbm l s = false := by
 rw [← Bool.not_eq_true, Zdz];intro hm;obtain ⟨k, hk, e⟩ := List.getElem_of_mem hm;exact h k hk e
theorem Zf3 {l : List ByteArray} {s : ByteArray} {j : Nat} (h : j < l.length) (he : l[j] = s) (hn : ∀ k (hk : k < l.length), k < j → l[k] ≠ s) : Zak l s = j := by
 have hm : bl s ∈ l.map bl := List.mem_map.2 ⟨s, he ▸ List.getElem_mem h, rfl⟩;rw [Zak, if_pos hm]
 congr 1
 have hi := List.idxOf_lt_length_iff.2 hm;have hg := List.getElem_idxOf hi;rw [List.getElem_map] at hg;have e2 := Zh2 hg;rw [List.length_map] at hi
 rcases Nat.lt_trichotomy ((l.map bl).idxOf (bl s)) j with h1 | h1 | h1
 ·exact absurd e2 (hn _ hi h1)
 ·exact h1
 ·have := Zk5 (l.map bl) (bl s) j (by simpa using h) (by simp [he])
  omega
theorem Zgy {l : List ByteArray} {s : ByteArray} (h : ∀ k (hk : k < l.length), l[k] ≠ s) : Zak l s = -1 := by
 have := Zqk h;rw [Zak, if_neg]
 simpa [Zbm] using this
theorem Zdp (l : List ByteArray) (s : ByteArray) : decide (0 ≤ Zak l s) = Zbm l s := by
 unfold Zak Zbm
 split
 ·rename_i h; simp [h]
 ·rename_i h; simp [h]
theorem Ztm {l : List ByteArray} {j : Nat} (h : j < l.length) : decide (Zak l l[j] < j) = Zbm (l.take j) l[j] := by
 by_cases hm : l[j] ∈ l.take j
 ·rw [Zdz.2 hm];have h1 : bl l[j] ∈ l.map bl := List.mem_map.2 ⟨_, List.getElem_mem h, rfl⟩;rw [Zak, if_pos h1, nJ];obtain ⟨k, hk, e⟩ := List.getElem_of_mem hm;rw [List.length_take] at hk;rw [List.getElem_take] at e
  rcases Nat.lt_or_ge ((l.map bl).idxOf (bl l[j])) j with h2 | h2
  ·omega
  ·have := Zk5 (l.map bl) (bl l[j]) k (by simp; omega) (by simp [e])
   omega
 ·have h0 : Zbm (l.take j) l[j] = false := by rw [← Bool.not_eq_true, Zdz]; exact hm
  rw [h0, Zf3 h rfl (fun k hk h1 e => hm (by rw [← e, List.mem_take_iff_getElem]; exact ⟨k, by omega, rfl⟩))];simp
theorem Zbv (l : List ByteArray) (v : Value) (s : ByteArray) (F : Nat → Prop) (w : World) (hr : Zq Zah 1 F w l v) :
  Calls Tryz.prog 92 #[v, .string s] w fun e w' => e = .returned (.int .i64 (Zak l s)) ∧ w' = w := by
 obtain ⟨A, c, rfl, hc, hcm, hel⟩ := hr;unfold maxLen at hcm;have HEL := zh hel;clear hel;obtain ⟨R, hR⟩ : ∃ R, Zak l s = R := ⟨_, rfl⟩;rw [hR];have HR := zh hR;clear hR;go_enter Tryz.func92, Tryz.ntmps92;go_wp2_with fail
 go_loopw [5] (fun i wr => ∃ j : Nat, i = .int .i64 j ∧ j ≤ l.length ∧ Hd (∀ k (h : k < l.length), k < j → l[k] ≠ s) ∧ wr = w) (fun i _ => l.length - (intOf i).toNat)
 case atStart => exact ⟨0, rfl, Nat.zero_le _, zh (fun k _ h => by omega), rfl⟩
 case round =>
  obtain ⟨j, rfl, hj, HD, hw⟩ := hrel;obtain rfl : w = wr := hw.symm
  by_cases hlt : j < l.length
  ·obtain ⟨b, o, cs, rfl, hF, hbl, hE, hcell⟩ := HEL.o j hlt;obtain ⟨rfl, hsm⟩ := hE;have t1 : decide ((j : Int) < l.length) = true := nT (by omega);have e0 := hcell 0 _ rfl;simp only [Nat.mul_one, Nat.add_zero] at e0
   by_cases he : l[j] = s
   ·have hR0 : R = (j : Int) := by rw [← HR.o, Zf3 hlt he HD.o]
    rw [he] at e0;subst hR0;have v2 : (s.toList == s.toList) = true := by simp
    clear hcell hsm he;go_wp2_with fail;go_ret;exact ⟨rfl, rfl⟩
   ·obtain ⟨y, hy⟩ : ∃ y, l[j] = y := ⟨_, rfl⟩;rw [hy] at e0;have v1 : (y.toList == s.toList) = false := by rw [nH]; exact fun h => he (hy.trans (Zdy h))
    have HD2 : Hd (∀ k (h : k < l.length), k < j + 1 → l[k] ≠ s) := zh (fun k hk h => by
     rcases Nat.lt_or_ge k j with h1 | h1
     ·exact HD.o k hk h1
     ·obtain rfl : k = j := by omega
      exact he)
    clear hcell hsm he hy;go_wp2_with fail
    go_roundw
    case rel => exact ⟨j + 1, by go_num, by omega, HD2, trivial⟩
    case measure => simp [intOf]; omega
  ·have t1 : decide ((j : Int) < l.length) = false := nU (by omega);have hR0 : R = -1 := by rw [← HR.o, Zgy (fun k hk => HD.o k hk (by omega))]
   subst hR0;go_wp2_with fail;go_ret;exact ⟨rfl, rfl⟩
theorem Zja (l : List ByteArray) (v : Value) (s : ByteArray) (F : Nat → Prop) (w : World) (hr : Zq Zah 1 F w l v) :
  Calls Tryz.prog 177 #[v, .string s] w fun e w' => e = .returned (.int .i64 (Zak l s)) ∧ w' = w := by
 obtain ⟨A, c, rfl, hc, hcm, hel⟩ := hr;unfold maxLen at hcm;have HEL := zh hel;clear hel;obtain ⟨R, hR⟩ : ∃ R, Zak l s = R := ⟨_, rfl⟩;rw [hR];have HR := zh hR;clear hR;go_enter Tryz.func177, Tryz.ntmps177;go_wp2_with fail
 go_loopw [8] (fun i wr => ∃ j : Nat, i = .int .i64 j ∧ j ≤ l.length ∧ Hd (∀ k (h : k < l.length), k < j → l[k] ≠ s) ∧ wr = w) (fun i _ => l.length - (intOf i).toNat)
 case atStart => exact ⟨0, rfl, Nat.zero_le _, zh (fun k _ h => by omega), rfl⟩
 case round =>
  obtain ⟨j, rfl, hj, HD, hw⟩ := hrel;obtain rfl : w = wr := hw.symm
  by_cases hlt : j < l.length
  ·obtain ⟨b, o, cs, rfl, hF, hbl, hE, hcell⟩ := HEL.o j hlt;obtain ⟨rfl, hsm⟩ := hE;have t1 : decide ((j : Int) < l.length) = true := nT (by omega);have e0 := hcell 0 _ rfl;simp only [Nat.mul_one, Nat.add_zero] at e0
   by_cases he : l[j] = s
   ·have hR0 : R = (j : Int) := by rw [← HR.o, Zf3 hlt he HD.o]
    rw [he] at e0;subst hR0;have v2 : (s.toList == s.toList) = true := by simp
    clear hcell hsm he;go_wp2_with fail;go_ret;exact ⟨rfl, rfl⟩
   ·obtain ⟨y, hy⟩ : ∃ y, l[j] = y := ⟨_, rfl⟩;rw [hy] at e0;have v1 : (s.toList == y.toList) = false := by rw [nH]; exact fun h => he (hy.trans (Zdy h.symm))
    have HD2 : Hd (∀ k (h : k < l.length), k < j + 1 → l[k] ≠ s) := zh (fun k hk h => by
     rcases Nat.lt_or_ge k j with h1 | h1
     ·exact HD.o k hk h1
     ·obtain rfl : k = j := by omega
      exact he)
    clear hcell hsm he hy;go_wp2_with fail
    go_roundw
    case rel => exact ⟨j + 1, by go_num, by omega, HD2, trivial⟩
    case measure => simp [intOf]; omega
  ·have t1 : decide ((j : Int) < l.length) = false := nU (by omega);have hR0 : R = -1 := by rw [← HR.o, Zgy (fun k hk => HD.o k hk (by omega))]
   subst hR0;go_wp2_with fail;go_ret;exact ⟨rfl, rfl⟩
theorem Zjb (l : List ByteArray) (v : Value) (s : ByteArray) (F : Nat → Prop) (w : World) (hr : Zq Zah 1 F w l v) :
  Calls Tryz.prog 158 #[v, .string s] w fun e w' => e = .returned (.bool (Zbm l s)) ∧ w' = w := by
 obtain ⟨A, c, rfl, hc, hcm, hel⟩ := hr;unfold maxLen at hcm;have HEL := zh hel;clear hel;obtain ⟨R, hR⟩ : ∃ R, Zbm l s = R := ⟨_, rfl⟩;rw [hR];have HR := zh hR;clear hR;go_enter Tryz.func158, Tryz.ntmps158;go_wp2_with fail
 go_loopw [5] (fun i wr => ∃ j : Nat, i = .int .i64 j ∧ j ≤ l.length ∧ Hd (∀ k (h : k < l.length), k < j → l[k] ≠ s) ∧ wr = w) (fun i _ => l.length - (intOf i).toNat)
 case atStart => exact ⟨0, rfl, Nat.zero_le _, zh (fun k _ h => by omega), rfl⟩
 case round =>
  obtain ⟨j, rfl, hj, HD, hw⟩ := hrel;obtain rfl : w = wr := hw.symm
  by_cases hlt : j < l.length
  ·obtain ⟨b, o, cs, rfl, hF, hbl, hE, hcell⟩ := HEL.o j hlt;obtain ⟨rfl, hsm⟩ := hE;have t1 : decide ((j : Int) < l.length) = true := nT (by omega);have e0 := hcell 0 _ rfl;simp only [Nat.mul_one, Nat.add_zero] at e0
   by_cases he : l[j] = s
   ·have hR0 : R = true := by rw [← HR.o, Zv0 hlt he]
    rw [he] at e0;subst hR0;have v2 : (s.toList == s.toList) = true := by simp
    clear hcell hsm he;go_wp2_with fail;go_ret;exact ⟨rfl, rfl⟩
   ·obtain ⟨y, hy⟩ : ∃ y, l[j] = y := ⟨_, rfl⟩;rw [hy] at e0;have v1 : (y.toList == s.toList) = false := by rw [nH]; exact fun h => he (hy.trans (Zdy h))
    have HD2 : Hd (∀ k (h : k < l.length), k < j + 1 → l[k] ≠ s) := zh (fun k hk h => by
     rcases Nat.lt_or_ge k j with h1 | h1
     ·exact HD.o k hk h1
     ·obtain rfl : k = j := by omega
      exact he)
    clear hcell hsm he hy;go_wp2_with fail
    go_roundw
    case rel => exact ⟨j + 1, by go_num, by omega, HD2, trivial⟩
    case measure => simp [intOf]; omega
  ·have t1 : decide ((j : Int) < l.length) = false := nU (by omega);have hR0 : R = false := by rw [← HR.o, Zqk (fun k hk => HD.o k hk (by omega))]
   subst hR0;go_wp2_with fail;go_ret;exact ⟨rfl, rfl⟩
theorem Zcn (l : List ByteArray) (v : Value) (s : ByteArray) (F : Nat → Prop) (w : World) (hr : Zq Zah 1 F w l v) :
  Calls Tryz.prog 151 #[v, .string s] w fun e w' => e = .returned (.bool (Zbm l s)) ∧ w' = w := by
 have HI := zh (Zja l v s F w hr);have HG := zh (Zdp l s);clear hr;go_enter Tryz.func151, Tryz.ntmps151;go_wp2_with fail;refine HI.o.mono ?_;rintro e w' ⟨rfl, hw⟩;obtain rfl := hw.symm;go_wp2_with fail;go_ret;exact ⟨by rw [← HG.o]; rfl, rfl⟩
def Zb7 (x : UInt8) : Bool := decide (48 ≤ x.toNat) && decide (x.toNat ≤ 57)
def Zbq (x : UInt8) : Bool := (decide (97 ≤ x.toNat) && decide (x.toNat ≤ 122)) || (decide (65 ≤ x.toNat) && decide (x.toNat ≤ 90)) || decide (x.toNat = 95)
theorem Zj0 (x : UInt8) (c : Int) (hc : (x.toNat : Int) = c) (w : World) : Calls Tryz.prog 132 #[.int .u8 c] w fun e w' => e = .returned (.bool (Zb7 x)) ∧ w' = w := by
 have hb : 0 ≤ c ∧ c < 256 := by have := x.toNat_lt; omega
 obtain ⟨hb0, hb1⟩ := hb;obtain ⟨R, hR⟩ : ∃ R, Zb7 x = R := ⟨_, rfl⟩;rw [hR];have HR := zh hR;have HC := zh hc;clear hR hc;have hcase : (c < 48) ∨ (48 ≤ c ∧ c ≤ 57) ∨ (57 < c) := by omega
 rcases hcase with h | h | h
 ·have hR0 : R = false := by rw [← HR.o]; have := HC.o; unfold Zb7; simp; omega
  subst hR0;have : decide ((48 : Int) ≤ c) = false := nU (by omega);have : decide (c ≤ (57 : Int)) = true := nT (by omega);clear HC HR;go_enter Tryz.func132, Tryz.ntmps132;go_wp2_with fail;go_ret;exact ⟨rfl, rfl⟩
 ·have hR0 : R = true := by rw [← HR.o]; have := HC.o; unfold Zb7; simp; omega
  subst hR0;have : decide ((48 : Int) ≤ c) = true := nT (by omega);have : decide (c ≤ (57 : Int)) = true := nT (by omega);clear HC HR;go_enter Tryz.func132, Tryz.ntmps132;go_wp2_with fail;go_ret;exact ⟨rfl, rfl⟩
 ·have hR0 : R = false := by rw [← HR.o]; have := HC.o; unfold Zb7; simp; omega
  subst hR0;have : decide ((48 : Int) ≤ c) = true := nT (by omega);have : decide (c ≤ (57 : Int)) = false := nU (by omega);clear HC HR;go_enter Tryz.func132, Tryz.ntmps132;go_wp2_with fail;go_ret;exact ⟨rfl, rfl⟩
theorem Zn8 (x : UInt8) (c : Int) (hc : (x.toNat : Int) = c) (w : World) : Calls Tryz.prog 122 #[.int .u8 c] w fun e w' => e = .returned (.bool (Zb7 x)) ∧ w' = w := by
 have hb : 0 ≤ c ∧ c < 256 := by have := x.toNat_lt; omega
 obtain ⟨hb0, hb1⟩ := hb;obtain ⟨R, hR⟩ : ∃ R, Zb7 x = R := ⟨_, rfl⟩;rw [hR];have HR := zh hR;have HC := zh hc;clear hR hc;have hcase : (c < 48) ∨ (48 ≤ c ∧ c ≤ 57) ∨ (57 < c) := by omega
 rcases hcase with h | h | h
 ·have hR0 : R = false := by rw [← HR.o]; have := HC.o; unfold Zb7; simp; omega
  subst hR0;have : decide ((48 : Int) ≤ c) = false := nU (by omega);have : decide (c ≤ (57 : Int)) = true := nT (by omega);clear HC HR;go_enter Tryz.func122, Tryz.ntmps122;go_wp2_with fail;go_ret;exact ⟨rfl, rfl⟩
 ·have hR0 : R = true := by rw [← HR.o]; have := HC.o; unfold Zb7; simp; omega
  subst hR0;have : decide ((48 : Int) ≤ c) = true := nT (by omega);have : decide (c ≤ (57 : Int)) = true := nT (by omega);clear HC HR;go_enter Tryz.func122, Tryz.ntmps122;go_wp2_with fail;go_ret;exact ⟨rfl, rfl⟩
 ·have hR0 : R = false := by rw [← HR.o]; have := HC.o; unfold Zb7; simp; omega
  subst hR0;have : decide ((48 : Int) ≤ c) = true := nT (by omega);have : decide (c ≤ (57 : Int)) = false := nU (by omega);clear HC HR;go_enter Tryz.func122, Tryz.ntmps122;go_wp2_with fail;go_ret;exact ⟨rfl, rfl⟩
theorem Zm5 (x : UInt8) (c : Int) (hc : (x.toNat : Int) = c) (w : World) : Calls Tryz.prog 134 #[.int .u8 c] w fun e w' => e = .returned (.bool (Zbq x)) ∧ w' = w := by
 have hb : 0 ≤ c ∧ c < 256 := by have := x.toNat_lt; omega
 obtain ⟨hb0, hb1⟩ := hb;obtain ⟨R, hR⟩ : ∃ R, Zbq x = R := ⟨_, rfl⟩;rw [hR];have HR := zh hR;have HC := zh hc;clear hR hc;have hcase : (c < 65) ∨ (65 ≤ c ∧ c ≤ 90) ∨ (90 < c ∧ c < 95) ∨ (c = 95) ∨ (c = 96) ∨ (97 ≤ c ∧ c ≤ 122) ∨ (122 < c) := by omega
 rcases hcase with h | h | h | h | h | h | h
 ·have hR0 : R = false := by rw [← HR.o]; have := HC.o; unfold Zbq; simp; omega
  subst hR0;have : decide ((97 : Int) ≤ c) = false := nU (by omega);have : decide (c ≤ (122 : Int)) = true := nT (by omega);have : decide ((65 : Int) ≤ c) = false := nU (by omega);have : decide (c ≤ (90 : Int)) = true := nT (by omega);have : (c == (95 : Int)) = false := by rw [nH]; omega
  clear HC HR;go_enter Tryz.func134, Tryz.ntmps134;go_wp2_with fail;go_ret;exact ⟨rfl, rfl⟩
 ·have hR0 : R = true := by rw [← HR.o]; have := HC.o; unfold Zbq; simp; omega
  subst hR0;have : decide ((97 : Int) ≤ c) = false := nU (by omega);have : decide (c ≤ (122 : Int)) = true := nT (by omega);have : decide ((65 : Int) ≤ c) = true := nT (by omega);have : decide (c ≤ (90 : Int)) = true := nT (by omega);have : (c == (95 : Int)) = false := by rw [nH]; omega
  clear HC HR;go_enter Tryz.func134, Tryz.ntmps134;go_wp2_with fail;go_ret;exact ⟨rfl, rfl⟩
 ·have hR0 : R = false := by rw [← HR.o]; have := HC.o; unfold Zbq; simp; omega
  subst hR0;have : decide ((97 : Int) ≤ c) = false := nU (by omega);have : decide (c ≤ (122 : Int)) = true := nT (by omega);have : decide ((65 : Int) ≤ c) = true := nT (by omega);have : decide (c ≤ (90 : Int)) = false := nU (by omega);have : (c == (95 : Int)) = false := by rw [nH]; omega
  clear HC HR;go_enter Tryz.func134, Tryz.ntmps134;go_wp2_with fail;go_ret;exact ⟨rfl, rfl⟩
 ·have hR0 : R = true := by rw [← HR.o]; have := HC.o; unfold Zbq; simp; omega
  subst hR0;have : decide ((97 : Int) ≤ c) = false := nU (by omega);have : decide (c ≤ (122 : Int)) = true := nT (by omega);have : decide ((65 : Int) ≤ c) = true := nT (by omega);have : decide (c ≤ (90 : Int)) = false := nU (by omega);have : (c == (95 : Int)) = true := by rw [beq_iff_eq]; omega
  clear HC HR;go_enter Tryz.func134, Tryz.ntmps134;go_wp2_with fail;go_ret;exact ⟨rfl, rfl⟩
 ·have hR0 : R = false := by rw [← HR.o]; have := HC.o; unfold Zbq; simp; omega
  subst hR0;have : decide ((97 : Int) ≤ c) = false := nU (by omega);have : decide (c ≤ (122 : Int)) = true := nT (by omega);have : decide ((65 : Int) ≤ c) = true := nT (by omega);have : decide (c ≤ (90 : Int)) = false := nU (by omega);have : (c == (95 : Int)) = false := by rw [nH]; omega
  clear HC HR;go_enter Tryz.func134, Tryz.ntmps134;go_wp2_with fail;go_ret;exact ⟨rfl, rfl⟩
 ·have hR0 : R = true := by rw [← HR.o]; have := HC.o; unfold Zbq; simp; omega
  subst hR0;have : decide ((97 : Int) ≤ c) = true := nT (by omega);have : decide (c ≤ (122 : Int)) = true := nT (by omega);have : decide ((65 : Int) ≤ c) = true := nT (by omega);have : decide (c ≤ (90 : Int)) = false := nU (by omega);have : (c == (95 : Int)) = false := by rw [nH]; omega
  clear HC HR;go_enter Tryz.func134, Tryz.ntmps134;go_wp2_with fail;go_ret;exact ⟨rfl, rfl⟩
 ·have hR0 : R = false := by rw [← HR.o]; have := HC.o; unfold Zbq; simp; omega
  subst hR0;have : decide ((97 : Int) ≤ c) = true := nT (by omega);have : decide (c ≤ (122 : Int)) = false := nU (by omega);have : decide ((65 : Int) ≤ c) = true := nT (by omega);have : decide (c ≤ (90 : Int)) = false := nU (by omega);have : (c == (95 : Int)) = false := by rw [nH]; omega
  clear HC HR;go_enter Tryz.func134, Tryz.ntmps134;go_wp2_with fail;go_ret;exact ⟨rfl, rfl⟩
theorem Zig (x : UInt8) (c : Int) (hc : (x.toNat : Int) = c) (w : World) : Calls Tryz.prog 120 #[.int .u8 c] w fun e w' => e = .returned (.bool (Zbq x)) ∧ w' = w := by
 have hb : 0 ≤ c ∧ c < 256 := by have := x.toNat_lt; omega
 obtain ⟨hb0, hb1⟩ := hb;obtain ⟨R, hR⟩ : ∃ R, Zbq x = R := ⟨_, rfl⟩;rw [hR];have HR := zh hR;have HC := zh hc;clear hR hc;have hcase : (c < 65) ∨ (65 ≤ c ∧ c ≤ 90) ∨ (90 < c ∧ c < 95) ∨ (c = 95) ∨ (c = 96) ∨ (97 ≤ c ∧ c ≤ 122) ∨ (122 < c) := by omega
 rcases hcase with h | h | h | h | h | h | h
 ·have hR0 : R = false := by rw [← HR.o]; have := HC.o; unfold Zbq; simp; omega
  subst hR0;have : decide ((97 : Int) ≤ c) = false := nU (by omega);have : decide (c ≤ (122 : Int)) = true := nT (by omega);have : decide ((65 : Int) ≤ c) = false := nU (by omega);have : decide (c ≤ (90 : Int)) = true := nT (by omega);have : (c == (95 : Int)) = false := by rw [nH]; omega
  clear HC HR;go_enter Tryz.func120, Tryz.ntmps120;go_wp2_with fail;go_ret;exact ⟨rfl, rfl⟩
 ·have hR0 : R = true := by rw [← HR.o]; have := HC.o; unfold Zbq; simp; omega
  subst hR0;have : decide ((97 : Int) ≤ c) = false := nU (by omega);have : decide (c ≤ (122 : Int)) = true := nT (by omega);have : decide ((65 : Int) ≤ c) = true := nT (by omega);have : decide (c ≤ (90 : Int)) = true := nT (by omega);have : (c == (95 : Int)) = false := by rw [nH]; omega
  clear HC HR;go_enter Tryz.func120, Tryz.ntmps120;go_wp2_with fail;go_ret;exact ⟨rfl, rfl⟩
 ·have hR0 : R = false := by rw [← HR.o]; have := HC.o; unfold Zbq; simp; omega
  subst hR0;have : decide ((97 : Int) ≤ c) = false := nU (by omega);have : decide (c ≤ (122 : Int)) = true := nT (by omega);have : decide ((65 : Int) ≤ c) = true := nT (by omega);have : decide (c ≤ (90 : Int)) = false := nU (by omega);have : (c == (95 : Int)) = false := by rw [nH]; omega
  clear HC HR;go_enter Tryz.func120, Tryz.ntmps120;go_wp2_with fail;go_ret;exact ⟨rfl, rfl⟩
 ·have hR0 : R = true := by rw [← HR.o]; have := HC.o; unfold Zbq; simp; omega
  subst hR0;have : decide ((97 : Int) ≤ c) = false := nU (by omega);have : decide (c ≤ (122 : Int)) = true := nT (by omega);have : decide ((65 : Int) ≤ c) = true := nT (by omega);have : decide (c ≤ (90 : Int)) = false := nU (by omega);have : (c == (95 : Int)) = true := by rw [beq_iff_eq]; omega
  clear HC HR;go_enter Tryz.func120, Tryz.ntmps120;go_wp2_with fail;go_ret;exact ⟨rfl, rfl⟩
 ·have hR0 : R = false := by rw [← HR.o]; have := HC.o; unfold Zbq; simp; omega
  subst hR0;have : decide ((97 : Int) ≤ c) = false := nU (by omega);have : decide (c ≤ (122 : Int)) = true := nT (by omega);have : decide ((65 : Int) ≤ c) = true := nT (by omega);have : decide (c ≤ (90 : Int)) = false := nU (by omega);have : (c == (95 : Int)) = false := by rw [nH]; omega
  clear HC HR;go_enter Tryz.func120, Tryz.ntmps120;go_wp2_with fail;go_ret;exact ⟨rfl, rfl⟩
 ·have hR0 : R = true := by rw [← HR.o]; have := HC.o; unfold Zbq; simp; omega
  subst hR0;have : decide ((97 : Int) ≤ c) = true := nT (by omega);have : decide (c ≤ (122 : Int)) = true := nT (by omega);have : decide ((65 : Int) ≤ c) = true := nT (by omega);have : decide (c ≤ (90 : Int)) = false := nU (by omega);have : (c == (95 : Int)) = false := by rw [nH]; omega
  clear HC HR;go_enter Tryz.func120, Tryz.ntmps120;go_wp2_with fail;go_ret;exact ⟨rfl, rfl⟩
 ·have hR0 : R = false := by rw [← HR.o]; have := HC.o; unfold Zbq; simp; omega
  subst hR0;have : decide ((97 : Int) ≤ c) = true := nT (by omega);have : decide (c ≤ (122 : Int)) = false := nU (by omega);have : decide ((65 : Int) ≤ c) = true := nT (by omega);have : decide (c ≤ (90 : Int)) = false := nU (by omega);have : (c == (95 : Int)) = false := by rw [nH]; omega
  clear HC HR;go_enter Tryz.func120, Tryz.ntmps120;go_wp2_with fail;go_ret;exact ⟨rfl, rfl⟩
def Spc (w : World) : Prop := Lib.TabIs Tryz.prog w "strings.asciiSpace" .u8 Lib.asciiSpaceTab
theorem Zfh : Tryz.prog.globalNamed "strings.asciiSpace" = some 0 := by kernel_rfl
theorem Spc.below {w w' : World} (h : Spc w) (hb : Below w.heap.size w w') : Spc w' :=
 var?_below hb Zfh (World.block_lt_of_cell? w _ (h.cell Zfh 0 (by decide +kernel))) h
def Zau (l : List (List UInt8)) : Obj := .cells (l.map fun l => Value.string ⟨l.toArray⟩).toArray 9
def Zav (l : List (List UInt8)) : List ByteArray := l.map fun x => ⟨x.toArray⟩
theorem Zdf (w : World) (l : List (List UInt8)) (h1 : l.length ≤ 1000) (h2 : ∀ x ∈ l, x.length ≤ 1000) : Zq Zah 1 (fun b => w.heap.size ≤ b) (w.alloc (Zau l)) (Zav l) (.slice (some ⟨w.heap.size, 0, none⟩) l.length l.length) := by
 refine ⟨some ⟨w.heap.size, 0, none⟩, l.length, by simp [Zav], by simp [Zav], by unfold maxLen; omega, fun i hi => ?_⟩;have hi' : i < l.length := by simpa [Zav] using hi
 refine ⟨w.heap.size, 0, [.string (Zav l)[i]], rfl, Nat.le_refl _, by simp, ⟨rfl, ?_⟩, fun j x hj => ?_⟩
 ·have := h2 l[i] (List.getElem_mem hi');simp only [Zav, List.getElem_map];show l[i].length ≤ maxLen;unfold maxLen
  omega
 ·cases j with
  | zero =>
   obtain rfl : Value.string (Zav l)[i] = x := by simpa using hj
   rw [cell_of_row _ w.heap.size _ _ _ _ (heap_alloc_new w (Zau l))];simp [Zav, hi']
  | succ j => simp at hj
theorem Zdv (l : List (List UInt8)) (s : ByteArray) : Zbm (Zav l) s = decide (bl s ∈ l) := by
 unfold Zbm Zav;rw [List.map_map];have : (bl ∘ fun x : List UInt8 => (⟨x.toArray⟩ : ByteArray)) = id := by funext x; rfl
 rw [this, List.map_id]
def Zdw : List (List UInt8) := [[112, 114, 111, 99, 101, 100, 117, 114, 101], [101, 110, 100], [103, 108, 111, 98, 97, 108], [108, 111, 99, 97, 108], [114, 101, 99, 111, 114, 100], [105, 102], [116, 104, 101, 110], [101, 108, 115, 101], [119, 104, 105, 108, 101], [117, 110, 116, 105, 108], [101, 118, 101, 114, 121], [100, 111], [114, 101, 112, 101, 97, 116], [99, 97, 115, 101], [111, 102], [100, 101, 102, 97, 117, 108, 116], [114, 101, 116, 117, 114, 110], [115, 117, 115, 112, 101, 110, 100], [102, 97, 105, 108], [98, 114, 101, 97, 107], [110, 101, 120, 116], [99, 114, 101, 97, 116, 101], [116, 111], [98, 121], [110, 111, 116], [100, 101, 102, 101, 114]]
theorem Zme : Lib.fields (ByteArray.mk #[112, 114, 111, 99, 101, 100, 117, 114, 101, 32, 101, 110, 100, 32, 103, 108, 111, 98, 97, 108, 32, 108, 111, 99, 97, 108, 32, 114, 101, 99, 111, 114, 100, 32, 105, 102, 32, 116, 104, 101, 110, 32, 101, 108, 115, 101, 32, 119, 104, 105, 108, 101, 32, 117, 110, 116, 105, 108, 32, 101, 118, 101, 114, 121, 32, 100, 111, 32, 114, 101, 112, 101, 97, 116, 32, 99, 97, 115, 101, 32, 111, 102, 32, 100, 101, 102, 97, 117, 108, 116, 32, 114, 101, 116, 117, 114, 110, 32, 115, 117, 115, 112, 101, 110, 100, 32, 102, 97, 105, 108, 32, 98, 114, 101, 97, 107, 32, 110, 101, 120, 116, 32, 99, 114, 101, 97, 116, 101, 32, 116, 111, 32, 98, 121, 32, 110, 111, 116, 32, 100, 101, 102, 101, 114]).data.toList = Zdw := by decide +kernel
theorem Zmf : ∀ (j : Nat) b, (ByteArray.mk #[112, 114, 111, 99, 101, 100, 117, 114, 101, 32, 101, 110, 100, 32, 103, 108, 111, 98, 97, 108, 32, 108, 111, 99, 97, 108, 32, 114, 101, 99, 111, 114, 100, 32, 105, 102, 32, 116, 104, 101, 110, 32, 101, 108, 115, 101, 32, 119, 104, 105, 108, 101, 32, 117, 110, 116, 105, 108, 32, 101, 118, 101, 114, 121, 32, 100, 111, 32, 114, 101, 112, 101, 97, 116, 32, 99, 97, 115, 101, 32, 111, 102, 32, 100, 101, 102, 97, 117, 108, 116, 32, 114, 101, 116, 117, 114, 110, 32, 115, 117, 115, 112, 101, 110, 100, 32, 102, 97, 105, 108, 32, 98, 114, 101, 97, 107, 32, 110, 101, 120, 116, 32, 99, 114, 101, 97, 116, 101, 32, 116, 111, 32, 98, 121, 32, 110, 111, 116, 32, 100, 101, 102, 101, 114]).data.toList[j]? = some b → b.toNat < 128 := by
 intro j b hb;have h : ∀ c ∈ (ByteArray.mk #[112, 114, 111, 99, 101, 100, 117, 114, 101, 32, 101, 110, 100, 32, 103, 108, 111, 98, 97, 108, 32, 108, 111, 99, 97, 108, 32, 114, 101, 99, 111, 114, 100, 32, 105, 102, 32, 116, 104, 101, 110, 32, 101, 108, 115, 101, 32, 119, 104, 105, 108, 101, 32, 117, 110, 116, 105, 108, 32, 101, 118, 101, 114, 121, 32, 100, 111, 32, 114, 101, 112, 101, 97, 116, 32, 99, 97, 115, 101, 32, 111, 102, 32, 100, 101, 102, 97, 117, 108, 116, 32, 114, 101, 116, 117, 114, 110, 32, 115, 117, 115, 112, 101, 110, 100, 32, 102, 97, 105, 108, 32, 98, 114, 101, 97, 107, 32, 110, 101, 120, 116, 32, 99, 114, 101, 97, 116, 101, 32, 116, 111, 32, 98, 121, 32, 110, 111, 116, 32, 100, 101, 102, 101, 114]).data.toList, c.toNat < 128 := by decide +kernel
 exact h b (List.mem_of_getElem? hb)
theorem Zk6 (w : World) (ht : Spc w) : Calls Tryz.prog 182 #[.string ⟨#[112, 114, 111, 99, 101, 100, 117, 114, 101, 32, 101, 110, 100, 32, 103, 108, 111, 98, 97, 108, 32, 108, 111, 99, 97, 108, 32, 114, 101, 99, 111, 114, 100, 32, 105, 102, 32, 116, 104, 101, 110, 32, 101, 108, 115, 101, 32, 119, 104, 105, 108, 101, 32, 117, 110, 116, 105, 108, 32, 101, 118, 101, 114, 121, 32, 100, 111, 32, 114, 101, 112, 101, 97, 116, 32, 99, 97, 115, 101, 32, 111, 102, 32, 100, 101, 102, 97, 117, 108, 116, 32, 114, 101, 116, 117, 114, 110, 32, 115, 117, 115, 112, 101, 110, 100, 32, 102, 97, 105, 108, 32, 98, 114, 101, 97, 107, 32, 110, 101, 120, 116, 32, 99, 114, 101, 97, 116, 101, 32, 116, 111, 32, 98, 121, 32, 110, 111, 116, 32, 100, 101, 102, 101, 114]⟩] w fun e w' => e = .returned (.slice (some ⟨w.heap.size, 0, none⟩) 26 26) ∧ w' = w.alloc (Zau Zdw) := by
 have h := Tryz.strings_Fields_laid ⟨#[112, 114, 111, 99, 101, 100, 117, 114, 101, 32, 101, 110, 100, 32, 103, 108, 111, 98, 97, 108, 32, 108, 111, 99, 97, 108, 32, 114, 101, 99, 111, 114, 100, 32, 105, 102, 32, 116, 104, 101, 110, 32, 101, 108, 115, 101, 32, 119, 104, 105, 108, 101, 32, 117, 110, 116, 105, 108, 32, 101, 118, 101, 114, 121, 32, 100, 111, 32, 114, 101, 112, 101, 97, 116, 32, 99, 97, 115, 101, 32, 111, 102, 32, 100, 101, 102, 97, 117, 108, 116, 32, 114, 101, 116, 117, 114, 110, 32, 115, 117, 115, 112, 101, 110, 100, 32, 102, 97, 105, 108, 32, 98, 114, 101, 97, 107, 32, 110, 101, 120, 116, 32, 99, 114, 101, 97, 116, 101, 32, 116, 111, 32, 98, 121, 32, 110, 111, 116, 32, 100, 101, 102, 101, 114]⟩ w (by decide +kernel) Zmf ht;rw [Zme] at h;exact h
def Zih (s : ByteArray) : Bool := decide (bl s ∈ Zdw)
theorem Zii (w : World) (ht : Spc w) : Calls Tryz.prog 166 #[] w fun e w' => e = .returned (.slice (some ⟨w.heap.size, 0, none⟩) 26 26) ∧ w' = w.alloc (Zau Zdw) := by
 go_enter Tryz.func166, Tryz.ntmps166;go_wp2_with fail;refine (Zk6 w ht).mono ?_;rintro e w' ⟨rfl, rfl⟩;go_wp2_with fail;go_ret;exact ⟨rfl, rfl⟩
theorem Zh3 (s : ByteArray) (w : World) (ht : Spc w) : Calls Tryz.prog 133 #[.string s] w fun e w' => e = .returned (.bool (Zih s)) ∧ Below w.heap.size w w' := by
 have HW := zh (Zii w ht);have hro := Zcn (Zav Zdw) _ s _ _ (Zdf w Zdw (by decide) (by decide));rw [Zdv] at hro;have HC := zh hro;clear hro;go_enter Tryz.func133, Tryz.ntmps133;go_wp2_with fail;refine HW.o.mono ?_;rintro e w' ⟨rfl, hw⟩;subst hw;go_wp2_with fail;refine HC.o.mono ?_;rintro e w' ⟨rfl, hw⟩;subst hw;go_wp2_with fail;go_ret;exact ⟨rfl, (Below.refl _ _).alloc (Nat.le_refl _) _⟩
theorem Zh4 (s : ByteArray) (w : World) : Calls Tryz.prog 121 #[.string s] w fun e w' => e = .returned (.bool (Zih s)) ∧ Below w.heap.size w w' := by
 have hro := Zjb (Zav Zdw) _ s _ _ (Zdf w Zdw (by decide) (by decide));rw [Zdv] at hro;have HC := zh hro;clear hro;go_enter Tryz.func121, Tryz.ntmps121;go_wp2_with fail;refine HC.o.mono ?_;rintro e w' ⟨rfl, hw⟩;subst hw;go_wp2_with fail;go_ret;exact ⟨rfl, (Below.refl _ _).alloc (Nat.le_refl _) _⟩
def Zm6 : List (List UInt8) := [[110, 117, 108, 108], [102, 97, 105, 108], [115, 117, 98, 106, 101, 99, 116], [112, 111, 115], [108, 99, 97, 115, 101], [117, 99, 97, 115, 101], [108, 101, 116, 116, 101, 114, 115], [100, 105, 103, 105, 116, 115]]
theorem Ztn : Lib.fields (ByteArray.mk #[110, 117, 108, 108, 32, 102, 97, 105, 108, 32, 115, 117, 98, 106, 101, 99, 116, 32, 112, 111, 115, 32, 108, 99, 97, 115, 101, 32, 117, 99, 97, 115, 101, 32, 108, 101, 116, 116, 101, 114, 115, 32, 100, 105, 103, 105, 116, 115]).data.toList = Zm6 := by decide +kernel
theorem Zto : ∀ (j : Nat) b, (ByteArray.mk #[110, 117, 108, 108, 32, 102, 97, 105, 108, 32, 115, 117, 98, 106, 101, 99, 116, 32, 112, 111, 115, 32, 108, 99, 97, 115, 101, 32, 117, 99, 97, 115, 101, 32, 108, 101, 116, 116, 101, 114, 115, 32, 100, 105, 103, 105, 116, 115]).data.toList[j]? = some b → b.toNat < 128 := by
 intro j b hb;have h : ∀ c ∈ (ByteArray.mk #[110, 117, 108, 108, 32, 102, 97, 105, 108, 32, 115, 117, 98, 106, 101, 99, 116, 32, 112, 111, 115, 32, 108, 99, 97, 115, 101, 32, 117, 99, 97, 115, 101, 32, 108, 101, 116, 116, 101, 114, 115, 32, 100, 105, 103, 105, 116, 115]).data.toList, c.toNat < 128 := by decide +kernel
 exact h b (List.mem_of_getElem? hb)
theorem Zru (w : World) (ht : Spc w) : Calls Tryz.prog 182 #[.string ⟨#[110, 117, 108, 108, 32, 102, 97, 105, 108, 32, 115, 117, 98, 106, 101, 99, 116, 32, 112, 111, 115, 32, 108, 99, 97, 115, 101, 32, 117, 99, 97, 115, 101, 32, 108, 101, 116, 116, 101, 114, 115, 32, 100, 105, 103, 105, 116, 115]⟩] w fun e w' => e = .returned (.slice (some ⟨w.heap.size, 0, none⟩) 8 8) ∧ w' = w.alloc (Zau Zm6) := by
 have h := Tryz.strings_Fields_laid ⟨#[110, 117, 108, 108, 32, 102, 97, 105, 108, 32, 115, 117, 98, 106, 101, 99, 116, 32, 112, 111, 115, 32, 108, 99, 97, 115, 101, 32, 117, 99, 97, 115, 101, 32, 108, 101, 116, 116, 101, 114, 115, 32, 100, 105, 103, 105, 116, 115]⟩ w (by decide +kernel) Zto ht;rw [Ztn] at h;exact h
def wUn : List (List UInt8) := [[45], [43], [42], [47], [92], [126], [33], [61], [124], [64], [94], [46], [46, 62]]
theorem Zv1 : Lib.fields (ByteArray.mk #[45, 32, 43, 32, 42, 32, 47, 32, 92, 32, 126, 32, 33, 32, 61, 32, 124, 32, 64, 32, 94, 32, 46, 32, 46, 62]).data.toList = wUn := by decide +kernel
theorem Zv2 : ∀ (j : Nat) b, (ByteArray.mk #[45, 32, 43, 32, 42, 32, 47, 32, 92, 32, 126, 32, 33, 32, 61, 32, 124, 32, 64, 32, 94, 32, 46, 32, 46, 62]).data.toList[j]? = some b → b.toNat < 128 := by
 intro j b hb;have h : ∀ c ∈ (ByteArray.mk #[45, 32, 43, 32, 42, 32, 47, 32, 92, 32, 126, 32, 33, 32, 61, 32, 124, 32, 64, 32, 94, 32, 46, 32, 46, 62]).data.toList, c.toNat < 128 := by decide +kernel
 exact h b (List.mem_of_getElem? hb)
theorem Ztp (w : World) (ht : Spc w) : Calls Tryz.prog 182 #[.string ⟨#[45, 32, 43, 32, 42, 32, 47, 32, 92, 32, 126, 32, 33, 32, 61, 32, 124, 32, 64, 32, 94, 32, 46, 32, 46, 62]⟩] w fun e w' => e = .returned (.slice (some ⟨w.heap.size, 0, none⟩) 13 13) ∧ w' = w.alloc (Zau wUn) := by
 have h := Tryz.strings_Fields_laid ⟨#[45, 32, 43, 32, 42, 32, 47, 32, 92, 32, 126, 32, 33, 32, 61, 32, 124, 32, 64, 32, 94, 32, 46, 32, 46, 62]⟩ w (by decide +kernel) Zv2 ht;rw [Zv1] at h;exact h
def Zd0 : List (List UInt8) := [[119, 114, 105, 116, 101], [105, 109, 97, 103, 101], [116, 121, 112, 101], [105, 110, 116, 101, 103, 101, 114], [115, 116, 114, 105, 110, 103], [99, 115, 101, 116], [108, 105, 115, 116], [116, 97, 98, 108, 101], [115, 101, 116], [112, 117, 116], [112, 117, 115, 104], [103, 101, 116], [112, 111, 112], [112, 117, 108, 108], [109, 101, 109, 98, 101, 114], [105, 110, 115, 101, 114, 116], [100, 101, 108, 101, 116, 101], [107, 101, 121], [115, 111, 114, 116], [99, 111, 112, 121], [102, 105, 110, 100], [117, 112, 116, 111], [109, 97, 110, 121], [97, 110, 121], [109, 97, 116, 99, 104], [116, 97, 98], [109, 111, 118, 101], [112, 111, 115], [114, 101, 112, 108], [114, 101, 118, 101, 114, 115, 101], [108, 101, 102, 116], [114, 105, 103, 104, 116], [99, 101, 110, 116, 101, 114], [116, 114, 105, 109], [109, 97, 112], [111, 114, 100], [99, 104, 97, 114], [97, 98, 115], [115, 101, 113], [76, 101, 110], [80, 111, 115], [82, 80, 111, 115], [84, 97, 98], [82, 84, 97, 98], [65, 110, 121], [78, 111, 116, 65, 110, 121], [83, 112, 97, 110], [66, 114, 101, 97, 107], [65, 114, 98], [82, 101, 109], [65, 114, 98, 110, 111], [70, 101, 110, 99, 101], [65, 98, 111, 114, 116], [69, 109, 112, 116, 121], [70, 97, 105, 108]]
theorem Ztq : Lib.fields (ByteArray.mk #[119, 114, 105, 116, 101, 32, 105, 109, 97, 103, 101, 32, 116, 121, 112, 101, 32, 105, 110, 116, 101, 103, 101, 114, 32, 115, 116, 114, 105, 110, 103, 32, 99, 115, 101, 116, 32, 108, 105, 115, 116, 32, 116, 97, 98, 108, 101, 32, 115, 101, 116, 32, 112, 117, 116, 32, 112, 117, 115, 104, 32, 103, 101, 116, 32, 112, 111, 112, 32, 112, 117, 108, 108, 32, 109, 101, 109, 98, 101, 114, 32, 105, 110, 115, 101, 114, 116, 32, 100, 101, 108, 101, 116, 101, 32, 107, 101, 121, 32, 115, 111, 114, 116, 32, 99, 111, 112, 121, 32, 102, 105, 110, 100, 32, 117, 112, 116, 111, 32, 109, 97, 110, 121, 32, 97, 110, 121, 32, 109, 97, 116, 99, 104, 32, 116, 97, 98, 32, 109, 111, 118, 101, 32, 112, 111, 115, 32, 114, 101, 112, 108, 32, 114, 101, 118, 101, 114, 115, 101, 32, 108, 101, 102, 116, 32, 114, 105, 103, 104, 116, 32, 99, 101, 110, 116, 101, 114, 32, 116, 114, 105, 109, 32, 109, 97, 112, 32, 111, 114, 100, 32, 99, 104, 97, 114, 32, 97, 98, 115, 32, 115, 101, 113, 32, 76, 101, 110, 32, 80, 111, 115, 32, 82, 80, 111, 115, 32, 84, 97, 98, 32, 82, 84, 97, 98, 32, 65, 110, 121, 32, 78, 111, 116, 65, 110, 121, 32, 83, 112, 97, 110, 32, 66, 114, 101, 97, 107, 32, 65, 114, 98, 32, 82, 101, 109, 32, 65, 114, 98, 110, 111, 32, 70, 101, 110, 99, 101, 32, 65, 98, 111, 114, 116, 32, 69, 109, 112, 116, 121, 32, 70, 97, 105, 108]).data.toList = Zd0 := by decide +kernel
theorem Ztr : ∀ (j : Nat) b, (ByteArray.mk #[119, 114, 105, 116, 101, 32, 105, 109, 97, 103, 101, 32, 116, 121, 112, 101, 32, 105, 110, 116, 101, 103, 101, 114, 32, 115, 116, 114, 105, 110, 103, 32, 99, 115, 101, 116, 32, 108, 105, 115, 116, 32, 116, 97, 98, 108, 101, 32, 115, 101, 116, 32, 112, 117, 116, 32, 112, 117, 115, 104, 32, 103, 101, 116, 32, 112, 111, 112, 32, 112, 117, 108, 108, 32, 109, 101, 109, 98, 101, 114, 32, 105, 110, 115, 101, 114, 116, 32, 100, 101, 108, 101, 116, 101, 32, 107, 101, 121, 32, 115, 111, 114, 116, 32, 99, 111, 112, 121, 32, 102, 105, 110, 100, 32, 117, 112, 116, 111, 32, 109, 97, 110, 121, 32, 97, 110, 121, 32, 109, 97, 116, 99, 104, 32, 116, 97, 98, 32, 109, 111, 118, 101, 32, 112, 111, 115, 32, 114, 101, 112, 108, 32, 114, 101, 118, 101, 114, 115, 101, 32, 108, 101, 102, 116, 32, 114, 105, 103, 104, 116, 32, 99, 101, 110, 116, 101, 114, 32, 116, 114, 105, 109, 32, 109, 97, 112, 32, 111, 114, 100, 32, 99, 104, 97, 114, 32, 97, 98, 115, 32, 115, 101, 113, 32, 76, 101, 110, 32, 80, 111, 115, 32, 82, 80, 111, 115, 32, 84, 97, 98, 32, 82, 84, 97, 98, 32, 65, 110, 121, 32, 78, 111, 116, 65, 110, 121, 32, 83, 112, 97, 110, 32, 66, 114, 101, 97, 107, 32, 65, 114, 98, 32, 82, 101, 109, 32, 65, 114, 98, 110, 111, 32, 70, 101, 110, 99, 101, 32, 65, 98, 111, 114, 116, 32, 69, 109, 112, 116, 121, 32, 70, 97, 105, 108]).data.toList[j]? = some b → b.toNat < 128 := by
 intro j b hb;have h : ∀ c ∈ (ByteArray.mk #[119, 114, 105, 116, 101, 32, 105, 109, 97, 103, 101, 32, 116, 121, 112, 101, 32, 105, 110, 116, 101, 103, 101, 114, 32, 115, 116, 114, 105, 110, 103, 32, 99, 115, 101, 116, 32, 108, 105, 115, 116, 32, 116, 97, 98, 108, 101, 32, 115, 101, 116, 32, 112, 117, 116, 32, 112, 117, 115, 104, 32, 103, 101, 116, 32, 112, 111, 112, 32, 112, 117, 108, 108, 32, 109, 101, 109, 98, 101, 114, 32, 105, 110, 115, 101, 114, 116, 32, 100, 101, 108, 101, 116, 101, 32, 107, 101, 121, 32, 115, 111, 114, 116, 32, 99, 111, 112, 121, 32, 102, 105, 110, 100, 32, 117, 112, 116, 111, 32, 109, 97, 110, 121, 32, 97, 110, 121, 32, 109, 97, 116, 99, 104, 32, 116, 97, 98, 32, 109, 111, 118, 101, 32, 112, 111, 115, 32, 114, 101, 112, 108, 32, 114, 101, 118, 101, 114, 115, 101, 32, 108, 101, 102, 116, 32, 114, 105, 103, 104, 116, 32, 99, 101, 110, 116, 101, 114, 32, 116, 114, 105, 109, 32, 109, 97, 112, 32, 111, 114, 100, 32, 99, 104, 97, 114, 32, 97, 98, 115, 32, 115, 101, 113, 32, 76, 101, 110, 32, 80, 111, 115, 32, 82, 80, 111, 115, 32, 84, 97, 98, 32, 82, 84, 97, 98, 32, 65, 110, 121, 32, 78, 111, 116, 65, 110, 121, 32, 83, 112, 97, 110, 32, 66, 114, 101, 97, 107, 32, 65, 114, 98, 32, 82, 101, 109, 32, 65, 114, 98, 110, 111, 32, 70, 101, 110, 99, 101, 32, 65, 98, 111, 114, 116, 32, 69, 109, 112, 116, 121, 32, 70, 97, 105, 108]).data.toList, c.toNat < 128 := by decide +kernel
 exact h b (List.mem_of_getElem? hb)
theorem Zrv (w : World) (ht : Spc w) : Calls Tryz.prog 182 #[.string ⟨#[119, 114, 105, 116, 101, 32, 105, 109, 97, 103, 101, 32, 116, 121, 112, 101, 32, 105, 110, 116, 101, 103, 101, 114, 32, 115, 116, 114, 105, 110, 103, 32, 99, 115, 101, 116, 32, 108, 105, 115, 116, 32, 116, 97, 98, 108, 101, 32, 115, 101, 116, 32, 112, 117, 116, 32, 112, 117, 115, 104, 32, 103, 101, 116, 32, 112, 111, 112, 32, 112, 117, 108, 108, 32, 109, 101, 109, 98, 101, 114, 32, 105, 110, 115, 101, 114, 116, 32, 100, 101, 108, 101, 116, 101, 32, 107, 101, 121, 32, 115, 111, 114, 116, 32, 99, 111, 112, 121, 32, 102, 105, 110, 100, 32, 117, 112, 116, 111, 32, 109, 97, 110, 121, 32, 97, 110, 121, 32, 109, 97, 116, 99, 104, 32, 116, 97, 98, 32, 109, 111, 118, 101, 32, 112, 111, 115, 32, 114, 101, 112, 108, 32, 114, 101, 118, 101, 114, 115, 101, 32, 108, 101, 102, 116, 32, 114, 105, 103, 104, 116, 32, 99, 101, 110, 116, 101, 114, 32, 116, 114, 105, 109, 32, 109, 97, 112, 32, 111, 114, 100, 32, 99, 104, 97, 114, 32, 97, 98, 115, 32, 115, 101, 113, 32, 76, 101, 110, 32, 80, 111, 115, 32, 82, 80, 111, 115, 32, 84, 97, 98, 32, 82, 84, 97, 98, 32, 65, 110, 121, 32, 78, 111, 116, 65, 110, 121, 32, 83, 112, 97, 110, 32, 66, 114, 101, 97, 107, 32, 65, 114, 98, 32, 82, 101, 109, 32, 65, 114, 98, 110, 111, 32, 70, 101, 110, 99, 101, 32, 65, 98, 111, 114, 116, 32, 69, 109, 112, 116, 121, 32, 70, 97, 105, 108]⟩] w fun e w' => e = .returned (.slice (some ⟨w.heap.size, 0, none⟩) 55 55) ∧ w' = w.alloc (Zau Zd0) := by
 have h := Tryz.strings_Fields_laid ⟨#[119, 114, 105, 116, 101, 32, 105, 109, 97, 103, 101, 32, 116, 121, 112, 101, 32, 105, 110, 116, 101, 103, 101, 114, 32, 115, 116, 114, 105, 110, 103, 32, 99, 115, 101, 116, 32, 108, 105, 115, 116, 32, 116, 97, 98, 108, 101, 32, 115, 101, 116, 32, 112, 117, 116, 32, 112, 117, 115, 104, 32, 103, 101, 116, 32, 112, 111, 112, 32, 112, 117, 108, 108, 32, 109, 101, 109, 98, 101, 114, 32, 105, 110, 115, 101, 114, 116, 32, 100, 101, 108, 101, 116, 101, 32, 107, 101, 121, 32, 115, 111, 114, 116, 32, 99, 111, 112, 121, 32, 102, 105, 110, 100, 32, 117, 112, 116, 111, 32, 109, 97, 110, 121, 32, 97, 110, 121, 32, 109, 97, 116, 99, 104, 32, 116, 97, 98, 32, 109, 111, 118, 101, 32, 112, 111, 115, 32, 114, 101, 112, 108, 32, 114, 101, 118, 101, 114, 115, 101, 32, 108, 101, 102, 116, 32, 114, 105, 103, 104, 116, 32, 99, 101, 110, 116, 101, 114, 32, 116, 114, 105, 109, 32, 109, 97, 112, 32, 111, 114, 100, 32, 99, 104, 97, 114, 32, 97, 98, 115, 32, 115, 101, 113, 32, 76, 101, 110, 32, 80, 111, 115, 32, 82, 80, 111, 115, 32, 84, 97, 98, 32, 82, 84, 97, 98, 32, 65, 110, 121, 32, 78, 111, 116, 65, 110, 121, 32, 83, 112, 97, 110, 32, 66, 114, 101, 97, 107, 32, 65, 114, 98, 32, 82, 101, 109, 32, 65, 114, 98, 110, 111, 32, 70, 101, 110, 99, 101, 32, 65, 98, 111, 114, 116, 32, 69, 109, 112, 116, 121, 32, 70, 97, 105, 108]⟩ w (by decide +kernel) Ztr ht;rw [Ztq] at h;exact h
def Zrw (s : ByteArray) : Bool := decide (bl s ∈ Zm6)
def Zxt (s : ByteArray) : Bool := decide (bl s ∈ wUn)
def fnN (s : ByteArray) : Int := Zak (Zav Zd0) s
def lvT : List (List UInt8) := [[38], [63], [58, 61, 32, 60, 45, 32, 58, 61, 58, 32, 60, 45, 62, 32, 43, 58, 61, 32, 45, 58, 61, 32, 42, 58, 61, 32, 47, 58, 61, 32, 37, 58, 61, 32, 94, 58, 61, 32, 124, 124, 58, 61, 32, 124, 124, 124, 58, 61, 32, 43, 43, 58, 61, 32, 45, 45, 58, 61, 32, 42, 42, 58, 61], [], [124, 32, 46, 124], [60, 32, 60, 61, 32, 61, 32, 62, 61, 32, 62, 32, 126, 61, 32, 60, 60, 32, 60, 60, 61, 32, 61, 61, 32, 62, 62, 61, 32, 62, 62, 32, 126, 61, 61, 32, 61, 61, 61, 32, 126, 61, 61, 61, 32, 63, 63], [124, 124, 32, 124, 124, 124], [43, 32, 45, 32, 43, 43, 32, 45, 45], [42, 32, 47, 32, 37, 32, 42, 42], [94], [92, 32, 45, 62, 32, 61, 62]]
def wL (j : Nat) : List (List UInt8) := Lib.fields (lvT.getD j [])
def Zjc : List (List UInt8) := [[38], [63], [58, 61], [60, 45], [58, 61, 58], [60, 45, 62], [43, 58, 61], [45, 58, 61], [42, 58, 61], [47, 58, 61], [37, 58, 61], [94, 58, 61], [124, 124, 58, 61], [124, 124, 124, 58, 61], [43, 43, 58, 61], [45, 45, 58, 61], [42, 42, 58, 61], [124], [46, 124], [60], [60, 61], [61], [62, 61], [62], [126, 61], [60, 60], [60, 60, 61], [61, 61], [62, 62, 61], [62, 62], [126, 61, 61], [61, 61, 61], [126, 61, 61, 61], [63, 63], [124, 124], [124, 124, 124], [43], [45], [43, 43], [45, 45], [42], [47], [37], [42, 42], [94], [92], [45, 62], [61, 62]]
def Zd7 (s : ByteArray) : Bool := decide (bl s ∈ Zjc)
theorem Zql : (List.range 11).flatMap wL = Zjc := by decide +kernel
theorem Zxu : ∀ j, j < 11 → (∀ b ∈ lvT.getD j [], b.toNat < 128) ∧ (wL j).length ≤ 1000 ∧ (∀ x ∈ wL j, x.length ≤ 1000) ∧ (lvT.getD j []).length ≤ 1000 := by decide +kernel
theorem Zts {s : ByteArray} {j : Nat} (hj : j < 11) (h : Zbm (Zav (wL j)) s = true) : Zd7 s = true := by
 rw [Zdv, nJ] at h;unfold Zd7;rw [nJ, ← Zql, List.mem_flatMap];exact ⟨j, List.mem_range.2 hj, h⟩
theorem Ztt {s : ByteArray} (h : ∀ j, j < 11 → Zbm (Zav (wL j)) s = false) : Zd7 s = false := by
 unfold Zd7;rw [nI, ← Zql, List.mem_flatMap];rintro ⟨j, hj, hs⟩;have := h j (List.mem_range.1 hj);rw [Zdv, nI] at this;exact this hs
theorem Zas (s : ByteArray) : s.toList = bl s := ByteArray.toList_eq s
theorem Zn9 {x : UInt8} (h : Zbq x = true) : Zb7 x = false := by
 unfold Zbq at h;unfold Zb7;simp at h ⊢
 omega
def Za8 (s : ByteArray) : Bool := decide (1 ≤ s.size) && decide (s.size ≤ 12) && !((bl s).head?.any Zb7) && !Zih s && (bl s).all fun x => Zbq x || Zb7 x
theorem Zm7 (s : ByteArray) : (bl s).length = s.size := by simp [bl]
theorem Ztu (s : ByteArray) (j : Nat) (h : j < s.size) : (bl s)[j]'(by rw [Zm7]; exact h) = s[j] := rfl
theorem Zk7 {s : ByteArray} (hp : 0 < s.size) : (bl s).head? = some s[0] := by
 rw [List.head?_eq_getElem?, List.getElem?_eq_getElem (by rw [Zm7]; exact hp), Ztu]
theorem Zk8 {s : ByteArray} (h : s.size < 1) : Za8 s = false := by
 unfold Za8; rw [show decide (1 ≤ s.size) = false from nU (by omega)]; rfl
theorem Zmm {s : ByteArray} (h : 12 < s.size) : Za8 s = false := by
 unfold Za8; rw [show decide (s.size ≤ 12) = false from nU (by omega), Bool.and_false]; rfl
theorem Zoa {s : ByteArray} (hp : 0 < s.size) (h : Zb7 s[0] = true) : Za8 s = false := by
 unfold Za8; rw [Zk7 hp]; simp [h]
theorem Zob {s : ByteArray} (h : Zih s = true) : Za8 s = false := by
 unfold Za8; rw [h]; simp
theorem Zm8 {s : ByteArray} {j : Nat} (hj : j < s.size) (h : (Zbq s[j] || Zb7 s[j]) = false) : Za8 s = false := by
 unfold Za8;have : (bl s).all (fun x => Zbq x || Zb7 x) = false := by
  rw [List.all_eq_false];exact ⟨s[j], by rw [← Ztu s j hj]; exact List.getElem_mem _, by rw [h]; decide⟩
 rw [this, Bool.and_false]
theorem Zpx {s : ByteArray} (hp : 0 < s.size) (h : Zbq s[0] = false) : Za8 s = false := by
 cases hd : Zb7 s[0] with
 | true => exact Zoa hp hd
 | false => exact Zm8 hp (by rw [h, hd]; rfl)
theorem Zoc {s : ByteArray} (h1 : 1 ≤ s.size) (h2 : s.size ≤ 12) (h3 : (∃ hp : 0 < s.size, Zb7 s[0] = false) ∨ (∃ hp : 0 < s.size, Zbq s[0] = true)) (h4 : Zih s = false) (h5 : ∀ k (h : k < s.size), (Zbq s[k] || Zb7 s[k]) = true) : Za8 s = true := by
 have hd : Zb7 s[0] = false := by
  rcases h3 with ⟨_, h⟩ | ⟨_, h⟩
  ·exact h
  ·exact Zn9 h
 unfold Za8;rw [Zk7 h1, h4];simp only [Option.any_some, hd, h1, h2, decide_true, Bool.not_false, Bool.and_true, Bool.true_and];rw [List.all_eq_true];intro x hx;obtain ⟨k, hk, rfl⟩ := List.getElem_of_mem hx;rw [Zm7] at hk;rw [Ztu s k hk];exact h5 k hk
theorem Zcw (s : ByteArray) (w : World) (hs : s.size ≤ maxLen) (ht : Spc w) : Calls Tryz.prog 76 #[.string s] w fun e w' => e = .returned (.bool (Za8 s)) ∧ Below w.heap.size w w' := by
 unfold maxLen at hs;obtain ⟨R, hR⟩ : ∃ R, Za8 s = R := ⟨_, rfl⟩;rw [hR];have HR := zh hR;clear hR;have HX := zh (Zh3 s w ht);clear ht
 by_cases h1 : s.size < 1
 ·have hR0 : R = false := by rw [← HR.o, Zk8 h1]
  have t1 : decide ((s.size : Int) < 1) = true := nT (by omega);subst hR0;go_enter Tryz.func76, Tryz.ntmps76;go_wp2_with fail;go_ret;exact ⟨rfl, Below.refl _ _⟩
 have t1 : decide ((s.size : Int) < 1) = false := nU (by omega)
 by_cases h12 : 12 < s.size
 ·have hR0 : R = false := by rw [← HR.o, Zmm h12]
  have t2 : decide ((12 : Int) < s.size) = true := nT (by omega);subst hR0;go_enter Tryz.func76, Tryz.ntmps76;go_wp2_with fail;go_ret;exact ⟨rfl, Below.refl _ _⟩
 have t2 : decide ((12 : Int) < s.size) = false := nU (by omega);have hp : 0 < s.size := by omega
 have hp' : (0 : Int) < s.size := by omega
 obtain ⟨c0, hc0⟩ : ∃ c : Int, (s[0].toNat : Int) = c := ⟨_, rfl⟩;have HF := zh (fun w => Zj0 s[0] c0 hc0 w);go_enter Tryz.func76, Tryz.ntmps76;go_wp2_with fail;refine (HF.o _).mono ?_;rintro e w' ⟨rfl, hw⟩;obtain rfl := hw.symm
 by_cases hf : Zb7 s[0] = true
 ·have hR0 : R = false := by rw [← HR.o, Zoa hp hf]
  rw [hf];subst hR0;go_wp2_with fail;go_ret;exact ⟨rfl, Below.refl _ _⟩
 have hf2 : Zb7 s[0] = false := by simpa using hf
 rw [hf2];have HF2 := zh hf2;clear hf hf2 HF;go_wp2_with fail;refine HX.o.mono ?_;rintro e w1 ⟨rfl, hb1⟩
 by_cases hx : Zih s = true
 ·have hR0 : R = false := by rw [← HR.o, Zob hx]
  rw [hx];subst hR0;go_wp2_with fail;go_ret;exact ⟨rfl, hb1⟩
 have hx2 : Zih s = false := by simpa using hx
 rw [hx2];have HX2 := zh hx2;clear hx hx2 HX;go_wp2_with fail
 go_loopw [3] (fun i wr => ∃ j : Nat, i = .int .i64 j ∧ j ≤ s.size ∧ Hd (∀ k (h : k < s.size), k < j → (Zbq s[k] || Zb7 s[k]) = true) ∧ wr = w1) (fun i _ => s.size - (intOf i).toNat)
 case atStart => exact ⟨0, rfl, Nat.zero_le _, zh (fun k _ h => by omega), rfl⟩
 case round =>
  obtain ⟨j, rfl, hj, HD, hw⟩ := hrel;obtain rfl : w1 = wr := hw.symm
  by_cases hlt : j < s.size
  ·have t3 : decide ((j : Int) < s.size) = true := nT (by omega);obtain ⟨c, hc⟩ : ∃ c : Int, (s[j].toNat : Int) = c := ⟨_, rfl⟩;have HL := zh (fun w => Zm5 s[j] c hc w);have HG := zh (fun w => Zj0 s[j] c hc w);have HJ := zh (fun h => Zm8 (s := s) hlt h);have HD2 := zh (fun (h : (Zbq s[j] || Zb7 s[j]) = true) => show ∀ k (h : k < s.size), k < j + 1 → (Zbq s[k] || Zb7 s[k]) = true from fun k hk h1 => by
    rcases Nat.lt_or_ge k j with h2 | h2
    ·exact HD.o k hk h2
    ·obtain rfl : k = j := by omega
     exact h)
   go_wp2_with fail;refine (HL.o _).mono ?_;rintro e w' ⟨rfl, hw⟩;obtain rfl := hw.symm
   by_cases hl : Zbq s[j] = true
   ·rw [hl];have HD3 := zh (HD2.o (by rw [hl]; rfl));clear HD2 HJ HG HL hl;go_wp2_with fail
    go_roundw
    case rel => exact ⟨j + 1, by go_num, by omega, HD3, trivial⟩
    case measure => simp [intOf]; omega
   ·have hl2 : Zbq s[j] = false := by simpa using hl
    rw [hl2];have HL2 := zh hl2;clear hl hl2 HL;go_wp2_with fail;refine (HG.o _).mono ?_;rintro e w' ⟨rfl, hw⟩;obtain rfl := hw.symm
    by_cases hg : Zb7 s[j] = true
    ·rw [hg];have HD3 := zh (HD2.o (by rw [hg]; simp));clear HD2 HJ HG hg HL2;go_wp2_with fail
     go_roundw
     case rel => exact ⟨j + 1, by go_num, by omega, HD3, trivial⟩
     case measure => simp [intOf]; omega
    ·have hg2 : Zb7 s[j] = false := by simpa using hg
     have hR0 : R = false := by rw [← HR.o, HJ.o (by rw [HL2.o, hg2]; rfl)]
     rw [hg2];subst hR0;clear hg hg2 HG HJ HD2;go_wp2_with fail;go_ret;exact ⟨rfl, hb1⟩
  ·have t3 : decide ((j : Int) < s.size) = false := nU (by omega);have hR0 : R = true := by rw [← HR.o, Zoc (by omega) (by omega) (.inl ⟨hp, HF2.o⟩) HX2.o (fun k hk => HD.o k hk (by omega))]
   subst hR0;go_wp2_with fail;go_ret;exact ⟨rfl, hb1⟩
theorem Zcx (s : ByteArray) (w : World) (hs : s.size ≤ maxLen) : Calls Tryz.prog 67 #[.string s] w fun e w' => e = .returned (.bool (Za8 s)) ∧ Below w.heap.size w w' := by
 unfold maxLen at hs;obtain ⟨R, hR⟩ : ∃ R, Za8 s = R := ⟨_, rfl⟩;rw [hR];have HR := zh hR;clear hR;have HX := zh (Zh4 s w)
 skip
 by_cases h1 : s.size < 1
 ·have hR0 : R = false := by rw [← HR.o, Zk8 h1]
  have t1 : decide ((s.size : Int) < 1) = true := nT (by omega);subst hR0;go_enter Tryz.func67, Tryz.ntmps67;go_wp2_with fail;go_ret;exact ⟨rfl, Below.refl _ _⟩
 have t1 : decide ((s.size : Int) < 1) = false := nU (by omega)
 by_cases h12 : 12 < s.size
 ·have hR0 : R = false := by rw [← HR.o, Zmm h12]
  have t2 : decide ((12 : Int) < s.size) = true := nT (by omega);subst hR0;go_enter Tryz.func67, Tryz.ntmps67;go_wp2_with fail;go_ret;exact ⟨rfl, Below.refl _ _⟩
 have t2 : decide ((12 : Int) < s.size) = false := nU (by omega);have hp : 0 < s.size := by omega
 have hp' : (0 : Int) < s.size := by omega
 obtain ⟨c0, hc0⟩ : ∃ c : Int, (s[0].toNat : Int) = c := ⟨_, rfl⟩;have HF := zh (fun w => Zig s[0] c0 hc0 w);go_enter Tryz.func67, Tryz.ntmps67;go_wp2_with fail;refine (HF.o _).mono ?_;rintro e w' ⟨rfl, hw⟩;obtain rfl := hw.symm
 by_cases hf : Zbq s[0] = false
 ·have hR0 : R = false := by rw [← HR.o, Zpx hp hf]
  rw [hf];subst hR0;go_wp2_with fail;go_ret;exact ⟨rfl, Below.refl _ _⟩
 have hf2 : Zbq s[0] = true := by simpa using hf
 rw [hf2];have HF2 := zh hf2;clear hf hf2 HF;go_wp2_with fail;refine HX.o.mono ?_;rintro e w1 ⟨rfl, hb1⟩
 by_cases hx : Zih s = true
 ·have hR0 : R = false := by rw [← HR.o, Zob hx]
  rw [hx];subst hR0;go_wp2_with fail;go_ret;exact ⟨rfl, hb1⟩
 have hx2 : Zih s = false := by simpa using hx
 rw [hx2];have HX2 := zh hx2;clear hx hx2 HX;go_wp2_with fail
 go_loopw [3] (fun i wr => ∃ j : Nat, i = .int .i64 j ∧ j ≤ s.size ∧ Hd (∀ k (h : k < s.size), k < j → (Zbq s[k] || Zb7 s[k]) = true) ∧ wr = w1) (fun i _ => s.size - (intOf i).toNat)
 case atStart => exact ⟨0, rfl, Nat.zero_le _, zh (fun k _ h => by omega), rfl⟩
 case round =>
  obtain ⟨j, rfl, hj, HD, hw⟩ := hrel;obtain rfl : w1 = wr := hw.symm
  by_cases hlt : j < s.size
  ·have t3 : decide ((j : Int) < s.size) = true := nT (by omega);obtain ⟨c, hc⟩ : ∃ c : Int, (s[j].toNat : Int) = c := ⟨_, rfl⟩;have HL := zh (fun w => Zig s[j] c hc w);have HG := zh (fun w => Zn8 s[j] c hc w);have HJ := zh (fun h => Zm8 (s := s) hlt h);have HD2 := zh (fun (h : (Zbq s[j] || Zb7 s[j]) = true) => show ∀ k (h : k < s.size), k < j + 1 → (Zbq s[k] || Zb7 s[k]) = true from fun k hk h1 => by
    rcases Nat.lt_or_ge k j with h2 | h2
    ·exact HD.o k hk h2
    ·obtain rfl : k = j := by omega
     exact h)
   go_wp2_with fail;refine (HL.o _).mono ?_;rintro e w' ⟨rfl, hw⟩;obtain rfl := hw.symm
   by_cases hl : Zbq s[j] = true
   ·rw [hl];have HD3 := zh (HD2.o (by rw [hl]; rfl));clear HD2 HJ HG HL hl;go_wp2_with fail
    go_roundw
    case rel => exact ⟨j + 1, by go_num, by omega, HD3, trivial⟩
    case measure => simp [intOf]; omega
   ·have hl2 : Zbq s[j] = false := by simpa using hl
    rw [hl2];have HL2 := zh hl2;clear hl hl2 HL;go_wp2_with fail;refine (HG.o _).mono ?_;rintro e w' ⟨rfl, hw⟩;obtain rfl := hw.symm
    by_cases hg : Zb7 s[j] = true
    ·rw [hg];have HD3 := zh (HD2.o (by rw [hg]; simp));clear HD2 HJ HG hg HL2;go_wp2_with fail
     go_roundw
     case rel => exact ⟨j + 1, by go_num, by omega, HD3, trivial⟩
     case measure => simp [intOf]; omega
    ·have hg2 : Zb7 s[j] = false := by simpa using hg
     have hR0 : R = false := by rw [← HR.o, HJ.o (by rw [HL2.o, hg2]; rfl)]
     rw [hg2];subst hR0;clear hg hg2 HG HJ HD2;go_wp2_with fail;go_ret;exact ⟨rfl, hb1⟩
  ·have t3 : decide ((j : Int) < s.size) = false := nU (by omega);have hR0 : R = true := by rw [← HR.o, Zoc (by omega) (by omega) (.inr ⟨hp, HF2.o⟩) HX2.o (fun k hk => HD.o k hk (by omega))]
   subst hR0;go_wp2_with fail;go_ret;exact ⟨rfl, hb1⟩
section
section
variable {P : Program} {ops : Array Oper} {Q : Exit → Act → World → Prop} {md : Region.Mode} {tl pu : Nat → Bool} {S S' : World → Prop}
def Zdg (P : Program) (md : Region.Mode) (ops : Array Oper) (Q : Exit → Act → World → Prop) (tl pu : Nat → Bool) (S : World → Prop) : Nat → Array Bool → Act → World → Prop
 | 0, listed, a, w => Region.ready md ops listed = [] ∧ Q .normal a w
 | fuel + 1, listed, a, w =>
  (Region.ready md ops listed = [] → Q .normal a w) ∧
  ∀ i ∈ Region.ready md ops listed, wpOp P ops Q i (fun a' w' => ((tl i = false → S w') ∧ (pu i = true → w' = w)) ∧ Zdg P md ops Q tl pu S fuel (listed.setIfInBounds i true) a' w') a w
theorem Zge : ∀ (fuel : Nat) (listed : Array Bool) (a : Act) (w : World), Zdg P md ops Q tl pu S fuel listed a w → wpAny P md ops Q fuel listed a w
 | 0, _, _, _, h => h
 | fuel + 1, _, _, _, h => ⟨h.1, fun i hi => wpOp_mono (fun a' w' h' => Zge fuel _ a' w' h'.2) (h.2 i hi)⟩
theorem Zj1 (hs : ∀ w, S' w → S w) : ∀ (fuel : Nat) (listed : Array Bool) (a : Act) (w : World), Zdg P md ops Q tl pu S' fuel listed a w → Zdg P md ops Q tl pu S fuel listed a w
 | 0, _, _, _, h => h
 | fuel + 1, _, _, _, h => ⟨h.1, fun i hi => wpOp_mono (fun a' w' h' => ⟨⟨fun ht => hs _ (h'.1.1 ht), h'.1.2⟩, Zj1 hs fuel _ a' w' h'.2⟩) (h.2 i hi)⟩
theorem Ze6 {i : Nat} {oi : Oper} {v : Value} (hi : ops[i]? = some oi) (hsel : ∀ (j : Nat) (o : Oper) cs b, ops[j]? = some o → o.op ≠ .select cs b)
  (hQ : ∀ c a w, Q (.panic c) (a.put oi.dst v) w → Q (.panic c) a w) (htl : ∀ j, j < ops.size → tl j = true → pu j = true ∨ Zjz md ops ops.size j i = true) :
  ∀ (fuel : Nat) (listed : Array Bool) (a : Act) (w : World),
   (∀ j oj, ops[j]? = some oj → j ≠ i → listed.getD j true = false → (∀ e ∈ oj.after, Region.binds md e = true → e.on ≠ i) → oi.apart ops oj = true) → Zi8 md ops listed →
   i ∈ Region.ready md ops listed → YieldsIf P ops S oi v a → S w →
   Zdg P md ops Q tl pu S fuel (listed.setIfInBounds i true) (a.put oi.dst v) w → Zdg P md ops Q tl pu S (fuel + 1) listed a w := by
 intro fuel
 induction fuel with
 | zero =>
  intro listed a w _ _ hr hy hS H;refine ⟨fun h => (by rw [h] at hr; cases hr), fun j hj => ?_⟩
  by_cases hji : j = i
  ·subst hji; exact hy.wpOp hi hS ⟨⟨fun _ => hS, fun _ => rfl⟩, H⟩
  ·have := ready_mono hj hji;rw [H.1] at this
   cases this
 | succ fuel ih =>
  intro listed a w hfree hcl hr hy hS H;refine ⟨fun h => (by rw [h] at hr; cases hr), fun j hj => ?_⟩
  by_cases hji : j = i
  ·subst hji; exact hy.wpOp hi hS ⟨⟨fun _ => hS, fun _ => rfl⟩, H⟩
  ·have h1 := H.2 j (ready_mono hj hji);obtain ⟨hjun, oj, hoj, hall⟩ := mem_ready.1 hj;have hiun : listed.getD i false = true → False := fun h1 => by
    have h0 := (mem_ready.1 hr).1
    rcases Nat.lt_or_ge i listed.size with h' | h'
    ·simp [h'] at h0 h1; rw [h0] at h1; cases h1
    ·simp [Array.getElem?_eq_none h'] at h1
   have hnot : ∀ e ∈ oj.after, Region.binds md e = true → e.on ≠ i := fun e he hb heq => hiun (by rw [← heq]; exact hall e he hb);have hSj : ∀ w', ((tl j = false → S w') ∧ (pu j = true → w' = w)) → S w' := fun w' hw' => by
    cases ht : tl j with
    | false => exact hw'.1 ht
    | true =>
     rcases htl j (Array.getElem?_eq_some_iff.1 hoj).1 ht with h | h
     ·rw [hw'.2 h]; exact hS
     ·exact (hiun (Zev hcl _ j i oj hoj hall h)).elim
   have h2 := wpOp_putIf hoj (hfree j oj hoj hji hjun hnot) (fun cs b => hsel i oi cs b hi) (fun cs b => hsel j oj cs b hoj) hQ hy h1;have hfree' : ∀ k ok, ops[k]? = some ok → k ≠ i → (listed.setIfInBounds j true).getD k true = false →
     (∀ e ∈ ok.after, Region.binds md e = true → e.on ≠ i) → oi.apart ops ok = true := fun k ok hk hki hun hno => by
    refine hfree k ok hk hki ?_ hno
    by_cases hjk : j = k
    ·subst hjk; exact hjun
    ·rw [getD_set_ne true hjk] at hun; exact hun
   refine wpOp_mono (fun a' w' h3 => ⟨h3.2.1, ih (listed.setIfInBounds j true) a' w' hfree' (Zh1 hcl hj) (ready_mono hr (Ne.symm hji)) h3.1 (hSj w' h3.2.1) ?_⟩) h2;rw [Array.setIfInBounds_comm _ _ hji];exact h3.2.2
theorem Zj2 {i : Nat} {oi : Oper} {v : Value} (hi : ops[i]? = some oi) (hsel : ∀ (j : Nat) (o : Oper) cs b, ops[j]? = some o → o.op ≠ .select cs b)
  (hQ : ∀ c a w, Q (.panic c) (a.put oi.dst v) w → Q (.panic c) a w) (hti : tl i = true) :
  ∀ (fuel : Nat) (listed : Array Bool) (a : Act) (w : World),
   (∀ j oj, ops[j]? = some oj → j ≠ i → listed.getD j true = false → (∀ e ∈ oj.after, Region.binds md e = true → e.on ≠ i) → oi.apart ops oj = true) →
   i ∈ Region.ready md ops listed → YieldsIf P ops (fun _ => True) oi v a →
   Zdg P md ops Q tl pu S fuel (listed.setIfInBounds i true) (a.put oi.dst v) w → Zdg P md ops Q tl pu S (fuel + 1) listed a w := by
 intro fuel
 induction fuel with
 | zero =>
  intro listed a w _ hr hy H;refine ⟨fun h => (by rw [h] at hr; cases hr), fun j hj => ?_⟩
  by_cases hji : j = i
  ·subst hji; exact hy.wpOp hi trivial ⟨⟨fun h => (by rw [hti] at h; cases h), fun _ => rfl⟩, H⟩
  ·have := ready_mono hj hji;rw [H.1] at this
   cases this
 | succ fuel ih =>
  intro listed a w hfree hr hy H;refine ⟨fun h => (by rw [h] at hr; cases hr), fun j hj => ?_⟩
  by_cases hji : j = i
  ·subst hji; exact hy.wpOp hi trivial ⟨⟨fun h => (by rw [hti] at h; cases h), fun _ => rfl⟩, H⟩
  ·have h1 := H.2 j (ready_mono hj hji);obtain ⟨hjun, oj, hoj, hall⟩ := mem_ready.1 hj;have hiun : listed.getD i false = true → False := fun h1 => by
    have h0 := (mem_ready.1 hr).1
    rcases Nat.lt_or_ge i listed.size with h' | h'
    ·simp [h'] at h0 h1; rw [h0] at h1; cases h1
    ·simp [Array.getElem?_eq_none h'] at h1
   have hnot : ∀ e ∈ oj.after, Region.binds md e = true → e.on ≠ i := fun e he hb heq => hiun (by rw [← heq]; exact hall e he hb);have h2 := wpOp_putIf hoj (hfree j oj hoj hji hjun hnot) (fun cs b => hsel i oi cs b hi) (fun cs b => hsel j oj cs b hoj) hQ hy h1;have hfree' : ∀ k ok, ops[k]? = some ok → k ≠ i → (listed.setIfInBounds j true).getD k true = false →
     (∀ e ∈ ok.after, Region.binds md e = true → e.on ≠ i) → oi.apart ops ok = true := fun k ok hk hki hun hno => by
    refine hfree k ok hk hki ?_ hno
    by_cases hjk : j = k
    ·subst hjk; exact hjun
    ·rw [getD_set_ne true hjk] at hun; exact hun
   refine wpOp_mono (fun a' w' h3 => ⟨h3.2.1, ih (listed.setIfInBounds j true) a' w' hfree' (ready_mono hr (Ne.symm hji)) h3.1 ?_⟩) h2;rw [Array.setIfInBounds_comm _ _ hji];exact h3.2.2
def Zgf (L U : List Nat) (j : Nat) : Bool := L.contains j || U.contains j
def Zgz (U : List Nat) (j : Nat) : Bool := U.contains j
def Zyv (md : Region.Mode) (ops : Array Oper) (L : List Nat) (i : Nat) : Bool := L.all fun j => Zjz md ops ops.size j i
def Zhv (ops : Array Oper) (L : List Nat) (listed : Array Bool) (i : Nat) : Bool :=
 Region.noSelect ops && Region.free .any ops listed i && (Region.ready .any ops listed).contains i && Zqj .any ops listed && Zyv .any ops L i
def Zxb (ops : Array Oper) (U : List Nat) (listed : Array Bool) (i : Nat) : Bool :=
 Region.noSelect ops && Region.free .any ops listed i && (Region.ready .any ops listed).contains i && U.contains i
def wpU (P : Program) (ops : Array Oper) (Q : Exit → Act → World → Prop) (L U : List Nat) (fuel : Nat) (listed : Array Bool) (a : Act) (w : World) : Prop :=
 Zdg P .any ops Q (Zgf L U) (Zgz U) (Zb w) fuel listed a w
theorem Zx (L U : List Nat) {id : Nat} {a : Act} {w : World} (hm : P.follows .mixedOrders = true)
  (h : ∀ w1, w1 = w.drew → wpU P ops Q L U ops.size (Array.replicate ops.size false) a w1) : (Code.region id ops true).wp P Q a w :=
 wp_region_any hm (Zge _ _ _ _ (h w.drew rfl))
theorem Ztv (i : Nat) (d : Option Tmp) {L U : List Nat} {oi : Oper} {v : Value} {fuel : Nat} {listed : Array Bool} {a : Act} {w : World} (hi : ops[i]? = some oi) (hd : oi.dst = d)
  (hB : Zhv ops L listed i = true)
  (hQ : ∀ c a w, Q (.panic c) (a.put d v) w → Q (.panic c) a w)
  (hw : Region.wanted oi (yielded ops a.tmps) = true) (hy : ∀ x, Zb w x → (execOp a.eval oi).run P x = .ok (.value v) x)
  (h : wpU P ops Q L U fuel (listed.setIfInBounds i true) (a.put d v) w) : wpU P ops Q L U (fuel + 1) listed a w := by
 subst hd;simp only [Zhv, Bool.and_eq_true] at hB;obtain ⟨⟨⟨⟨hs, hf⟩, hr⟩, hc⟩, ht⟩ := hB;refine Ze6 hi (Region.noSelect_spec hs) hQ (fun j _ htj => ?_) fuel listed a w (Region.free_spec hi hf) (Zhi hc) (by simpa using hr) (.inl ⟨hw, hy⟩) (Zb.refl w) h;simp only [Zgf, Bool.or_eq_true] at htj
 rcases htj with h1 | h1
 ·exact .inr (List.all_eq_true.1 ht j (by simpa using h1))
 ·exact .inl h1
theorem Zk9 (i : Nat) (d : Option Tmp) {L U : List Nat} {oi : Oper} {v : Value} {fuel : Nat} {listed : Array Bool} {a : Act} {w : World} (hi : ops[i]? = some oi) (hd : oi.dst = d)
  (hB : Zxb ops U listed i = true)
  (hQ : ∀ c a w, Q (.panic c) (a.put d v) w → Q (.panic c) a w)
  (hw : Region.wanted oi (yielded ops a.tmps) = true) (hy : ∀ x, (execOp a.eval oi).run P x = .ok (.value v) x)
  (h : wpU P ops Q L U fuel (listed.setIfInBounds i true) (a.put d v) w) : wpU P ops Q L U (fuel + 1) listed a w := by
 subst hd;simp only [Zxb, Bool.and_eq_true] at hB;obtain ⟨⟨⟨hs, hf⟩, hr⟩, hu⟩ := hB;exact Zj2 hi (Region.noSelect_spec hs) hQ (by simp only [Zgf, Bool.or_eq_true]; exact .inr hu) fuel listed a w (Region.free_spec hi hf) (by simpa using hr) (.inl ⟨hw, fun x _ => hy x⟩) h
theorem Z5 (i : Nat) {L U : List Nat} {o : Oper} {fuel : Nat} {listed : Array Bool} {a : Act} {w : World} (hr : Region.ready .any ops listed = [i]) (hu : U.contains i = false) (ho : ops[i]? = some o)
  (h : wpList P ops (Zn1 Q w (fun a' w' => wpU P ops Q L U fuel (listed.setIfInBounds i true) a' w')) [o] a w) : wpU P ops Q L U (fuel + 1) listed a w := by
 refine ⟨fun h0 => (by rw [hr] at h0; cases h0), fun j hj => ?_⟩;rw [hr] at hj;obtain rfl : j = i := by simpa using hj
 unfold wpList at h;unfold wpOp;rw [ho];have hK : ∀ a' w', wpList P ops (Zn1 Q w (fun a' w' => wpU P ops Q L U fuel (listed.setIfInBounds j true) a' w')) [] a' w' →
   (((Zgf L U j = false → Zb w w') ∧ (Zgz U j = true → w' = w)) ∧ Zdg P .any ops Q (Zgf L U) (Zgz U) (Zb w) fuel (listed.setIfInBounds j true) a' w') := fun a' w' h' =>
  ⟨⟨fun _ => h'.1, fun h0 => (by unfold Zgz at h0; rw [hu] at h0; cases h0)⟩, Zj1 (fun x hx => h'.1.trans hx) _ _ _ _ h'.2⟩
 have hup : o.wp P a w (wpList P ops (Zn1 Q w (fun a' w' => wpU P ops Q L U fuel (listed.setIfInBounds j true) a' w')) []) (Zn1 Q w (fun a' w' => wpU P ops Q L U fuel (listed.setIfInBounds j true) a' w')) →
   o.wp P a w (wpList P ops (Zn1 Q w (fun a' w' => wpU P ops Q L U fuel (listed.setIfInBounds j true) a' w')) []) Q := fun h' => by
  unfold Oper.wp at *
  generalize (execOp a.eval o).run P w = r at *
  cases r with
  | ok n w' => cases n <;> exact h'
  | halt x w' => cases x <;> exact h'
 show if Region.wanted o (yielded ops a.tmps) = true then _ else _
 split
 ·rename_i hw;rw [if_pos hw] at h
  rcases h with h | ⟨h1, h2⟩
  ·exact .inl (Oper.wp_mono hK (hup h))
  ·exact .inr ⟨h1, h2⟩
 ·rename_i hw;rw [if_neg hw] at h;exact hK _ _ h
theorem Zjd {U : List Nat} {S : World → Prop} (L0 : List Nat) : ∀ (L : List Nat) (os : List Oper) (listed : Array Bool) (a : Act) (w : World), Zga ops L listed = true → (∀ i ∈ L, L0.contains i = true ∧ U.contains i = false) → L.map (ops[·]?) = os.map some →
  wpList P ops Q os a w → Zdg P .any ops Q (Zgf L0 U) (Zgz U) S L.length listed a w
 | [], os, listed, a, w, hch, _, hos, h => by
  have : os = [] := by cases os with
   | nil => rfl
   | cons => simp at hos
  subst this;exact ⟨by simpa [Zga] using hch, h⟩
 | i :: L, os, listed, a, w, hch, htl, hos, h => by
  obtain ⟨o, os', rfl⟩ : ∃ o os', os = o :: os' := by cases os with
   | nil => simp at hos
   | cons o os' => exact ⟨o, os', rfl⟩
  simp only [List.map_cons, List.cons.injEq] at hos;simp only [Zga, Bool.and_eq_true, beq_iff_eq] at hch;obtain ⟨hr, hch'⟩ := hch;refine ⟨fun h0 => (by rw [hr] at h0; cases h0), fun j hj => ?_⟩;rw [hr] at hj;obtain rfl : j = i := by simpa using hj
  have hj2 := htl j (by simp);have hK : ∀ a' w', wpList P ops Q os' a' w' → (((Zgf L0 U j = false → S w') ∧ (Zgz U j = true → w' = w)) ∧ Zdg P .any ops Q (Zgf L0 U) (Zgz U) S L.length (listed.setIfInBounds j true) a' w') := fun a' w' h' =>
   ⟨⟨fun ht => (by unfold Zgf at ht; rw [hj2.1] at ht; cases ht), fun ht => (by unfold Zgz at ht; rw [hj2.2] at ht; cases ht)⟩, Zjd L0 L os' _ a' w' hch' (fun k hk => htl k (by simp [hk])) hos.2 h'⟩
  unfold wpList at h;unfold wpOp;rw [hos.1];show if Region.wanted o (yielded ops a.tmps) = true then _ else _
  split
  ·rename_i hw;rw [if_pos hw] at h;exact h.imp (Oper.wp_mono hK) id
  ·rename_i hw;rw [if_neg hw] at h;exact hK _ _ h
def Zqm (ops : Array Oper) (L U : List Nat) (listed : Array Bool) : Bool := Zga ops L listed && L.all fun i => !U.contains i
theorem Z6 {L U : List Nat} (os : List Oper) {n : Nat} {listed : Array Bool} {a : Act} {w : World} (hB : Zqm ops L U listed = true) (hn : L.length = n) (hos : L.map (ops[·]?) = os.map some)
  (h : wpList P ops Q os a w) : wpU P ops Q L U n listed a w := by
 subst hn;simp only [Zqm, Bool.and_eq_true] at hB;exact Zjd L L os listed a w hB.1 (fun i hi => ⟨by simpa using hi, by simpa using List.all_eq_true.1 hB.2 i hi⟩) hos h
end
theorem uU {P : Program} {ops : Array Oper} {Q : Exit → Act → World → Prop} (i d : Nat) {L U : List Nat} {oi : Oper} {v : Value} {fuel : Nat} {listed : Array Bool} {a : Act} {w : World} (h : wpU P ops Q L U fuel (listed.setIfInBounds i true) (a.put (some d) v) w) (hi : ops[i]? = some oi := by exact rfl) (hd : oi.dst = some d := by exact rfl) (hy : ∀ x, Zb w x → (execOp a.eval oi).run P x = .ok (.value v) x := by intro x hx; go_simp <;> first | with_reducible rfl | rw [if_neg (by omega)] | rw [if_pos (by omega)]) (hB : Zhv ops L listed i = true := by kernel_rfl) (hQ : ∀ c a w, Q (.panic c) (a.put (some d) v) w → Q (.panic c) a w := by exact fun _ _ _ h => h) (hw : Region.wanted oi (yielded ops a.tmps) = true := by rfl) : wpU P ops Q L U (fuel + 1) listed a w := Ztv i (some d) hi hd hB hQ hw hy h
theorem Zb8 {P : Program} {id : Nat} {Q : Exit → Act → World → Prop} {a : Act} {w : World} {l : List Oper} 
  (h : ∀ W, W = w.drew → wpQuiet P l.toArray (fun x => x = W) (fun a' => Q .normal a' W) l a) (hm : P.follows .mixedOrders = true := by kernel_rfl) (hB : Region.lexB .any l.toArray = true := by kernel_rfl) : (Code.region id l.toArray true).wp P Q a w :=
 wp_region_quiet (C := fun x => x = w.drew) hm hB rfl (by simpa using h w.drew rfl)
end
theorem Zmn {l : List ByteArray} (h : ∀ k (hk : k < l.length), Za8 l[k] = true) : l.all Za8 = true := by
 rw [List.all_eq_true];intro x hx;obtain ⟨k, hk, rfl⟩ := List.getElem_of_mem hx;exact h k hk
theorem Zod {l : List ByteArray} {j : Nat} (hj : j < l.length) (h : Za8 l[j] = false) : l.all Za8 = false := by
 rw [List.all_eq_false];exact ⟨_, List.getElem_mem hj, by rw [h]; decide⟩
def twB (l : List ByteArray) : Bool := (List.range l.length).any fun j => Zbm (l.take j) (l.getD j ⟨#[]⟩)
theorem Zqn {l : List ByteArray} {j : Nat} (hj : j < l.length) (d : ByteArray) : l.getD j d = l[j] := by
 rw [List.getD_eq_getElem?_getD, List.getElem?_eq_getElem hj]; rfl
theorem Zqo {l : List ByteArray} {j : Nat} (hj : j < l.length) (h : Zbm (l.take j) l[j] = true) : twB l = true := by
 unfold twB;rw [List.any_eq_true];exact ⟨j, List.mem_range.2 hj, by rw [Zqn hj]; exact h⟩
theorem Ztw {l : List ByteArray} (h : ∀ k (hk : k < l.length), Zbm (l.take k) l[k] = false) : twB l = false := by
 unfold twB;rw [List.any_eq_false];intro j hj;rw [List.mem_range] at hj;rw [Zqn hj, h j hj]
 decide
theorem Zq.take {α : Type} {El : Zaj α} {size : Nat} {F : Nat → Prop} {w : World} {l : List α} {A : Option Addr} {n c j : Nat} (hj : j ≤ l.length) (h : Zq El size F w l (.slice A n c)) : Zq El size F w (l.take j) (.slice A j c) := by
 obtain ⟨A', c', e, h1, h2, h3⟩ := h;cases e;have hlen : (l.take j).length = j := by rw [List.length_take]; omega
 refine ⟨A, c, by rw [hlen], by omega, h2, fun i hi => ?_⟩;obtain ⟨b, o, cs, e, hF, hb, hel, hc⟩ := h3 i (by omega);exact ⟨b, o, cs, e, hF, hb, by rw [List.getElem_take]; exact hel, hc⟩
theorem Ze7 (l : List ByteArray) (v : Value) (F : Nat → Prop) (w : World) (hr : Zq Zah 1 F w l v) (ht : Spc w) : Calls Tryz.prog 75 #[v] w fun e w' => e = .returned (.bool (l.all Za8)) ∧ Below w.heap.size w w' := by
 obtain ⟨A, c, rfl, hc, hcm, hel⟩ := hr;unfold maxLen at hcm;have HEL := zh hel;obtain ⟨R, hR⟩ : ∃ R, (l.all Za8) = R := ⟨_, rfl⟩;rw [hR];have HR := zh hR;have HT := zh ht;clear hR hel ht;go_enter Tryz.func75, Tryz.ntmps75;go_wp2_with fail
 go_loopw [7] (fun i wr => ∃ j : Nat, i = .int .i64 j ∧ j ≤ l.length ∧ Hd (∀ k (h : k < l.length), k < j → Za8 l[k] = true) ∧ Below w.heap.size w wr) (fun i _ => l.length - (intOf i).toNat)
 case atStart => exact ⟨0, rfl, Nat.zero_le _, zh (fun k _ h => by omega), Below.refl _ _⟩
 case round =>
  obtain ⟨j, rfl, hj, HD, hbel⟩ := hrel;have hsz := hbel.size
  by_cases hlt : j < l.length
  ·obtain ⟨b, o, cs, rfl, hF, hbl, hE, hcell⟩ := HEL.o j hlt;obtain ⟨rfl, hsm⟩ := hE;have t1 : decide ((j : Int) < l.length) = true := nT (by omega);have hlt' : (j : Int) < l.length := by omega
   have e0 := (hbel.cell (p := ⟨b, o + j * 1 + 0, none⟩) hbl).trans (hcell 0 _ rfl);simp only [Nat.mul_one, Nat.add_zero] at e0;obtain ⟨s, hs⟩ : ∃ s, l[j] = s := ⟨_, rfl⟩;rw [hs] at e0 hsm;have HN := zh (Zcw s wr hsm (HT.o.below hbel));have HD2 := zh (fun (h : Za8 s = true) => show ∀ k (h : k < l.length), k < j + 1 → Za8 l[k] = true from fun k hk h1 => by
    rcases Nat.lt_or_ge k j with h2 | h2
    ·exact HD.o k hk h2
    ·obtain rfl : k = j := by omega
     rw [hs]; exact h)
   have HNO := zh (fun (h : Za8 s = false) => Zod hlt (by rw [hs]; exact h));clear hcell hsm hs;go_wp2_with fail;refine HN.o.mono ?_;rintro e w1 ⟨rfl, hb1⟩;have hbel1 := hbel.trans (Below.mono hb1 hsz);clear e0 hb1
   by_cases hn : Za8 s = true
   ·have HD3 := zh (HD2.o hn);rw [hn];clear HD2 HNO HN hn;go_wp2_with fail
    go_roundw
    case rel => exact ⟨j + 1, by go_num, by omega, HD3, hbel1⟩
    case measure => simp [intOf]; omega
   ·have hn2 : Za8 s = false := by simpa using hn
    have hR0 : R = false := by rw [← HR.o, HNO.o hn2]
    rw [hn2];subst hR0;clear hn hn2 HNO HD2 HN;go_wp2_with fail;go_ret;exact ⟨rfl, hbel1⟩
  ·have t1 : decide ((j : Int) < l.length) = false := nU (by omega);have hR0 : R = true := by rw [← HR.o, Zmn (fun k hk => HD.o k hk (by omega))]
   subst hR0;go_wp2_with fail;go_ret;exact ⟨rfl, hbel⟩
theorem Zei (l : List ByteArray) (v : Value) (Zp8 : Int) (F : Nat → Prop) (w : World) (hr : Zq Zah 1 F w l v) : Calls Tryz.prog 65 #[v, .int .i64 Zp8] w fun e w' => e = .returned (.bool (l.all Za8 && decide ((l.length : Int) ≤ Zp8))) ∧ Below w.heap.size w w' := by
 obtain ⟨A, c, rfl, hc, hcm, hel⟩ := hr;unfold maxLen at hcm;have HEL := zh hel;obtain ⟨R, hR⟩ : ∃ R, (l.all Za8 && decide ((l.length : Int) ≤ Zp8)) = R := ⟨_, rfl⟩;rw [hR];have HR := zh hR
 skip
 clear hR hel;go_enter Tryz.func65, Tryz.ntmps65;go_wp2_with fail
 go_loopw [5] (fun i wr => ∃ j : Nat, i = .int .i64 j ∧ j ≤ l.length ∧ Hd (∀ k (h : k < l.length), k < j → Za8 l[k] = true) ∧ Below w.heap.size w wr) (fun i _ => l.length - (intOf i).toNat)
 case atStart => exact ⟨0, rfl, Nat.zero_le _, zh (fun k _ h => by omega), Below.refl _ _⟩
 case round =>
  obtain ⟨j, rfl, hj, HD, hbel⟩ := hrel;have hsz := hbel.size
  by_cases hlt : j < l.length
  ·obtain ⟨b, o, cs, rfl, hF, hbl, hE, hcell⟩ := HEL.o j hlt;obtain ⟨rfl, hsm⟩ := hE;have t1 : decide ((j : Int) < l.length) = true := nT (by omega);have hlt' : (j : Int) < l.length := by omega
   have e0 := (hbel.cell (p := ⟨b, o + j * 1 + 0, none⟩) hbl).trans (hcell 0 _ rfl);simp only [Nat.mul_one, Nat.add_zero] at e0;obtain ⟨s, hs⟩ : ∃ s, l[j] = s := ⟨_, rfl⟩;rw [hs] at e0 hsm;have HN := zh (Zcx s wr hsm);have HD2 := zh (fun (h : Za8 s = true) => show ∀ k (h : k < l.length), k < j + 1 → Za8 l[k] = true from fun k hk h1 => by
    rcases Nat.lt_or_ge k j with h2 | h2
    ·exact HD.o k hk h2
    ·obtain rfl : k = j := by omega
     rw [hs]; exact h)
   have HNO := zh (fun (h : Za8 s = false) => Zod hlt (by rw [hs]; exact h));clear hcell hsm hs;go_wp2_with fail;refine HN.o.mono ?_;rintro e w1 ⟨rfl, hb1⟩;have hbel1 := hbel.trans (Below.mono hb1 hsz);clear e0 hb1
   by_cases hn : Za8 s = true
   ·have HD3 := zh (HD2.o hn);rw [hn];clear HD2 HNO HN hn;go_wp2_with fail
    go_roundw
    case rel => exact ⟨j + 1, by go_num, by omega, HD3, hbel1⟩
    case measure => simp [intOf]; omega
   ·have hn2 : Za8 s = false := by simpa using hn
    have hR0 : R = false := by rw [← HR.o, HNO.o hn2]; rfl
    rw [hn2];subst hR0;clear hn hn2 HNO HD2 HN;go_wp2_with fail;go_ret;exact ⟨rfl, hbel1⟩
  ·have t1 : decide ((j : Int) < l.length) = false := nU (by omega);have hR0 : R = decide ((l.length : Int) ≤ Zp8) := by rw [← HR.o, Zmn (fun k hk => HD.o k hk (by omega)), Bool.true_and]
   subst hR0;go_wp2_with fail;go_ret;exact ⟨rfl, hbel⟩
theorem Zj3 (l : List ByteArray) (v : Value) (F : Nat → Prop) (w : World) (hr : Zq Zah 1 F w l v) : Calls Tryz.prog 68 #[v] w fun e w' => e = .returned (.bool (twB l)) ∧ w' = w := by
 have HROW := zh hr;obtain ⟨A, c, rfl, hc, hcm, hel⟩ := hr;unfold maxLen at hcm;have HEL := zh hel;obtain ⟨R, hR⟩ : ∃ R, twB l = R := ⟨_, rfl⟩;rw [hR];have HR := zh hR;clear hR hel;go_enter Tryz.func68, Tryz.ntmps68;go_wp2_with fail
 go_loopw [3] (fun i wr => ∃ j : Nat, i = .int .i64 j ∧ j ≤ l.length ∧ Hd (∀ k (h : k < l.length), k < j → Zbm (l.take k) l[k] = false) ∧ wr = w) (fun i _ => l.length - (intOf i).toNat)
 case atStart => exact ⟨0, rfl, Nat.zero_le _, zh (fun k _ h => by omega), rfl⟩
 case round =>
  obtain ⟨j, rfl, hj, HD, hw⟩ := hrel;obtain rfl : w = wr := hw.symm
  by_cases hlt : j < l.length
  ·obtain ⟨b, o, cs, rfl, hF, hbl, hE, hcell⟩ := HEL.o j hlt;obtain ⟨rfl, hsm⟩ := hE;have t1 : decide ((j : Int) < l.length) = true := nT (by omega);have hlt' : (j : Int) < l.length := by omega
   have e0 := hcell 0 _ rfl;simp only [Nat.mul_one, Nat.add_zero] at e0;have hff := Ztm hlt;have HYES := zh (fun h => Zqo hlt h);have HD2 := zh (fun (h : Zbm (l.take j) l[j] = false) => show ∀ k (h : k < l.length), k < j + 1 → Zbm (l.take k) l[k] = false from fun k hk h1 => by
    rcases Nat.lt_or_ge k j with h2 | h2
    ·exact HD.o k hk h2
    ·obtain rfl : k = j := by omega
     exact h)
   obtain ⟨s, hs⟩ : ∃ s, l[j] = s := ⟨_, rfl⟩;rw [hs] at e0 hff HYES HD2;have HN := zh (Zbv l _ s F w HROW.o);obtain ⟨z, hz⟩ : ∃ z, Zak l s = z := ⟨_, rfl⟩;rw [hz] at HN hff;clear hcell hsm hs hz;go_wp2_with fail;refine HN.o.mono ?_;rintro e w1 ⟨rfl, hw1⟩;obtain rfl := hw1.symm;clear e0
   by_cases hn : Zbm (l.take j) s = true
   ·have hR0 : R = true := by rw [← HR.o, HYES.o hn]
    rw [hn] at hff;subst hR0;clear hn HYES HD2 HN;go_wp2_with fail;go_ret;exact ⟨rfl, rfl⟩
   ·have hn2 : Zbm (l.take j) s = false := by simpa using hn
    have HD3 := zh (HD2.o hn2);rw [hn2] at hff;clear hn hn2 HYES HD2 HN;go_wp2_with fail
    go_roundw
    case rel => exact ⟨j + 1, by go_num, by omega, HD3, trivial⟩
    case measure => simp [intOf]; omega
  ·have t1 : decide ((j : Int) < l.length) = false := nU (by omega);have hR0 : R = false := by rw [← HR.o, Ztw (fun k hk => HD.o k hk (by omega))]
   subst hR0;go_wp2_with fail;go_ret;exact ⟨rfl, rfl⟩
theorem Zij (l : List ByteArray) (v : Value) (F : Nat → Prop) (w : World) (hr : Zq Zah 1 F w l v) : Calls Tryz.prog 131 #[v] w fun e w' => e = .returned (.bool (twB l)) ∧ Below w.heap.size w w' := by
 have HROW := zh hr;obtain ⟨A, c, rfl, hc, hcm, hel⟩ := hr;unfold maxLen at hcm;have HEL := zh hel;obtain ⟨R, hR⟩ : ∃ R, twB l = R := ⟨_, rfl⟩;rw [hR];have HR := zh hR;clear hR hel;go_enter Tryz.func131, Tryz.ntmps131;go_wp2_with fail
 go_loopw [6] (fun i wr => ∃ j : Nat, i = .int .i64 j ∧ j ≤ l.length ∧ Hd (∀ k (h : k < l.length), k < j → Zbm (l.take k) l[k] = false) ∧ Below w.heap.size w wr) (fun i _ => l.length - (intOf i).toNat)
 case atStart => exact ⟨0, rfl, Nat.zero_le _, zh (fun k _ h => by omega), Below.refl _ _⟩
 case round =>
  obtain ⟨j, rfl, hj, HD, hbel⟩ := hrel;have hsz := hbel.size
  by_cases hlt : j < l.length
  ·obtain ⟨b, o, cs, rfl, hF, hbl, hE, hcell⟩ := HEL.o j hlt;obtain ⟨rfl, hsm⟩ := hE;have t1 : decide ((j : Int) < l.length) = true := nT (by omega);have hlt' : (j : Int) < l.length := by omega
   have e0 := (hbel.cell (p := ⟨b, o + j * 1 + 0, none⟩) hbl).trans (hcell 0 _ rfl);simp only [Nat.mul_one, Nat.add_zero] at e0;have HYES := zh (fun h => Zqo hlt h);have HD2 := zh (fun (h : Zbm (l.take j) l[j] = false) => show ∀ k (h : k < l.length), k < j + 1 → Zbm (l.take k) l[k] = false from fun k hk h1 => by
    rcases Nat.lt_or_ge k j with h2 | h2
    ·exact HD.o k hk h2
    ·obtain rfl : k = j := by omega
     exact h)
   obtain ⟨s, hs⟩ : ∃ s, l[j] = s := ⟨_, rfl⟩;rw [hs] at e0 HYES HD2;have hbr : b < wr.heap.size := Nat.lt_of_lt_of_le hbl hsz;have hjc : j ≤ c := by omega
   have hjc' : (j : Int) ≤ c := by omega
   have HTK := zh (Zq.take hj (HROW.o.later Zg hbel));clear hcell hsm hs;go_upto_region 4 with (fail);refine Zx [7] [] (by kernel_rfl) (fun W hW => ?_);have hWL : Zb wr W := by rw [hW]; exact (Zb.refl _).drew
   have eW := (hWL.cell ⟨b, o + j, none⟩ hbr).trans e0;have hbW : b < W.heap.size := Nat.lt_of_lt_of_le hbr hWL.size;clear hW;refine uU 0 9 ?_;simp only [yN];refine uU 1 10 ?_;simp only [yN];refine uU 2 11 ?_;simp only [yN];refine uU 3 12 ?_;simp only [yN];refine uU 4 13 ?_;simp only [yN];refine uU 5 14 ?_;simp only [yN];refine uU 6 15 (hy := fun x hx => by have hx0 := (hx.cell ⟨b, o + j, none⟩ hbW).trans eW; go_simp <;> first | with_reducible rfl | rw [if_neg (by omega)] | rw [if_pos (by omega)]) ?_;simp only [yN];refine Z6 [_] (by kernel_rfl) rfl rfl ?_;simp only [gA, gB, gC];have HN := zh (Zcn (l.take j) _ s F W (HTK.o.later Zg hWL));have hbel1 := hbel.trans (Below.mono hWL hsz);clear e0 eW hWL hbW hbr;go_wp2_with fail;refine HN.o.mono ?_;rintro e w1 ⟨rfl, hw1⟩;obtain rfl := hw1.symm
   by_cases hn : Zbm (l.take j) s = true
   ·have hR0 : R = true := by rw [← HR.o, HYES.o hn]
    rw [hn];subst hR0;clear hn HYES HD2 HN;go_wp2_with fail;go_ret;exact ⟨rfl, hbel1⟩
   ·have hn2 : Zbm (l.take j) s = false := by simpa using hn
    have HD3 := zh (HD2.o hn2);rw [hn2];clear hn hn2 HYES HD2 HN;go_wp2_with fail
    go_roundw
    case rel => exact ⟨j + 1, by go_num, by omega, HD3, hbel1⟩
    case measure => simp [intOf]; omega
  ·have t1 : decide ((j : Int) < l.length) = false := nU (by omega);have hR0 : R = false := by rw [← HR.o, Ztw (fun k hk => HD.o k hk (by omega))]
   subst hR0;go_wp2_with fail;go_ret;exact ⟨rfl, hbel⟩
def bit (x : Int) (k : Nat) : Bool := bits .and .u64 (IntKind.u64.wrap x / 2 ^ k) 1 == 1
theorem Zla (x : Int) : IntKind.u64.wrap x = ((BitVec.ofInt 64 x).toNat : Int) := by
 rw [BitVec.toNat_ofInt];have : IntKind.u64.wrap x = x % 18446744073709551616 := by rw [IntKind.wrap_u64]
 rw [this]; omega
theorem Zm9 (x : Int) (k : Nat) : bit x k = (BitVec.ofInt 64 x).getLsbD k := by
 unfold bit;rw [Zla]
 generalize BitVec.ofInt 64 x = X
 have hX := X.isLt;have e : ((X.toNat : Int) / 2 ^ k) = ((X.toNat / 2 ^ k : Nat) : Int) := by simp
 have hle : X.toNat / 2 ^ k ≤ X.toNat := Nat.div_le_self _ _;rw [e, show (1 : Int) = ((1 : Nat) : Int) from rfl, u64_and_nat _ _ (by omega) (by omega)];rw [BitVec.getLsbD, Nat.testBit, Nat.shiftRight_eq_div_pow, Nat.and_comm]
 rcases Nat.mod_two_eq_zero_or_one (X.toNat / 2 ^ k) with h | h <;> simp [h]
theorem Ztx (x y : Int) : bits .and .i64 x y = IntKind.i64.wrap ((BitVec.ofInt 64 x &&& BitVec.ofInt 64 y).toNat : Int) := rfl
theorem Zoe (x : Int) (k : Nat) (hk : k < 64) : (bits .and .i64 x (wrap64 (2 ^ k)) != 0) = bit x k := by
 rw [Zm9, Ztx];have e : BitVec.ofInt 64 (wrap64 (2 ^ k)) = BitVec.twoPow 64 k := by
  apply BitVec.eq_of_toNat_eq
  rw [BitVec.toNat_ofInt, BitVec.toNat_twoPow];have hp : (2 : Nat) ^ k < 2 ^ 64 := Nat.pow_lt_pow_right (by decide) hk;have hc : ((2 : Int) ^ k) = ((2 ^ k : Nat) : Int) := by simp
  rw [hc];unfold wrap64;rw [Nat.mod_eq_of_lt hp]
  generalize 2 ^ k = n at *
  omega
 rw [e, BitVec.and_twoPow]
 cases h : (BitVec.ofInt 64 x).getLsbD k
 ·simp
  rfl
 ·simp only [if_true];have hp : (2 : Nat) ^ k < 2 ^ 64 := Nat.pow_lt_pow_right (by decide) hk;have hpos : 0 < (2 : Nat) ^ k := Nat.pow_pos (by decide);rw [BitVec.toNat_twoPow, Nat.mod_eq_of_lt hp, IntKind.wrap_i64]
  generalize 2 ^ k = n at *
  simp
  omega
def hb (lo hi b : Int) : Bool := if 127 < b then false else if b < 64 then bit lo b.toNat else bit hi (b - 64).toNat
theorem Zty (lo hi b : Int) (h : 127 < b) : hb lo hi b = false := by unfold hb; rw [if_pos h]
theorem Zmo (lo hi b : Int) (_h0 : 0 ≤ b) (h : b < 64) : hb lo hi b = bit lo b.toNat := by unfold hb; rw [if_neg (by omega), if_pos h]
theorem Zmp (lo hi b : Int) (h0 : 64 ≤ b) (h : b ≤ 127) : hb lo hi b = bit hi (b - 64).toNat := by unfold hb; rw [if_neg (by omega), if_neg (by omega)]
theorem Zpy (X : BitVec 64) : BitVec.ofInt 64 (IntKind.i64.wrap (X.toNat : Int)) = X := by
 apply BitVec.eq_of_toNat_eq
 rw [BitVec.toNat_ofInt, IntKind.wrap_i64];have := X.isLt
 omega
theorem Ztz (x : Int) (k j : Nat) (hk : k < 64) (hj : j < 64) : bit (bits .or .i64 x (wrap64 (2 ^ k))) j = (bit x j || decide (j = k)) := by
 rw [Zm9, Zm9, show bits .or .i64 x (wrap64 (2 ^ k)) = IntKind.i64.wrap ((BitVec.ofInt 64 x ||| BitVec.ofInt 64 (wrap64 (2 ^ k))).toNat : Int) from rfl, Zpy, BitVec.getLsbD_or]
 congr 1
 have e : BitVec.ofInt 64 (wrap64 (2 ^ k)) = BitVec.twoPow 64 k := by
  apply BitVec.eq_of_toNat_eq
  rw [BitVec.toNat_ofInt, BitVec.toNat_twoPow];have hp : (2 : Nat) ^ k < 2 ^ 64 := Nat.pow_lt_pow_right (by decide) hk;have hc : ((2 : Int) ^ k) = ((2 ^ k : Nat) : Int) := by simp
  rw [hc];unfold wrap64;rw [Nat.mod_eq_of_lt hp]
  generalize 2 ^ k = n at *
  omega
 rw [e, BitVec.getLsbD_twoPow];have : (64 : Nat) > j := hj
 by_cases h : k = j
 ·subst h; simp [hk]
 ·have h' : ¬ j = k := fun e => h e.symm;simp [h, h']
theorem Zt0 (lo hi b c : Int) (hb0 : 0 ≤ b) (hb1 : b ≤ 127) (h0 : 0 ≤ c) (h1 : c < 64) : hb (bits .or .i64 lo (wrap64 (2 ^ c.toNat))) hi b = (hb lo hi b || decide (b = c)) := by
 by_cases h : b < 64
 ·rw [Zmo _ _ _ hb0 h, Zmo _ _ _ hb0 h, Ztz _ _ _ (by omega) (by omega)]
  congr 1
  exact decide_eq_decide.2 (by omega)
 ·rw [Zmp _ _ _ (by omega) hb1, Zmp _ _ _ (by omega) hb1, show decide (b = c) = false from nU (by omega), Bool.or_false]
theorem Zt1 (lo hi b c : Int) (hb0 : 0 ≤ b) (hb1 : b ≤ 127) (h0 : 64 ≤ c) (h1 : c ≤ 127) : hb lo (bits .or .i64 hi (wrap64 (2 ^ (c - 64).toNat))) b = (hb lo hi b || decide (b = c)) := by
 by_cases h : b < 64
 ·rw [Zmo _ _ _ hb0 h, Zmo _ _ _ hb0 h, show decide (b = c) = false from nU (by omega), Bool.or_false]
 ·rw [Zmp _ _ _ (by omega) hb1, Zmp _ _ _ (by omega) hb1, Ztz _ _ _ (by omega) (by omega)]
  congr 1
  exact decide_eq_decide.2 (by omega)
theorem Zt2 (b : Int) (_h0 : 0 ≤ b) (_h1 : b ≤ 127) : hb 0 0 b = false := by
 unfold hb
 split
 ·rfl
 ·split <;> (rw [Zm9]; simp)
/-! ### The text of a set -/
def Zje (s : List UInt8) : Bool := decide (∀ x ∈ s, x.toNat ≤ 127) && decide (s.Pairwise fun a b => a.toNat < b.toNat)
def Zbp (lo hi : Int) (n : Nat) : List UInt8 := ((List.range n).filter fun b : Nat => hb lo hi (b : Int)).map UInt8.ofNat
theorem Zik (lo hi : Int) (n : Nat) : Zbp lo hi (n + 1) = Zbp lo hi n ++ if hb lo hi (n : Int) then [UInt8.ofNat n] else [] := by
 unfold Zbp;rw [List.range_succ, List.filter_append, List.map_append]
 congr 1
 cases h : hb lo hi (n : Int) <;> simp [h]
theorem Zj4 (lo hi : Int) (n : Nat) : (Zbp lo hi n).length ≤ n := by
 unfold Zbp;rw [List.length_map];exact Nat.le_trans (List.length_filter_le _ _) (by simp)
theorem Zlb : ∀ (a b : List UInt8), a.Pairwise (fun x y => x.toNat < y.toNat) → b.Pairwise (fun x y => x.toNat < y.toNat) → (∀ x, x ∈ a ↔ x ∈ b) → a = b
 | [], [], _, _, _ => rfl
 | [], y :: b, _, _, h => by have := (h y).2 (by simp); simp at this
 | x :: a, [], _, _, h => by have := (h x).1 (by simp); simp at this
 | x :: a, y :: b, ha, hb, h => by
  rw [List.pairwise_cons] at ha hb;have hxy : x = y := by
   have h1 := (h x).1 (by simp);have h2 := (h y).2 (by simp);rw [List.mem_cons] at h1 h2
   rcases h1 with h1 | h1
   ·exact h1
   ·rcases h2 with h2 | h2
    ·exact h2.symm
    ·have := ha.1 y h2; have := hb.1 x h1; omega
  subst hxy;rw [Zlb a b ha.2 hb.2 (fun z => by
   have hz := h z;rw [List.mem_cons, List.mem_cons] at hz
   constructor
   ·intro hm
    rcases hz.1 (.inr hm) with e | e
    ·subst e; have := ha.1 z hm; omega
    ·exact e
   ·intro hm
    rcases hz.2 (.inr hm) with e | e
    ·subst e; have := hb.1 z hm; omega
    ·exact e)]
theorem Zg0 (lo hi : Int) (n : Nat) (hn : n ≤ 128) : (Zbp lo hi n).Pairwise fun x y => x.toNat < y.toNat := by
 unfold Zbp;rw [List.pairwise_map];have h : ((List.range n).filter fun b : Nat => hb lo hi (b : Int)).Pairwise (· < ·) := List.Pairwise.filter _ List.pairwise_lt_range;refine List.Pairwise.imp_of_mem (fun {a b} ha hb hab => ?_) h;have h1 := List.mem_range.1 (List.mem_filter.1 ha).1;have h2 := List.mem_range.1 (List.mem_filter.1 hb).1;rw [UInt8.toNat_ofNat', UInt8.toNat_ofNat', Nat.mod_eq_of_lt (by omega), Nat.mod_eq_of_lt (by omega)];exact hab
theorem Zv5 (s : List UInt8) (lo hi : Int) (h7 : ∀ x ∈ s, x.toNat ≤ 127) (hs : ∀ b : Nat, b ≤ 127 → (hb lo hi (b : Int) = true ↔ UInt8.ofNat b ∈ s)) : Zbp lo hi 128 = s ↔ Zje s = true := by
 constructor
 ·intro e;unfold Zje;rw [Bool.and_eq_true, nJ, nJ];refine ⟨h7, ?_⟩;have := Zg0 lo hi 128 (by decide)
  rwa [e] at this
 ·intro h;unfold Zje at h;rw [Bool.and_eq_true, nJ, nJ] at h;refine Zlb _ _ (Zg0 lo hi 128 (by decide)) h.2 (fun x => ?_);unfold Zbp;rw [List.mem_map]
  constructor
  ·rintro ⟨b, hm, rfl⟩;rw [List.mem_filter, List.mem_range] at hm;exact (hs b (by omega)).1 hm.2
  ·intro hx;have hx7 := h7 x hx;refine ⟨x.toNat, ?_, UInt8.ofNat_toNat⟩;rw [List.mem_filter, List.mem_range];exact ⟨by omega, (hs x.toNat hx7).2 (by rw [UInt8.ofNat_toNat]; exact hx)⟩
theorem Zof {s : List UInt8} {x : UInt8} (hm : x ∈ s) (h : 127 < x.toNat) : Zje s = false := by
 unfold Zje;rw [show decide (∀ x ∈ s, x.toNat ≤ 127) = false from nU (fun hh => by have := hh x hm; omega), Bool.false_and]
theorem Zry {s : List UInt8} {j : Nat} (hj : j + 1 < s.length) (h : s[j + 1].toNat ≤ s[j].toNat) : Zje s = false := by
 unfold Zje;rw [show decide (s.Pairwise fun a b => a.toNat < b.toNat) = false from nU (fun hh => by
  have := List.pairwise_iff_getElem.1 hh j (j + 1) (by omega) hj (by omega); omega), Bool.and_false]
theorem Zt3 {s : List UInt8} (h7 : ∀ k (h : k < s.length), s[k].toNat ≤ 127) (h : ∀ k (h : k + 1 < s.length), s[k].toNat < s[k + 1].toNat) : Zje s = true := by
 unfold Zje;rw [Bool.and_eq_true, nJ, nJ];refine ⟨fun x hx => ?_, List.pairwise_iff_getElem.2 fun i j hi hj hij => ?_⟩
 ·obtain ⟨k, hk, rfl⟩ := List.getElem_of_mem hx;exact h7 k hk
 ·have key : ∀ d, (hd : i + d + 1 < s.length) → s[i].toNat < s[i + d + 1].toNat := by
   intro d
   induction d with
   | zero => intro hd; exact h i hd
   | succ d ih => intro hd; exact Nat.lt_trans (ih (by omega)) (h (i + d + 1) hd)
  have := key (j - i - 1) (by omega)
  simpa [show i + (j - i - 1) + 1 = j by omega] using this
theorem Zkl (lo hi b : Int) (w : World) (h0 : 0 ≤ b) (h1 : b < 256) :
  Calls Tryz.prog 161 #[.agg #[.int .i64 lo, .int .i64 hi], .int .u8 b] w fun e w' => e = .returned (.bool (hb lo hi b)) ∧ Below w.heap.size w w' := by
 by_cases h2 : 127 < b
 ·rw [Zty lo hi b h2];go_enter Tryz.func161, Tryz.ntmps161
  go_wp2
  go_ret;exact ⟨rfl, (Below.refl _ _).alloc (Nat.le_refl _) _⟩
 ·by_cases h3 : b < 64
  ·have hv := zh (Zmo lo hi b h0 h3);go_enter Tryz.func161, Tryz.ntmps161
   go_wp2
   go_ret;exact ⟨by rw [hv.o]; rw [← Zoe lo b.toNat (by omega)]; rfl, (Below.refl _ _).alloc (Nat.le_refl _) _⟩
  ·have hv := zh (Zmp lo hi b (by omega) (by omega));go_enter Tryz.func161, Tryz.ntmps161
   go_wp2
   go_ret;exact ⟨by rw [hv.o]; rw [← Zoe hi (b - 64).toNat (by omega)]; rfl, (Below.refl _ _).alloc (Nat.le_refl _) _⟩
def xLo (k : Int) : Int := if k = 7 ∨ k = 13 ∨ k = 19 ∨ k = 26 ∨ k = 27 ∨ k = 10 ∨ k = 16 ∨ k = 17 ∨ k = 18 ∨ k = 20 then 1 else if k = 8 ∨ k = 11 ∨ k = 9 ∨ k = 15 ∨ k = 29 then 2 else if k = 12 then 3 else 0
def xHi (k : Int) : Int := if k = 6 ∨ k = 29 then 8 else if k = 7 ∨ k = 13 ∨ k = 19 ∨ k = 26 ∨ k = 27 ∨ k = 21 ∨ k = 24 then 1 else if k = 8 ∨ k = 11 ∨ k = 16 ∨ k = 17 ∨ k = 18 ∨ k = 22 then 2 else if k = 9 ∨ k = 15 ∨ k = 12 then 3 else if k = 10 then 9 else if k = 14 then 24 else if k = 20 then 14 else 0
def xW (k : Int) (t : ByteArray) : Bool := if k = 2 then decide ((t.size : Int) ≤ 120) else if k = 3 then Zje (bl t) else if k = 4 ∨ k = 13 ∨ k = 28 then Za8 t else if k = 5 then Zrw t else if k = 7 then Zxt t else if k = 8 then Zd7 t else t.toList == []
def xN (k a : Int) (n : Nat) : Bool := if k = 1 then decide (0 ≤ a) && decide (a ≤ 999999999999) else if k = 20 then ((a == 0) || (a == 1)) && (decide (1 + a ≤ (n : Int)) && (((n : Int) - 1 - a) % 2 == 0)) else a == 0
def xHd (c : Ze) : Bool := decide (1 ≤ c.kind) && (decide (c.kind ≤ 29) && (decide (0 ≤ c.line) && (decide (xLo c.kind ≤ (c.kids.length : Int)) && (decide ((c.kids.length : Int) ≤ xHi c.kind) && (xW c.kind c.text && xN c.kind c.aB c.kids.length)))))
def vX : Nat → Ze → Bool
 | 0, _ => false
 | n + 1, c => xHd c && (List.range c.kids.length).all fun i => vX n (c.kid i)
def vY : Nat → Ze → Nat → Bool
 | 0, _, _ => false
 | n + 1, c, d => decide (d ≤ 40) && (xHd c && (List.range c.kids.length).all fun i => vY n (c.kid i) (d + 1))
theorem Zxc : ∀ (n : Nat) (c : Ze) (d : Nat), vY n c d = (vX n c && decide (dpX c + d ≤ 41))
 | 0, _, _ => rfl
 | n + 1, c, d => by
  rw [Bool.eq_iff_iff];simp only [vY, vX, Bool.and_eq_true, nJ, List.all_eq_true, List.mem_range];have hk : ∀ i, i < c.kids.length → (vY n (c.kid i) (d + 1) = true ↔ (vX n (c.kid i) = true ∧ dpX (c.kid i) + (d + 1) ≤ 41)) := fun i _ => by rw [Zxc n, Bool.and_eq_true, nJ]
  rw [Zpv]
  constructor
  ·rintro ⟨h1, h2, h3⟩;have h4 : Zgr c.kids ≤ 40 - d := (Zm3 _ _).2 fun i hi => by
    have := ((hk i hi).1 (h3 i hi)).2;rw [Zcr hi] at this
    omega
   exact ⟨⟨h2, fun i hi => ((hk i hi).1 (h3 i hi)).1⟩, by omega⟩
  ·rintro ⟨⟨h2, h3⟩, h4⟩;refine ⟨by omega, h2, fun i hi => (hk i hi).2 ⟨h3 i hi, ?_⟩⟩;have := (Zm3 c.kids (40 - d)).1 (by omega) i hi;rw [Zcr hi];have h6 := Zpv c.kids[i]
   omega
def okX (n : Nat) (c : Ze) : Bool := decide (Zc6 c ≤ 600) && (decide (dpX c ≤ 40) && vX n c)
def Znb (r : Z3) : Bool := Za8 r.name && (decide (r.fields.length ≤ 6) && (r.fields.all Za8 && decide (0 ≤ r.line)))
def Zjf (n : Nat) (q : Zag) : Bool := Za8 q.name && (decide (q.params.length ≤ 6) && (decide (q.locals.length ≤ 8) && (q.params.all Za8 && (q.locals.all Za8 && (decide (0 ≤ q.line) && (decide (q.body.kind = 14) && okX n q.body))))))
def okU (n : Nat) (u : Zt) : Bool := decide (u.aA.length ≤ 8) && (decide (u.globals.length ≤ 12) && (decide (u.procedures.length ≤ 12) && (u.globals.all Za8 && (u.aA.all Znb && u.procedures.all (Zjf n)))))
section
structure UV (N : Nat) (F : Nat → Prop) (w : World) (u : Zt) (A1 A2 A3 : Option Addr) (k1 k2 k3 : Nat) : Prop where
 rc : Zq Zan 3 F w u.aA (.slice A1 u.aA.length k1)
 gl : Zq Zah 1 F w u.globals (.slice A2 u.globals.length k2)
 pr : Zq (Zbb (Ze4 N)) 9 F w u.procedures (.slice A3 u.procedures.length k3)
 flt : ∀ b, F b → b < w.heap.size
section
variable {N : Nat} {F : Nat → Prop} {w x : World} {u : Zt} {A1 A2 A3 : Option Addr} {k1 k2 k3 : Nat}
theorem UV.keep (h : UV N F w u A1 A2 A3 k1 k2 k3) (hk : Zc F w x) : UV N F x u A1 A2 A3 k1 k2 k3 :=
 ⟨h.rc.keep Z4 (fun _ h => h) hk, h.gl.keep Zg (fun _ h => h) hk, h.pr.keep (Zaq (Zab N)) (fun _ h => h) hk, fun b hb => Nat.lt_of_lt_of_le (h.flt b hb) hk.size⟩
theorem UV.later (h : UV N F w u A1 A2 A3 k1 k2 k3) (hl : Zb w x) : UV N F x u A1 A2 A3 k1 k2 k3 := h.keep (Zc.later hl)
theorem UV.len (h : UV N F w u A1 A2 A3 k1 k2 k3) : (u.aA.length : Int) ≤ 9223372036854775807 ∧ (u.globals.length : Int) ≤ 9223372036854775807 ∧ (u.procedures.length : Int) ≤ 9223372036854775807 := by
 obtain ⟨_, _, e1, h1, m1, _⟩ := h.rc;obtain ⟨_, _, e2, h2, m2, _⟩ := h.gl;obtain ⟨_, _, e3, h3, m3, _⟩ := h.pr;unfold maxLen at m1 m2 m3
 cases e1; cases e2; cases e3
 omega
structure RAt (F : Nat → Prop) (w : World) (r : Z3) (b o : Nat) (A : Option Addr) (k : Nat) : Prop where
 lt : b < w.heap.size
 c0 : w.cell? ⟨b, o, none⟩ = some (.string r.name)
 c1 : w.cell? ⟨b, o + 1, none⟩ = some (.slice A r.fields.length k)
 c2 : w.cell? ⟨b, o + 2, none⟩ = some (.int .i64 r.line)
 nm : r.name.size ≤ maxLen
 fl : Zq Zah 1 F w r.fields (.slice A r.fields.length k)
 len : (r.fields.length : Int) ≤ 9223372036854775807
theorem UV.rct (h : UV N F w u A1 A2 A3 k1 k2 k3) {i : Nat} (hi : i < u.aA.length) : ∃ b o A k, A1 = some ⟨b, o, none⟩ ∧ RAt F w u.aA[i] b (o + i * 3) A k := by
 obtain ⟨A', c', e, _, _, hel⟩ := h.rc;cases e;obtain ⟨b, o, cs, rfl, hF, hb, hE, hc⟩ := hel i hi;obtain ⟨vs, rfl, h0, h1, h2⟩ := hE;obtain ⟨Ak, ck, rfl, hm, hx, -⟩ := id h1;exact ⟨b, o, Ak, ck, rfl, hb, hc 0 _ rfl, hc 1 _ rfl, hc 2 _ rfl, h0, h1, by unfold maxLen at hx; omega⟩
structure QAt (N : Nat) (F : Nat → Prop) (w : World) (q : Zag) (b o : Nat) (Ap Al Ab : Option Addr) (kp kl kb : Nat) : Prop where
 lt : b < w.heap.size
 own : F b
 c0 : w.cell? ⟨b, o, none⟩ = some (.string q.name)
 c1 : w.cell? ⟨b, o + 1, none⟩ = some (.slice Ap q.params.length kp)
 c2 : w.cell? ⟨b, o + 2, none⟩ = some (.slice Al q.locals.length kl)
 c3 : w.cell? ⟨b, o + 3, none⟩ = some (.int .i64 q.body.kind)
 c4 : w.cell? ⟨b, o + 4, none⟩ = some (.string q.body.text)
 c5 : w.cell? ⟨b, o + 5, none⟩ = some (.int .i64 q.body.aB)
 c6 : w.cell? ⟨b, o + 6, none⟩ = some (.int .i64 q.body.line)
 c7 : w.cell? ⟨b, o + 7, none⟩ = some (.slice Ab q.body.kids.length kb)
 c8 : w.cell? ⟨b, o + 8, none⟩ = some (.int .i64 q.line)
 nm : q.name.size ≤ maxLen
 ps : Zq Zah 1 F w q.params (.slice Ap q.params.length kp)
 ls : Zq Zah 1 F w q.locals (.slice Al q.locals.length kl)
 ev : EV N F w q.body Ab kb
 ln : Zy q.line
 lp : (q.params.length : Int) ≤ 9223372036854775807
 ll : (q.locals.length : Int) ≤ 9223372036854775807
theorem UV.proc (h : UV N F w u A1 A2 A3 k1 k2 k3) {i : Nat} (hi : i < u.procedures.length) : ∃ b o Ap Al Ab kp kl kb, A3 = some ⟨b, o, none⟩ ∧ QAt N F w u.procedures[i] b (o + i * 9) Ap Al Ab kp kl kb := by
 obtain ⟨A', c', e, _, _, hel⟩ := h.pr;cases e;obtain ⟨b, o, cs, rfl, hF, hb, hE, hc⟩ := hel i hi;obtain ⟨vp, vl, vb, rfl, h0, h1, h2, h3, h4, h5, h6, h7, h8⟩ := hE;obtain ⟨Ap, kp, rfl, hp1, hp2, -⟩ := id h1;obtain ⟨Al, kl, rfl, hl1, hl2, -⟩ := id h2;obtain ⟨Ab, kb, rfl, -⟩ := id h7;unfold maxLen at hp2 hl2;exact ⟨b, o, Ap, Al, Ab, kp, kl, kb, rfl, hb, hF, hc 0 _ rfl, hc 1 _ rfl, hc 2 _ rfl, hc 3 _ rfl, hc 4 _ rfl, hc 5 _ rfl, hc 6 _ rfl, hc 7 _ rfl, hc 8 _ rfl, h0, h1, h2, ⟨h3, h4, h5, h6, h7⟩, h8, by omega, by omega⟩
end
theorem Zk0 {α : Type} {f : α → Bool} {l : List α} (h : ∀ i (hi : i < l.length), f l[i] = true) : l.all f = true := List.all_eq_true.2 fun x hx => by
 obtain ⟨i, hi, rfl⟩ := List.getElem_of_mem hx;exact h i hi
theorem Zbc {α : Type} {f : α → Bool} {l : List α} {i : Nat} (hi : i < l.length) (h : f l[i] = false) : l.all f = false := List.all_eq_false.2 ⟨l[i], List.getElem_mem hi, by rw [h]; decide⟩
theorem Zhm {α : Type} {f : α → Bool} {l : List α} {j : Nat} (HJ : ∀ i (hi : i < l.length), i < j → f l[i] = true) (h : ∀ hi : j < l.length, f l[j] = true) : ∀ i (hi : i < l.length), i < j + 1 → f l[i] = true := fun i hi hlt => by
 by_cases h2 : i < j
 ·exact HJ i hi h2
 ·obtain rfl : i = j := by omega
  exact h hi
end
section
def Zba (u : Zt) : List ByteArray := u.aA.map (·.name)
def Zdd (u : Zt) : List ByteArray := u.procedures.map (·.name)
def Zb1 (u : Zt) (s : ByteArray) : Int × Int :=
 if 0 ≤ Zak (Zba u) s then (5, Zak (Zba u) s) else if 0 ≤ Zak u.globals s then (2, Zak u.globals s) else if 0 ≤ Zak (Zdd u) s then (3, Zak (Zdd u) s) else if 0 ≤ fnN s then (4, fnN s) else (0, 0)
section
variable {u : Zt} {s : ByteArray} {j : Nat}
theorem Zmq {α : Type} {f : α → ByteArray} {l : List α} (h : j < l.length) (he : f l[j] = s) (hn : ∀ k (hk : k < l.length), k < j → f l[k] ≠ s) : Zak (l.map f) s = j := Zf3 (by simpa using h) (by simpa using he) fun k hk h2 => by simpa using hn k (by simpa using hk) h2
theorem Zgg {α : Type} {f : α → ByteArray} {l : List α} (hn : ∀ k (hk : k < l.length), f l[k] ≠ s) : Zak (l.map f) s = -1 := Zgy fun k hk => by simpa using hn k (by simpa using hk)
theorem Zoh (h : j < u.aA.length) (he : u.aA[j].name = s) (hn : ∀ k (hk : k < u.aA.length), k < j → u.aA[k].name ≠ s) : Zb1 u s = (5, (j : Int)) := by
 unfold Zb1 Zba;rw [Zmq h he hn, if_pos (by omega)]
theorem Zoi (h1 : Zak (Zba u) s = -1) {k : Int} (h2 : Zak u.globals s = k) (h : 0 ≤ k) : Zb1 u s = (2, k) := by
 unfold Zb1;rw [if_neg (by omega), h2, if_pos h]
theorem Zoj (h1 : Zak (Zba u) s = -1) (h2 : Zak u.globals s < 0) (h : j < u.procedures.length) (he : u.procedures[j].name = s) (hn : ∀ k (hk : k < u.procedures.length), k < j → u.procedures[k].name ≠ s) : Zb1 u s = (3, (j : Int)) := by
 unfold Zb1;rw [if_neg (by omega), if_neg (by omega)];unfold Zdd;rw [Zmq h he hn, if_pos (by omega)]
theorem Zok (h1 : Zak (Zba u) s = -1) (h2 : Zak u.globals s < 0) (h3 : Zak (Zdd u) s = -1) {k : Int} (h4 : fnN s = k) (h : 0 ≤ k) : Zb1 u s = (4, k) := by
 unfold Zb1;rw [if_neg (by omega), if_neg (by omega), if_neg (by omega), h4, if_pos h]
theorem Zqp (h1 : Zak (Zba u) s = -1) (h2 : Zak u.globals s < 0) (h3 : Zak (Zdd u) s = -1) (h4 : fnN s < 0) : Zb1 u s = (0, 0) := by
 unfold Zb1;rw [if_neg (by omega), if_neg (by omega), if_neg (by omega), if_neg (by omega)]
end
def Zj5 (u : Zt) (s : ByteArray) : Bool := (Zb1 u s).1 == 0
def Ze8 (u : Zt) (k : Int) (t : ByteArray) (l : List ByteArray) : List ByteArray := if (k = 4 ∨ k = 28) ∧ (Zj5 u t = true ∧ Zbm l t = false) then l ++ [t] else l
mutual
def Zgs (u : Zt) : Ze → List ByteArray → List ByteArray
 | ⟨k, t, _, _, kids⟩, l => Zdh u kids (Ze8 u k t l)
def Zdh (u : Zt) : List Ze → List ByteArray → List ByteArray
 | [], l => l
 | c :: r, l => Zdh u r (Zgs u c l)
end
theorem Zil (u : Zt) (c : Ze) (l : List ByteArray) : Zgs u c l = Zdh u c.kids (Ze8 u c.kind c.text l) := by cases c; simp [Zgs]
theorem Zh5 (u : Zt) : ∀ (r : List Ze) (j : Nat) (h : j < r.length) (l : List ByteArray), Zdh u (r.take (j + 1)) l = Zgs u r[j] (Zdh u (r.take j) l)
 | [], _, h, _ => by simp at h
 | c :: r, 0, _, l => by simp [Zdh]
 | c :: r, j + 1, h, l => by
  simp only [List.take_succ_cons, Zdh, List.getElem_cons_succ];exact Zh5 u r j (by simpa using h) _
def Zbn (u : Zt) (q : Zag) : List ByteArray := Zgs u q.body (q.params ++ q.locals)
theorem Zol (u : Zt) (k : Int) (t : ByteArray) (l : List ByteArray) : (Ze8 u k t l).length ≤ l.length + 1 := by
 unfold Ze8; split <;> simp
mutual
theorem Zom (u : Zt) : ∀ (c : Ze) (l : List ByteArray), (Zgs u c l).length ≤ l.length + Zc6 c
 | ⟨k, t, _, _, kids⟩, l => by
  simp only [Zgs, Zc6];have := Zhn u kids (Ze8 u k t l);have := Zol u k t l
  omega
theorem Zhn (u : Zt) : ∀ (r : List Ze) (l : List ByteArray), (Zdh u r l).length ≤ l.length + Zcc r
 | [], l => by simp [Zdh]
 | c :: r, l => by
  simp only [Zdh, Zcc];have := Zhn u r (Zgs u c l);have := Zom u c l
  omega
end
theorem Zt4 (u : Zt) (k : Int) (t : ByteArray) (l : List ByteArray) {s : ByteArray} (h : s ∈ l) : s ∈ Ze8 u k t l := by
 unfold Ze8; split
 ·exact List.mem_append_left _ h
 ·exact h
mutual
theorem Zt5 (u : Zt) : ∀ (c : Ze) (l : List ByteArray) {s : ByteArray}, s ∈ l → s ∈ Zgs u c l
 | ⟨k, t, _, _, kids⟩, l, s, h => by simp only [Zgs]; exact Zho u kids _ (Zt4 u k t l h)
theorem Zho (u : Zt) : ∀ (r : List Ze) (l : List ByteArray) {s : ByteArray}, s ∈ l → s ∈ Zdh u r l
 | [], l, s, h => h
 | c :: r, l, s, h => by simp only [Zdh]; exact Zho u r _ (Zt5 u c l h)
end
theorem Zt6 (u : Zt) {k : Int} {t : ByteArray} (l : List ByteArray) (hk : k = 4 ∨ k = 28) (hf : Zj5 u t = true) : t ∈ Ze8 u k t l := by
 unfold Ze8
 by_cases h : Zbm l t = false
 ·rw [if_pos ⟨hk, hf, h⟩]; simp
 ·rw [if_neg (fun x => h x.2.2)]; exact Zdz.1 (by simpa using h)
theorem Zt7 (u : Zt) {c : Ze} {l : List ByteArray} {i : Nat} (h : i < c.kids.length) : ∃ l', ∀ s, s ∈ Zgs u c.kids[i] l' → s ∈ Zgs u c l := by
 refine ⟨Zdh u (c.kids.take i) (Ze8 u c.kind c.text l), fun s hs => ?_⟩;rw [Zil];have e : ∀ (r : List Ze) (i : Nat) (h : i < r.length) (l : List ByteArray), s ∈ Zgs u r[i] (Zdh u (r.take i) l) → s ∈ Zdh u r l := by
  intro r
  induction r with
  | nil => intro i h; simp at h
  | cons a r ih =>
   intro i h l hs
   cases i with
   | zero => simp only [List.getElem_cons_zero, List.take_zero, Zdh] at hs ⊢; exact Zho u r _ hs
   | succ i => simp only [List.getElem_cons_succ, List.take_succ_cons, Zdh] at hs ⊢; exact ih i (by simpa using h) _ hs
 exact e _ i h _ hs
def Zxv (u : Zt) (L : List ByteArray) : Nat → Ze → Prop
 | 0, _ => True
 | n + 1, c => ((c.kind = 4 ∨ c.kind = 28) → c.text ∈ L ∨ Zj5 u c.text = false) ∧ ∀ i, i < c.kids.length → Zxv u L n (c.kid i)
theorem Zld (u : Zt) (L : List ByteArray) : ∀ (n : Nat) (c : Ze) (l : List ByteArray), (∀ s, s ∈ Zgs u c l → s ∈ L) → Zxv u L n c
 | 0, _, _, _ => trivial
 | n + 1, c, l, h => by
  refine ⟨fun hk => ?_, fun i hi => ?_⟩
  ·cases hf : Zj5 u c.text with
   | false => exact .inr rfl
   | true => exact .inl (h _ (by rw [Zil]; exact Zho u _ _ (Zt6 u l hk hf)))
  ·obtain ⟨l', hl⟩ := Zt7 u (c := c) (l := l) hi;rw [Zcr hi];exact Zld u L n _ l' fun s hs => h s (hl s hs)
end
section
def Zc4 (w : World) (base : Nat) (e : TypeId) (size : Nat) (v : Value) (n : Nat) (xs : List Value) : Prop :=
 xs.length = n * size ∧
 ((v = .slice none 0 0 ∧ n = 0) ∨
  ∃ g cap cur, v = .slice (some ⟨g, 0, none⟩) n cap ∧ base ≤ g ∧ w.heap[g]? = some (.cells cur e (0, 0)) ∧ n ≤ cap ∧ cap ≤ maxLen ∧ cap * size ≤ cur.size ∧ cur.toList.take (n * size) = xs)
section
variable {w : World} {base : Nat} {e : TypeId} {size : Nat} {v : Value} {n : Nat} {xs : List Value}
theorem Zc4.lt (h : Zc4 w base e size v n xs) : ∀ k, v.ownBlock = some k → base ≤ k ∧ k < w.heap.size ∧ ∃ cur, w.heap[k]? = some (.cells cur e (0, 0)) := by
 intro k hk
 rcases h.2 with ⟨rfl, _⟩ | ⟨g, cap, cur, rfl, hb, hg, _⟩
 ·simp [Value.ownBlock] at hk
 ·simp [Value.ownBlock] at hk;subst hk;exact ⟨hb, (Array.getElem?_eq_some_iff.1 hg).1, cur, hg⟩
theorem Zc4.same {w' : World} (h : Zc4 w base e size v n xs) (hs : ∀ k, v.ownBlock = some k → w'.heap[k]? = w.heap[k]?) : Zc4 w' base e size v n xs := by
 refine ⟨h.1, ?_⟩
 rcases h.2 with hn | ⟨g, cap, cur, rfl, hb, hgg, rest⟩
 ·exact .inl hn
 ·refine .inr ⟨g, cap, cur, rfl, hb, ?_, rest⟩;rw [hs g rfl];exact hgg
theorem Zc4.cells (h : Zc4 w base e size v n xs) {g : Nat} (hg : v.ownBlock = some g) : ∀ j u, xs[j]? = some u → w.cell? ⟨g, j, none⟩ = some u := by
 intro j u hu
 rcases h.2 with ⟨rfl, _⟩ | ⟨g', cap, cur, rfl, _, hgg, _, _, _, htake⟩
 ·simp [Value.ownBlock] at hg
 ·simp [Value.ownBlock] at hg;subst hg;rw [cell_of_row w g' j cur e (0, 0) hgg];rw [← htake, List.getElem?_take] at hu
  split at hu
  ·simpa using hu
  ·cases hu
theorem Zc4.block_ (h : Zc4 w base e size v n xs) (hn : 0 < n) : ∃ g cap, v = .slice (some ⟨g, 0, none⟩) n cap ∧ base ≤ g ∧ n ≤ cap ∧ cap ≤ maxLen := by
 rcases h.2 with ⟨_, h0⟩ | ⟨g, cap, cur, rfl, hb, _, h1, h2, _⟩
 ·omega
 ·exact ⟨g, cap, rfl, hb, h1, h2⟩
theorem Zc4.form (h : Zc4 w base e size v n xs) : ∃ A cap, v = .slice A n cap ∧ n ≤ cap ∧ cap ≤ maxLen := by
 rcases h.2 with ⟨rfl, rfl⟩ | ⟨g, cap, cur, rfl, hb, _, h1, h2, _⟩
 ·exact ⟨none, 0, rfl, Nat.le_refl _, Nat.zero_le _⟩
 ·exact ⟨_, cap, rfl, h1, h2⟩
end
section
variable {P : Program} (w : World)
theorem Zg1 (base : Nat) (t ty e : TypeId) (i : TypeInfo) (z : Value) (size bytes : Nat) (ht : P.underlying t = some (.slice e)) (hi : P.info? e = some i) (hz : i.zero = some z)
  (hsize : i.size = size) (hby : i.bytes = bytes) (hzs : z.cells.size = size)
  (v : Value) (n : Nat) (xs : List Value) (hown : Zc4 w base e size v n xs)
  (a : Addr) (m c : Nat) (news : List Value) (hl : news.length = m * size) (hnews : ∀ j u, news[j]? = some u → w.cell? (a.add j) = some u) (h1 : ∀ u ∈ news, u.oneCell' = true) (hm : 0 < m)
  (h63 : n + m ≤ maxLen) (hbytes : (n + m) * bytes ≤ 140737488355328) (hbase : base ≤ w.heap.size) :
  ∃ v' w', (Builtin.append_ #[t, t] ty #[v, .slice (some a) m c]).run P w = .ok v' w' ∧ Zc4 w' base e size v' (n + m) (xs ++ news) ∧ w.grownBy w' v.ownBlock ∧
   (v'.ownBlock = v.ownBlock ∨ v'.ownBlock = some w.heap.size) := by
 subst hsize;subst hby;have hsmall : n + m ≤ 9223372036854775807 := by simp only [maxLen] at h63; omega
 have hlen : (xs ++ news).length = (n + m) * i.size := by rw [List.length_append, hown.1, hl, Nat.add_mul]
 have grown : ∀ (old : Nat), old < n + m → ∀ (row : Option Nat),
   Zc4 (w.drew.alloc (.cells (xs.toArray ++ news.toArray ++ Builtin.zeroCells z.cells (grownCap w (n + m) old e - (n + m))) e)) base e i.size
    (.slice (some ⟨w.heap.size, 0, none⟩) (n + m) (grownCap w (n + m) old e)) (n + m) (xs ++ news) ∧
   w.grownBy (w.drew.alloc (.cells (xs.toArray ++ news.toArray ++ Builtin.zeroCells z.cells (grownCap w (n + m) old e - (n + m))) e)) row := by
  intro old ho row;have hge := grownCap_ge w (n + m) old e;have hcm : grownCap w (n + m) old e ≤ maxLen := grownCap_le_maxLen w (n + m) old e h63;refine ⟨⟨hlen, .inr ⟨w.heap.size, _, _, rfl, hbase, heap_alloc_new w.drew _, hge, hcm, ?_, ?_⟩⟩, ⟨rfl, rfl, rfl, by simp, fun k hk _ => Below.heap_alloc w.drew _ k hk⟩⟩
  ·simp only [Array.size_append, List.size_toArray, size_zeroCells, hzs, hown.1, hl, ← Nat.add_mul];refine Nat.mul_le_mul_right _ ?_
   omega
  ·simp only [Array.toList_append, List.append_assoc];rw [← List.append_assoc, ← hlen];exact List.take_left
 rcases hown.2 with ⟨rfl, rfl⟩ | ⟨g, cap, cur, rfl, hbg, hg, hnc, hcm, hcs, htake⟩
 ·have hx : xs = [] := List.eq_nil_of_length_eq_zero (by simpa using hown.1);subst hx;have hr := run_append_nil (P := P) w t ty e i z ht hi hz a m c news hl hnews (by omega) (by omega) (by have hb := hbytes; simp only [Nat.zero_add] at hb; omega);have hgr := grown 0 (by omega) (Value.ownBlock (.slice none 0 0));simp only [Nat.zero_add, List.nil_append, Array.empty_append] at hgr ⊢;exact ⟨_, _, hr, hgr.1, hgr.2, .inr rfl⟩
 ·by_cases hroom : n + m ≤ cap
  ·have hfit : n * i.size + news.length ≤ cur.size := by rw [hl, ← Nat.add_mul]; exact Nat.le_trans (Nat.mul_le_mul_right _ hroom) hcs
   have hr := run_append_room (P := P) w t ty e i ht hi g n cap cur hg a m c news hl hnews h1 hroom hfit;refine ⟨_, _, hr, ⟨hlen, .inr ⟨g, cap, _, rfl, hbg, setRow_heap w g cur _ e _ hg, hroom, hcm, ?_, ?_⟩⟩, ⟨rfl, rfl, rfl, by simp, fun k _ hk => setRow_other w g k _ (fun e => hk (by simp [Value.ownBlock, e]))⟩, .inl rfl⟩
   ·simp only [List.size_toArray, List.length_append, List.length_take, List.length_drop, Array.length_toList]
    omega
   ·rw [htake, ← hlen];exact List.take_left
  ·have holds : ∀ j u, xs[j]? = some u → w.cell? ((⟨g, 0, none⟩ : Addr).add j) = some u := fun j u hu => by
    have hadd : (⟨g, 0, none⟩ : Addr).add j = ⟨g, j, none⟩ := by unfold Addr.add; split <;> simp_all
    rw [hadd];exact hown.cells (g := g) rfl j u hu
   have hr := run_append_grow (P := P) w t ty e i z ht hi hz ⟨g, 0, none⟩ n cap xs hown.1 holds a m c news hl hnews (by omega) (by omega) (growslice_fits (by omega) hbytes);have hgr := grown cap (by omega) (Value.ownBlock (.slice (some ⟨g, 0, none⟩) n cap));exact ⟨_, _, hr, hgr.1, hgr.2, .inr rfl⟩
theorem Zim {ops : Array Oper} {rest : List Oper} {o : Oper} {a : Act} {Q : Exit → Act → World → Prop} (hgd : o.guard = none) (s x : Operand) (t : TypeId)
  (ho : o.op = .call { callee := .builtin .append, args := #[s, x], argTypes := #[t, t] })
  (base : Nat) (e : TypeId) (i : TypeInfo) (z : Value) (size bytes : Nat) (ht : P.underlying t = some (.slice e)) (hi : P.info? e = some i) (hz : i.zero = some z)
  (hsize : i.size = size) (hby : i.bytes = bytes) (hzs : z.cells.size = size)
  (v : Value) (n : Nat) (xs : List Value) (hs : a.eval s = v) (hown : Zc4 w base e size v n xs)
  (ad : Addr) (m c : Nat) (news : List Value) (hx : a.eval x = .slice (some ad) m c) (hl : news.length = m * size) (hnews : ∀ j u, news[j]? = some u → w.cell? (ad.add j) = some u) (h1 : ∀ u ∈ news, u.oneCell' = true) (hm : 0 < m)
  (h63 : n + m ≤ maxLen) (hbytes : (n + m) * bytes ≤ 140737488355328) (hbase : base ≤ w.heap.size)
  (h : ∀ v' w', Zc4 w' base e size v' (n + m) (xs ++ news) → w.grownBy w' v.ownBlock → (v'.ownBlock = v.ownBlock ∨ v'.ownBlock = some w.heap.size) → wpList P ops Q rest (a.put o.dst v') w') : wpList P ops Q (o :: rest) a w := by
 refine wpList_plain hgd fun _ hK => ?_;obtain ⟨v', w', hr, h2, h3, h4⟩ := Zg1 (P := P) w base t o.type e i z size bytes ht hi hz hsize hby hzs v n xs hown ad m c news hl hnews h1 hm h63 hbytes hbase;unfold Oper.wp execOp;simp only [ho, resolve, invoke, builtin, Sem.run_bind, Sem.run_pure, Result.andThen_ok, List.map_toArray, List.map_cons, List.map_nil, hs, hx, hr];exact hK _ _ (h v' w' h2 h3 h4)
end
end
section
structure Zv6 {α : Type} (El : Zaj α) (size : Nat) : Prop where
 is : Zbf El size
 any : ∀ {F G : Nat → Prop} {w x a cs}, El F w a cs → El G x a cs
 one : ∀ {F w a cs}, El F w a cs → ∀ u ∈ cs, u.oneCell' = true
theorem Zt8 (b o i : Nat) : (⟨b, o, none⟩ : Addr).add i = ⟨b, o + i, none⟩ := by unfold Addr.add; split <;> simp_all
section
variable {P : Program} {α : Type} {El : Zaj α} {size : Nat} {F : Nat → Prop} {l : List α} {v : Value}
theorem Zq.flat {w : World} (hE : Zbf El size) (hone : ∀ {F w a cs}, El F w a cs → ∀ u ∈ cs, u.oneCell' = true) (h : Zq El size F w l v) (hp : 0 < l.length) (hs : 0 < size) :
  ∃ (b o c : Nat) (ys : List Value), v = .slice (some ⟨b, o, none⟩) l.length c ∧ ys.length = l.length * size ∧ (∀ j u, ys[j]? = some u → w.cell? ((⟨b, o, none⟩ : Addr).add j) = some u) ∧ (∀ u ∈ ys, u.oneCell' = true) ∧
   ∀ i (hi : i < l.length), ∃ cs, El F w l[i] cs ∧ ∀ q x, cs[q]? = some x → ys[i * size + q]? = some x := by
 obtain ⟨A, c, rfl, h1, h2, h3⟩ := h;obtain ⟨b, o, cs0, rfl, _⟩ := h3 0 hp;have hat : ∀ i (hi : i < l.length), ∃ cs, El F w l[i] cs ∧ ∀ q x, cs[q]? = some x → w.cell? ⟨b, o + i * size + q, none⟩ = some x := fun i hi => by
  obtain ⟨b', o', cs, e, _, _, hel, hc⟩ := h3 i hi;cases e;exact ⟨cs, hel, hc⟩
 have hcell : ∀ j, j < l.length * size → ∃ i, ∃ hi : i < l.length, ∃ cs q x, El F w l[i] cs ∧ j = i * size + q ∧ cs[q]? = some x ∧ w.cell? ⟨b, o + j, none⟩ = some x := fun j hj => by
  have hi : j / size < l.length := (Nat.div_lt_iff_lt_mul hs).2 hj;obtain ⟨cs, hel, hc⟩ := hat (j / size) hi;have hq : j % size < cs.length := by rw [hE.len hel]; exact Nat.mod_lt _ hs
  have hjj : j = j / size * size + j % size := by rw [Nat.mul_comm]; exact (Nat.div_add_mod j size).symm
  refine ⟨j / size, hi, cs, j % size, cs[j % size], hel, hjj, List.getElem?_eq_getElem hq, ?_⟩;have := hc _ _ (List.getElem?_eq_getElem hq)
  rwa [Nat.add_assoc, ← hjj] at this
 refine ⟨b, o, c, List.ofFn (n := l.length * size) fun j => (w.cell? ⟨b, o + j.1, none⟩).getD (.bool false), rfl, by simp, fun j u hu => ?_, fun u hu => ?_, fun i hi => ?_⟩
 ·have hj : j < l.length * size := by have := (List.getElem?_eq_some_iff.1 hu).1; simpa using this
  obtain ⟨_, _, _, _, x, _, _, _, hx⟩ := hcell j hj;rw [List.getElem?_ofFn] at hu;simp only [hj, dite_true, Option.some.injEq] at hu;rw [Zt8, hx, ← hu, hx]
  rfl
 ·obtain ⟨j, rfl⟩ := (List.mem_ofFn ..).1 hu;obtain ⟨i, hi, cs, q, x, hel, _, hq, hx⟩ := hcell j.1 j.2;rw [hx];exact hone hel x (List.mem_of_getElem? hq)
 ·obtain ⟨cs, hel, hc⟩ := hat i hi;refine ⟨cs, hel, fun q x hq => ?_⟩;have hql : q < size := by have := (List.getElem?_eq_some_iff.1 hq).1; rw [hE.len hel] at this; exact this
  have hj : i * size + q < l.length * size := by
   have : (i + 1) * size ≤ l.length * size := Nat.mul_le_mul_right _ hi;rw [Nat.add_mul, Nat.one_mul] at this
   omega
  rw [List.getElem?_ofFn];simp only [hj, dite_true];rw [← Nat.add_assoc, hc q x hq]
  rfl
theorem Zgm (w : World) (hE : Zv6 El size) (hs0 : 0 < size) (t ty e : TypeId) (i : TypeInfo) (z : Value) (bytes : Nat) (ht : P.underlying t = some (.slice e)) (hi : P.info? e = some i) (hz : i.zero = some z)
  (hsize : i.size = size) (hby : i.bytes = bytes) (hzs : z.cells.size = size) {B : Nat} (hB : w.heap[B]? = some (.cells #[] e (0, 0)))
  (hsrc : Zq El size F w l v) (hm : l.length ≤ 2097152) (hbytes : bytes ≤ 1000) :
  ∃ v' w', (Builtin.append_ #[t, t] ty #[.slice (some ⟨B, 0, none⟩) 0 0, v]).run P w = .ok v' w' ∧ Zz El size e (fun b => w.heap.size ≤ b) w' l v' ∧ Zb w w' := by
 subst hsize;subst hby;have hBlt := Za hB
 by_cases h0 : l.length = 0
 ·obtain rfl : l = [] := List.eq_nil_of_length_eq_zero h0;refine ⟨.slice (some ⟨B, 0, none⟩) 0 0, w, ?_, ⟨_, 0, rfl, Nat.le_refl _, Nat.zero_le _, fun h => by simp at h⟩, Zb.refl w⟩;obtain ⟨A, c, rfl, _, _⟩ := hsrc
  cases A <;> simp [Builtin.append_, run_underlying ht, sizeOf, typeInfo, hi, Builtin.lenOf, Builtin.firstCells, loadCells, loadCellsFrom, storeCells]
 ·obtain ⟨b, o, c, ys, rfl, hys, hnews, hone, hat⟩ := hsrc.flat hE.is hE.one (by omega) hs0;have hr := run_append_grow (P := P) w t ty e i z ht hi hz ⟨B, 0, none⟩ 0 0 [] (by simp) (fun j u hu => by simp at hu) ⟨b, o, none⟩ l.length c ys hys hnews (by omega) (by omega)
   (growslice_fits (by omega) (by have := Nat.mul_le_mul (show 0 + l.length ≤ 2097152 by omega) hbytes; omega))
  have hge := grownCap_ge w (0 + l.length) 0 e;have hcm : grownCap w (0 + l.length) 0 e ≤ maxLen := grownCap_le_maxLen w (0 + l.length) 0 e (by simp only [maxLen]; omega);refine ⟨_, _, hr, ⟨_, _, by rw [Nat.zero_add], by omega, hcm, fun _ => ⟨w.heap.size, 0, _, fun y => if h : y < 0 then 0 else 0, rfl, Nat.le_refl _, heap_alloc_new w.drew _, ⟨rfl, ?_⟩, fun k hk => ?_⟩⟩, (Zb.refl w).drew.alloc _⟩
  ·simp only [Array.size_append, List.size_toArray, List.length_nil, size_zeroCells, hzs, hys];simp only [Nat.zero_add];rw [← Nat.add_mul];exact Nat.mul_le_mul_right _ (by simp only [Nat.zero_add] at hge; omega)
  obtain ⟨cs, hel, hc⟩ := hat k hk;refine ⟨cs, hE.any hel, fun q x hq => ?_⟩;have hyq := hc q x hq;have hlt := (List.getElem?_eq_some_iff.1 hyq).1;rw [Nat.zero_add]
  try simp only [List.nil_append]
  rw [Array.getElem?_append_left (by simpa using hlt)]
  simpa using hyq
theorem Zcs {w : World} (hE : Zv6 El size) (hs0 : 0 < size) {ops : Array Oper} {rest : List Oper} {o : Oper} {a : Act} {Q : Exit → Act → World → Prop} (hgd : o.guard = none) (s x : Operand) (t : TypeId)
  (ho : o.op = .call { callee := .builtin .append, args := #[s, x], argTypes := #[t, t] })
  (e : TypeId) (i : TypeInfo) (z : Value) (bytes : Nat) (ht : P.underlying t = some (.slice e)) (hi : P.info? e = some i) (hz : i.zero = some z)
  (hsize : i.size = size) (hby : i.bytes = bytes) (hzs : z.cells.size = size) {B : Nat} (hs : a.eval s = .slice (some ⟨B, 0, none⟩) 0 0) (hB : w.heap[B]? = some (.cells #[] e (0, 0)))
  (hx : a.eval x = v) (hsrc : Zq El size F w l v) (hm : l.length ≤ 2097152) (hbytes : bytes ≤ 1000)
  (h : ∀ v' w', Zz El size e (fun b => w.heap.size ≤ b) w' l v' → Zb w w' → wpList P ops Q rest (a.put o.dst v') w') : wpList P ops Q (o :: rest) a w := by
 refine wpList_plain hgd fun _ hK => ?_;obtain ⟨v', w', hr, h2, h3⟩ := Zgm (P := P) w hE hs0 t o.type e i z bytes ht hi hz hsize hby hzs hB hsrc hm hbytes;unfold Oper.wp execOp;simp only [ho, resolve, invoke, builtin, Sem.run_bind, Sem.run_pure, Result.andThen_ok, List.map_toArray, List.map_cons, List.map_nil, hs, hx, hr];exact hK _ _ (h v' w' h2 h3)
theorem Zh6 {w : World} (hE : Zv6 El size) (hs0 : 0 < size) {ops : Array Oper} {rest : List Oper} {o : Oper} {a : Act} {Q : Exit → Act → World → Prop} (hgd : o.guard = none) (s x : Operand) (t : TypeId)
  (ho : o.op = .call { callee := .builtin .append, args := #[s, x], argTypes := #[t, t] })
  (e : TypeId) (i : TypeInfo) (z : Value) (bytes : Nat) (ht : P.underlying t = some (.slice e)) (hi : P.info? e = some i) (hz : i.zero = some z)
  (hsize : i.size = size) (hby : i.bytes = bytes) (hzs : z.cells.size = size) {B : Nat} (hs : a.eval s = .slice (some ⟨B, 0, none⟩) 0 0) (hB : w.heap[B]? = some (.cells #[] e (0, 0)))
  (hx : a.eval x = v) (hsrc : Zq El size F w l v) (hm : l.length ≤ 2097152) (hbytes : bytes ≤ 1000)
  (h : ∀ v' w', Zz El size e (fun b => B ≤ b) w' l v' → Zb w w' → wpList P ops Q rest (a.put o.dst v') w') : wpList P ops Q (o :: rest) a w :=
 Zcs hE hs0 hgd s x t ho e i z bytes ht hi hz hsize hby hzs hs hB hx hsrc hm hbytes fun v' w' hr hl => h v' w' (hr.keep hE.is (fun b hb => Nat.le_trans (Nat.le_of_lt (Za hB)) hb) (Zc.refl _ _)) hl
end
/-! ### A row that grows thing by thing -/
structure Zg2 {α : Type} (S : Zaj α) (size : Nat) (T : TypeId) (base : Nat) (l : List α) (v : Value) (w : World) (xs : List Value) (tag : Nat → Nat) : Prop where
 row : Zc4 w base T size v l.length xs
 el : ∀ i (h : i < l.length), ∃ cs, S (fun y => (base ≤ y ∧ y < w.heap.size ∧ v.ownBlock ≠ some y) ∧ tag y = i) w l[i] cs ∧ ∀ q x, cs[q]? = some x → xs[i * size + q]? = some x
def Zon {α : Type} (S : Zaj α) (size : Nat) (T : TypeId) (base : Nat) (l : List α) (v : Value) (w : World) : Prop := ∃ xs tag, Zg2 S size T base l v w xs tag
section
variable {α : Type} {S El : Zaj α} {size : Nat} {T : TypeId} {base : Nat} {l : List α} {v : Value} {w x : World} {xs : List Value} {tag : Nat → Nat}
theorem Zon.fresh {B : Nat} (hB : w.heap[B]? = some (.cells #[] T (0, 0))) (hb : base ≤ B) : Zon S size T base ([] : List α) (.slice (some ⟨B, 0, none⟩) 0 0) w :=
 ⟨[], fun _ => 0, ⟨⟨by simp, .inr ⟨B, 0, #[], rfl, hb, hB, Nat.le_refl _, Nat.zero_le _, by simp, by simp⟩⟩, fun i h => by simp at h⟩⟩
theorem Zg2.keep (hE : Zbf S size) (h : Zg2 S size T base l v w xs tag) (hk : Zc (fun y => base ≤ y ∧ y < w.heap.size) w x) : Zg2 S size T base l v x xs tag := by
 refine ⟨h.row.same fun k hk' => hk.same k ⟨(h.row.lt k hk').1, (h.row.lt k hk').2.1⟩ (h.row.lt k hk').2.1, fun i hi => ?_⟩;obtain ⟨cs, hs, hc⟩ := h.el i hi;exact ⟨cs, hE.keep hs (fun y hy => ⟨⟨hy.1.1, Nat.lt_of_lt_of_le hy.1.2.1 hk.size, hy.1.2.2⟩, hy.2⟩) (hk.mono fun y hy => ⟨hy.1.1, hy.1.2.1⟩), hc⟩
theorem Zg2.push {wr : World} (hE : Zcp S El size) (h : Zg2 S size T base l v wr xs tag) (hk : Zc (fun y => base ≤ y ∧ y < wr.heap.size) wr w) (hb : base ≤ wr.heap.size) {a : α} {cs : List Value}
  (he : S (fun y => wr.heap.size ≤ y) w a cs) {v' : Value} (hown : Zc4 x base T size v' (l.length + 1) (xs ++ cs)) (hg : w.grownBy x v.ownBlock) (hn : v'.ownBlock = v.ownBlock ∨ v'.ownBlock = some w.heap.size) :
  Zon S size T base (l ++ [a]) v' x := by
 have hsz := hk.size;have hvb : ∀ k, v.ownBlock = some k → base ≤ k ∧ k < wr.heap.size := fun k e => ⟨(h.row.lt k e).1, (h.row.lt k e).2.1⟩;have hkeep : ∀ {F : Nat → Prop}, (∀ y, F y → v.ownBlock ≠ some y) → Zc F w x := fun hF => ⟨hg.size, fun b hf hl => hg.block b hl (fun e => hF b hf e.symm)⟩;refine ⟨xs ++ cs, fun y => if wr.heap.size ≤ y then l.length else tag y, by simpa using hown, fun i hi => ?_⟩
 by_cases e : i < l.length
 ·obtain ⟨cs0, hs, hc⟩ := h.el i e;rw [List.getElem_append_left e];refine ⟨cs0, hE.is.keep hs (fun y hy => ⟨⟨hy.1.1, by have := hg.size; omega, ?_⟩, ?_⟩) ((hk.mono fun y hy => ⟨hy.1.1, hy.1.2.1⟩).trans (hkeep fun y hy => hy.1.2.2)), fun q z hq => ?_⟩
  ·intro h2
   rcases hn with h3 | h3
   ·exact hy.1.2.2 (h3.symm.trans h2)
   ·rw [h3] at h2; cases h2; have := hy.1.2.1; omega
  ·show (if wr.heap.size ≤ y then l.length else tag y) = i;rw [if_neg (by omega)]; exact hy.2
  ·have := hc q z hq;rw [List.getElem?_append_left (List.getElem?_eq_some_iff.1 this).1];exact this
 ·have hil : i = l.length := by simp at hi; omega
  subst hil;rw [List.getElem_append_right (Nat.le_refl _)];simp only [Nat.sub_self, List.getElem_cons_zero];refine ⟨cs, hE.is.keep (hE.trim he) (fun y hy => ⟨⟨by omega, by have := hg.size; omega, ?_⟩, ?_⟩) (hkeep fun y hy h2 => by have := (hvb y h2).2; omega), fun q z hq => ?_⟩
  ·intro h2
   rcases hn with h3 | h3
   ·have := (hvb y (h3.symm.trans h2)).2; omega
   ·rw [h3] at h2; cases h2; omega
  ·show (if wr.heap.size ≤ y then l.length else tag y) = l.length;rw [if_pos hy.1]
  ·rw [← h.row.1, List.getElem?_append_right (by omega)]
   simpa using hq
theorem Zon.row (hE : Zcp S El size) (h : Zon S size T base l v w) : Zz S size T (fun b => base ≤ b) w l v := by
 obtain ⟨xs, tag, h⟩ := h
 rcases h.row.2 with ⟨rfl, h0⟩ | ⟨g, cap, cur, rfl, hb, hg, h1, h2, h3, h4⟩
 ·exact ⟨none, 0, by rw [h0], by omega, Nat.zero_le _, fun hp => by omega⟩
 ·refine ⟨_, cap, rfl, h1, h2, fun _ => ⟨g, 0, cur, tag, rfl, hb, hg, ⟨rfl, by omega⟩, fun i hi => ?_⟩⟩;obtain ⟨cs, hs, hc⟩ := h.el i hi;refine ⟨cs, hE.is.keep hs (fun y hy => ⟨⟨hy.1.1, fun e => hy.1.2.2 (by rw [e]; rfl)⟩, hy.2⟩) (Zc.refl _ _), fun q x hq => ?_⟩;have := hc q x hq;rw [← h4, List.getElem?_take] at this
  split at this
  ·rw [Nat.zero_add]; simpa using this
  ·cases this
end
end
section
section
variable {P : Program} {α : Type} {S El : Zaj α} {size : Nat} {F G : Nat → Prop} {l : List α} {v : Value}
theorem Zmg (w : World) (hE : Zcp S El size) (t ty e : TypeId) (i : TypeInfo) (z : Value) (bytes : Nat) (ht : P.underlying t = some (.slice e)) (hi : P.info? e = some i) (hz : i.zero = some z)
  (hsize : i.size = size) (hby : i.bytes = bytes) (hzs : z.cells.size = size) (hrow : Zz S size e F w l v)
  (ad : Addr) (c : Nat) (a : α) (cs : List Value) (hnews : ∀ j u, cs[j]? = some u → w.cell? (ad.add j) = some u) (hone : ∀ u ∈ cs, u.oneCell' = true) (hel : S G w a cs) (hFG : ∀ y, G y → ¬ F y)
  (hm : l.length ≤ 134217728) (hbytes : bytes ≤ 1000) :
  ∃ v' w', (Builtin.append_ #[t, t] ty #[v, .slice (some ad) 1 c]).run P w = .ok v' w' ∧ Zz S size e (fun y => F y ∨ G y ∨ y = w.heap.size) w' (l ++ [a]) v' ∧ Zc (fun y => ¬ F y) w w' ∧ Below 0 w w' := by
 subst hsize;subst hby;have hcl : cs.length = 1 * i.size := by rw [hE.is.len hel, Nat.one_mul]
 have hby2 : (l.length + 1) * i.bytes ≤ 140737488355328 := by have := Nat.mul_le_mul (show l.length + 1 ≤ 134217729 by omega) hbytes; omega
 have mk : ∀ (w' : World) (g c' : Nat) (cur : Array Value) (tag : Nat → Nat), w'.heap[g]? = some (.cells cur e (0, 0)) → (F g ∨ g = w.heap.size) → (∀ y, y < w.heap.size → y ≠ g → w'.heap[y]? = w.heap[y]?) → w.heap.size ≤ w'.heap.size →
   l.length + 1 ≤ c' → c' ≤ maxLen → c' * i.size ≤ cur.size →
   (∀ k (h : k < l.length), ∃ cs, S (fun x => ((F x ∧ x < w.heap.size) ∧ x ≠ g) ∧ tag x = k) w l[k] cs ∧ ∀ j x, cs[j]? = some x → cur[k * i.size + j]? = some x) → (∀ j x, cs[j]? = some x → cur[l.length * i.size + j]? = some x) →
   Zz S i.size e (fun y => F y ∨ G y ∨ y = w.heap.size) w' (l ++ [a]) (.slice (some ⟨g, 0, none⟩) (l.length + 1) c') := by
  intro w' g c' cur tag hg hgF hkeep hsz h1 h2 h3 hold hnew
  classical
  refine ⟨_, c', by simp, by simpa using h1, h2, fun _ => ⟨g, 0, cur, fun y => if G y then l.length else tag y, rfl, ?_, hg, ⟨rfl, by omega⟩, fun k hk => ?_⟩⟩
  ·rcases hgF with h | h
   ·exact .inl h
   ·exact .inr (.inr h)
  ·by_cases hkl : k < l.length
   ·obtain ⟨cs0, hs, hc⟩ := hold k hkl;rw [List.getElem_append_left hkl];refine ⟨cs0, hE.is.keep hs (fun y hy => ⟨⟨.inl hy.1.1.1, hy.1.2⟩, ?_⟩) ⟨hsz, fun b hb hl => hkeep b hl hb.1.2⟩, fun j x hj => by rw [Nat.zero_add]; exact hc j x hj⟩;show (if G y then l.length else tag y) = k;rw [if_neg (fun hg => hFG y hg hy.1.1.1)];exact hy.2
   ·obtain rfl : k = l.length := by simp at hk; omega
    rw [List.getElem_append_right (Nat.le_refl _)];simp only [Nat.sub_self, List.getElem_cons_zero];have hng : ∀ y, G y ∧ y < w.heap.size → y ≠ g := fun y hy e => by
     rcases hgF with h | h
     ·exact hFG y hy.1 (e ▸ h)
     ·omega
    refine ⟨cs, hE.is.keep (hE.trim hel) (fun y hy => ⟨⟨.inr (.inl hy.1), hng y hy⟩, ?_⟩) ⟨hsz, fun b hb hl => hkeep b hl (hng b hb)⟩, fun j x hj => by rw [Nat.zero_add]; exact hnew j x hj⟩;show (if G y then l.length else tag y) = l.length;rw [if_pos hy.1]
 obtain ⟨A, cp, rfl, hc, hcm, h3⟩ := hrow;have hadd : ∀ g j, ((⟨g, 0, none⟩ : Addr).add j) = ⟨g, j, none⟩ := fun g j => by unfold Addr.add; split <;> simp_all
 by_cases h0 : cp = 0
 ·obtain rfl : l = [] := List.eq_nil_of_length_eq_zero (by omega);subst h0;have grown : ∀ old : Nat, old < 1 → Zz S i.size e (fun y => F y ∨ G y ∨ y = w.heap.size) (w.drew.alloc (.cells ((#[] : Array Value) ++ cs.toArray ++ Builtin.zeroCells z.cells (grownCap w (0 + 1) old e - (0 + 1))) e)) ([] ++ [a]) (.slice (some ⟨w.heap.size, 0, none⟩) (0 + 1) (grownCap w (0 + 1) old e)) := fun old ho => by
   have hge := grownCap_ge w (0 + 1) old e;have hgm : grownCap w (0 + 1) old e ≤ maxLen := grownCap_le_maxLen w (0 + 1) old e (by simp only [maxLen]; omega);refine mk _ _ _ _ (fun _ => 0) (heap_alloc_new w.drew _) (.inr rfl) (fun y hy _ => Below.heap_alloc w.drew _ y hy) (by simp) hge hgm ?_ (fun k hk => by simp at hk) (fun j x hj => ?_)
   ·simp only [Array.size_append, List.size_toArray, size_zeroCells, hzs, hcl, Array.size_empty];simp only [List.length_nil, Nat.zero_add] at hge ⊢;rw [← Nat.add_mul];exact Nat.mul_le_mul_right _ (by omega)
   ·have hlt := (List.getElem?_eq_some_iff.1 hj).1;rw [Array.getElem?_append_left (by simp; omega)]
    simpa using hj
  have keeps : ∀ o : Obj, Zc (fun y => ¬ F y) w (w.drew.alloc o) := fun o => ⟨by simp, fun b _ hb => Below.heap_alloc w.drew _ b hb⟩
  cases A with
  | none =>
   have hr := run_append_nil (P := P) w t ty e i z ht hi hz ad 1 c cs hcl hnews (by omega) (by omega) (by omega);have hgr := grown 0 (by omega);simp only [Nat.zero_add, List.nil_append, Array.empty_append, List.length_nil] at hgr hr ⊢;exact ⟨_, _, hr, hgr, keeps _, (Below.refl 0 w).drew.alloc (Nat.zero_le _) _⟩
  | some a0 =>
   have hr := run_append_grow (P := P) w t ty e i z ht hi hz a0 0 0 [] (by simp) (fun j u hu => by simp at hu) ad 1 c cs hcl hnews (by omega) (by omega) (growslice_fits (by omega) (by simpa using hby2));have hgr := grown 0 (by omega);exact ⟨_, _, hr, hgr, keeps _, (Below.refl 0 w).drew.alloc (Nat.zero_le _) _⟩
 ·obtain ⟨b, o, cur, tag, rfl, hF, hb, ⟨rfl, hcap⟩, hall⟩ := h3 (by omega);have hbw := Za hb;have hcurl : cur.toList.length = cur.size := Array.length_toList;rw [Nat.zero_add] at hcap;have hold : ∀ g, (g = b ∨ g = w.heap.size) → ∀ k (h : k < l.length), ∃ cs, S (fun x => ((F x ∧ x < w.heap.size) ∧ x ≠ g) ∧ tag x = k) w l[k] cs ∧ ∀ j x, cs[j]? = some x → cur[k * i.size + j]? = some x := fun g hg k hk => by
   obtain ⟨cs0, hs, hc0⟩ := hall k hk;refine ⟨cs0, hE.is.keep (hE.trim hs) (fun y hy => ⟨⟨⟨hy.1.1.1, hy.2⟩, ?_⟩, hy.1.2⟩) (Zc.refl _ _), fun j x hj => by have := hc0 j x hj; rwa [Nat.zero_add] at this⟩
   rcases hg with rfl | rfl
   ·exact hy.1.1.2
   ·have := hy.2; omega
  have hlc : l.length * i.size ≤ cur.size := Nat.le_trans (Nat.mul_le_mul_right _ hc) hcap
  by_cases hroom : l.length + 1 ≤ cp
  ·have hfit : l.length * i.size + cs.length ≤ cur.size := by rw [hcl, ← Nat.add_mul]; exact Nat.le_trans (Nat.mul_le_mul_right _ hroom) hcap
   have hr := run_append_room (P := P) w t ty e i ht hi b l.length cp cur hb ad 1 c cs hcl hnews hone hroom hfit;refine ⟨_, _, hr, mk _ b cp _ tag (setRow_heap w b cur _ e _ hb) (.inl hF) (fun y hy hyb => setRow_other w b y _ hyb) (by simp) hroom hcm ?_ (fun k hk => ?_) (fun j x hj => ?_), ⟨by simp, fun y hy hl => setRow_other w b y _ (fun e => hy (e ▸ hF))⟩, ⟨rfl, rfl, rfl, by simp, fun k h => absurd h (Nat.not_lt_zero _)⟩⟩
   ·simp only [List.size_toArray, List.length_append, List.length_take, List.length_drop, Array.length_toList]
    omega
   ·obtain ⟨cs0, hs, hc0⟩ := hold b (.inl rfl) k hk;refine ⟨cs0, hs, fun j x hj => ?_⟩;have hx := hc0 j x hj;have hjs : j < i.size := by have := hE.is.len hs; have := (List.getElem?_eq_some_iff.1 hj).1; omega
    have hlt : k * i.size + j < l.length * i.size := by
     have : (k + 1) * i.size ≤ l.length * i.size := Nat.mul_le_mul_right _ hk;rw [Nat.add_mul, Nat.one_mul] at this
     omega
    rw [List.getElem?_toArray, List.append_assoc, List.getElem?_append_left (by rw [List.length_take, hcurl]; omega), List.getElem?_take, if_pos hlt]
    simpa using hx
   ·have hlt := (List.getElem?_eq_some_iff.1 hj).1;rw [List.getElem?_toArray, List.append_assoc, List.getElem?_append_right (by rw [List.length_take, hcurl]; omega), List.length_take, hcurl, Nat.min_eq_left hlc, Nat.add_sub_cancel_left, List.getElem?_append_left hlt];exact hj
  ·have hxs : (cur.toList.take (l.length * i.size)).length = l.length * i.size := by rw [List.length_take, hcurl]; omega
   have holds : ∀ j u, (cur.toList.take (l.length * i.size))[j]? = some u → w.cell? ((⟨b, 0, none⟩ : Addr).add j) = some u := fun j u hu => by
    rw [hadd, cell_of_row w b j cur e (0, 0) hb];rw [List.getElem?_take] at hu
    split at hu
    ·simpa using hu
    ·cases hu
   have hr := run_append_grow (P := P) w t ty e i z ht hi hz ⟨b, 0, none⟩ l.length cp (cur.toList.take (l.length * i.size)) hxs holds ad 1 c cs hcl hnews (by omega) (by omega) (growslice_fits (by omega) hby2);have hge := grownCap_ge w (l.length + 1) cp e;have hgm : grownCap w (l.length + 1) cp e ≤ maxLen := grownCap_le_maxLen w (l.length + 1) cp e (by simp only [maxLen]; omega);refine ⟨_, _, hr, mk _ _ _ _ tag (heap_alloc_new w.drew _) (.inr rfl) (fun y hy _ => Below.heap_alloc w.drew _ y hy) (by simp) hge hgm ?_ (fun k hk => ?_) (fun j x hj => ?_), ⟨by simp, fun b _ hb => Below.heap_alloc w.drew _ b hb⟩, (Below.refl 0 w).drew.alloc (Nat.zero_le _) _⟩
   ·simp only [Array.size_append, List.size_toArray, size_zeroCells, hzs, hxs, hcl, ← Nat.add_mul];exact Nat.mul_le_mul_right _ (by omega)
   ·obtain ⟨cs0, hs, hc0⟩ := hold w.heap.size (.inr rfl) k hk;refine ⟨cs0, hs, fun j x hj => ?_⟩;have hx := hc0 j x hj;have hjs : j < i.size := by have := hE.is.len hs; have := (List.getElem?_eq_some_iff.1 hj).1; omega
    have hlt : k * i.size + j < l.length * i.size := by
     have : (k + 1) * i.size ≤ l.length * i.size := Nat.mul_le_mul_right _ hk;rw [Nat.add_mul, Nat.one_mul] at this
     omega
    rw [Array.getElem?_append_left (by simp only [Array.size_append, List.size_toArray, hxs]; omega), Array.getElem?_append_left (by rw [List.size_toArray, hxs]; exact hlt), List.getElem?_toArray, List.getElem?_take, if_pos hlt]
    simpa using hx
   ·have hlt := (List.getElem?_eq_some_iff.1 hj).1;rw [Array.getElem?_append_left (by simp only [Array.size_append, List.size_toArray, hxs]; omega), Array.getElem?_append_right (by rw [List.size_toArray, hxs]; omega), List.size_toArray, hxs, Nat.add_sub_cancel_left, List.getElem?_toArray];exact hj
theorem Za4 {w : World} (hE : Zcp S El size) {ops : Array Oper} {rest : List Oper} {o : Oper} {ac : Act} {Q : Exit → Act → World → Prop} (hgd : o.guard = none) (s x : Operand) (t : TypeId)
  (ho : o.op = .call { callee := .builtin .append, args := #[s, x], argTypes := #[t, t] })
  (e : TypeId) (i : TypeInfo) (z : Value) (bytes : Nat) (ht : P.underlying t = some (.slice e)) (hi : P.info? e = some i) (hz : i.zero = some z)
  (hsize : i.size = size) (hby : i.bytes = bytes) (hzs : z.cells.size = size) (hs : ac.eval s = v) (hrow : Zz S size e F w l v)
  (ad : Addr) (c : Nat) (hx : ac.eval x = .slice (some ad) 1 c) (a : α) (cs : List Value) (hnews : ∀ j u, cs[j]? = some u → w.cell? (ad.add j) = some u) (hone : ∀ u ∈ cs, u.oneCell' = true) (hel : S G w a cs) (hFG : ∀ y, G y → ¬ F y)
  (hm : l.length ≤ 134217728) (hbytes : bytes ≤ 1000)
  (h : ∀ v' w', Zz S size e (fun y => F y ∨ G y ∨ y = w.heap.size) w' (l ++ [a]) v' → Zc (fun y => ¬ F y) w w' → Below 0 w w' → wpList P ops Q rest (ac.put o.dst v') w') : wpList P ops Q (o :: rest) ac w := by
 refine wpList_plain hgd fun _ hK => ?_;obtain ⟨v', w', hr, h2, h3, h4⟩ := Zmg (P := P) w hE t o.type e i z bytes ht hi hz hsize hby hzs hrow ad c a cs hnews hone hel hFG hm hbytes;unfold Oper.wp execOp;simp only [ho, resolve, invoke, builtin, Sem.run_bind, Sem.run_pure, Result.andThen_ok, List.map_toArray, List.map_cons, List.map_nil, hs, hx, hr];exact hK _ _ (h v' w' h2 h3 h4)
end
end
section
abbrev Zc3 : TypeId := 9
structure Zax (w0 w : World) (l : List ByteArray) (v : Value) : Prop where
 row : Zc4 w w0.heap.size Zc3 1 v l.length (l.map .string)
 small : ∀ s ∈ l, s.size ≤ maxLen
structure Zbt (w : World) (v : Value) (w' : World) (v' : Value) : Prop where
 gr : w.grownBy w' v.ownBlock
 nw : v'.ownBlock = v.ownBlock ∨ ∃ B, w.heap.size ≤ B ∧ v'.ownBlock = some B
section
variable {w0 w x y : World} {v v1 v2 : Value} {l : List ByteArray}
theorem Zbt.refl (w : World) (v : Value) : Zbt w v w v := ⟨⟨rfl, rfl, rfl, Nat.le_refl _, fun _ _ _ => rfl⟩, .inl rfl⟩
theorem Zbt.ofLater (v : Value) (h : Zb w x) : Zbt w v x v := ⟨⟨h.os, h.tape, h.output, h.size, fun k hk _ => h.block k hk⟩, .inl rfl⟩
theorem Zbt.trans (h : Zbt w v x v1) (k : Zbt x v1 y v2) : Zbt w v y v2 := by
 refine ⟨⟨k.gr.os.trans h.gr.os, k.gr.tape.trans h.gr.tape, k.gr.output.trans h.gr.output, Nat.le_trans h.gr.size k.gr.size, fun b hb hn => ?_⟩, ?_⟩
 ·refine (k.gr.block b (Nat.lt_of_lt_of_le hb h.gr.size) fun e => ?_).trans (h.gr.block b hb hn)
  rcases h.nw with h1 | ⟨B, hB, h1⟩
  ·exact hn (e.trans h1)
  ·rw [h1] at e; cases e; omega
 ·rcases k.nw with h1 | ⟨B, hB, h1⟩
  ·rcases h.nw with h2 | ⟨B, hB, h2⟩
   ·exact .inl (h1.trans h2)
   ·exact .inr ⟨B, hB, h1.trans h2⟩
  ·exact .inr ⟨B, Nat.le_trans h.gr.size hB, h1⟩
theorem Zbt.late (h : Zbt w v x v1) (k : Zb x y) : Zbt w v y v1 := h.trans (.ofLater _ k)
theorem Zax.own (h : Zax w0 w l v) {b : Nat} (e : v.ownBlock = some b) : w0.heap.size ≤ b ∧ b < w.heap.size := ⟨(h.row.lt b e).1, (h.row.lt b e).2.1⟩
theorem Zbt.box (h : Zbt w v x v1) {b : Nat} {o : Obj} (hn : v.ownBlock ≠ some b) (hb : w.heap[b]? = some o) : x.heap[b]? = some o := (h.gr.block b (Za hb) fun e => hn e.symm).trans hb
theorem Zbt.later0 (h : Zbt w v x v1) (hl : Zb w0 w) (hr : ∀ b, v.ownBlock = some b → w0.heap.size ≤ b) : Zb w0 x :=
 ⟨h.gr.os.trans hl.os, h.gr.tape.trans hl.tape, h.gr.output.trans hl.output, Nat.le_trans hl.size h.gr.size, fun k hk => (h.gr.block k (Nat.lt_of_lt_of_le hk hl.size) fun e => by have := hr k e.symm; omega).trans (hl.block k hk)⟩
theorem Zax.later (h : Zax w0 w l v) (k : Zb w x) : Zax w0 x l v := ⟨h.row.same fun b e => k.block b (h.own e).2, h.small⟩
theorem Zax.is (h : Zax w0 w l v) : Zq Zah 1 (fun b => w0.heap.size ≤ b) w l v := by
 obtain ⟨A, cap, rfl, h1, h2⟩ := h.row.form;refine ⟨A, cap, rfl, h1, h2, fun i hi => ?_⟩;obtain ⟨g, cap', e, hb, h3, h4⟩ := h.row.block_ (by omega);cases e;have := h.row.lt g rfl;refine ⟨g, 0, [.string l[i]], rfl, hb, this.2.1, ⟨rfl, h.small _ (List.getElem_mem hi)⟩, fun j x hj => ?_⟩;have hj0 : j = 0 := by have := (List.getElem?_eq_some_iff.1 hj).1; simp at this; omega
 subst hj0;have := h.row.cells (g := g) rfl i (.string l[i]) (by simp [hi]);simp only [List.getElem?_cons_zero, Option.some.injEq] at hj;subst hj
 simpa using this
theorem Zax.form (h : Zax w0 w l v) : ∃ A c, v = .slice A l.length c ∧ l.length ≤ c ∧ c ≤ maxLen := h.row.form
theorem Zax.fresh {B : Nat} (hB : w.heap[B]? = some (.cells #[] Zc3 (0, 0))) (hb : w0.heap.size ≤ B) : Zax w0 w [] (.slice (some ⟨B, 0, none⟩) 0 0) :=
 ⟨⟨by simp, .inr ⟨B, 0, #[], rfl, hb, hB, Nat.le_refl _, Nat.zero_le _, by simp, by simp⟩⟩, by simp⟩
end
section
variable {P : Program}
theorem Zee (w0 w : World) {l r : List ByteArray} {v u : Value} {F : Nat → Prop} (t ty : TypeId) (i : TypeInfo) (ht : P.underlying t = some (.slice Zc3)) (hi : P.info? Zc3 = some i) (hz : i.zero = some (.string ⟨#[]⟩)) (hsize : i.size = 1) (hby : i.bytes = 16)
  (hrow : Zax w0 w l v) (hl : Zb w0 w) (hsrc : Zq Zah 1 F w r u) (hm : l.length + r.length ≤ 2097152) :
  ∃ v' w', (Builtin.append_ #[t, t] ty #[v, u]).run P w = .ok v' w' ∧ Zax w0 w' (l ++ r) v' ∧ Zbt w v w' v' := by
 by_cases h0 : r.length = 0
 ·obtain rfl : r = [] := List.eq_nil_of_length_eq_zero h0;obtain ⟨A, c, rfl, hc, hcm, -⟩ := id hsrc;obtain ⟨Av, cv, rfl, hcv, hcvm⟩ := hrow.form;refine ⟨_, w, ?_, by rw [List.append_nil]; exact hrow, Zbt.refl _ _⟩
  cases A <;> cases Av <;> simp [Builtin.append_, run_underlying ht, sizeOf, typeInfo, hi, Builtin.lenOf, Builtin.firstCells, loadCells, loadCellsFrom, storeCells, hcv]
 ·obtain ⟨b, o, c, ys, rfl, hys, hnews, hone, hat⟩ := hsrc.flat Zg (fun h u hu => by obtain ⟨rfl, -⟩ := h; simp at hu; subst hu; rfl) (by omega) (by decide);have hyr : ys = r.map .string := by
   apply List.ext_getElem (by simpa using hys)
   intro k h1 h2;obtain ⟨cs, ⟨rfl, -⟩, hc⟩ := hat k (by simpa using h2);have := hc 0 _ rfl;simp only [Nat.mul_one, Nat.add_zero, List.getElem?_eq_getElem h1, Option.some.injEq] at this
   simpa using this
  subst hyr;obtain ⟨v', w', hr, h1, h2, h3⟩ := Zg1 (P := P) w w0.heap.size t ty Zc3 i (.string ⟨#[]⟩) 1 16 ht hi hz hsize hby rfl v l.length _ hrow.row ⟨b, o, none⟩ r.length c _ hys hnews hone (by omega) (by unfold maxLen; omega) (by omega) hl.size;refine ⟨v', w', hr, ⟨by rw [List.length_append, List.map_append]; exact h1, fun s hs => ?_⟩, h2, h3.imp id fun h => ⟨_, Nat.le_refl _, h⟩⟩
  rcases List.mem_append.1 hs with h | h
  ·exact hrow.small s h
  ·obtain ⟨k, hk, rfl⟩ := List.getElem_of_mem h;obtain ⟨_, ⟨-, hsm⟩, -⟩ := hat k hk;exact hsm
theorem Zai {w0 w : World} {l r : List ByteArray} {v u : Value} {F : Nat → Prop} {ops : Array Oper} {rest : List Oper} {o : Oper} {a : Act} {Q : Exit → Act → World → Prop} (hgd : o.guard = none) (s x : Operand) (t : TypeId)
  (ho : o.op = .call { callee := .builtin .append, args := #[s, x], argTypes := #[t, t] })
  (i : TypeInfo) (ht : P.underlying t = some (.slice Zc3)) (hi : P.info? Zc3 = some i) (hz : i.zero = some (.string ⟨#[]⟩)) (hsize : i.size = 1) (hby : i.bytes = 16)
  (hs : a.eval s = v) (hrow : Zax w0 w l v) (hl : Zb w0 w) (hx : a.eval x = u) (hsrc : Zq Zah 1 F w r u) (hm : l.length + r.length ≤ 2097152)
  (h : ∀ v' w', Zax w0 w' (l ++ r) v' → Zbt w v w' v' → wpList P ops Q rest (a.put o.dst v') w') : wpList P ops Q (o :: rest) a w := by
 refine wpList_plain hgd fun _ hK => ?_;obtain ⟨v', w', hr, h2, h3⟩ := Zee (P := P) w0 w t o.type i ht hi hz hsize hby hrow hl hsrc hm;unfold Oper.wp execOp;simp only [ho, resolve, invoke, builtin, Sem.run_bind, Sem.run_pure, Result.andThen_ok, List.map_toArray, List.map_cons, List.map_nil, hs, hx, hr];exact hK _ _ (h v' w' h2 h3)
end
theorem Zd1 (w : World) {s : ByteArray} (hs : s.size ≤ maxLen) : Zq Zah 1 (fun b => b = w.heap.size) (w.alloc (.cells #[.string s] Zc3)) [s] (.slice (some ⟨w.heap.size, 0, none⟩) 1 1) := by
 refine ⟨_, 1, rfl, Nat.le_refl _, by decide, fun i hi => ?_⟩;obtain rfl : i = 0 := by simp at hi; omega
 refine ⟨_, 0, [.string s], rfl, rfl, by simp, ⟨rfl, hs⟩, fun j x hj => ?_⟩;obtain rfl : j = 0 := by have := (List.getElem?_eq_some_iff.1 hj).1; simp at this; omega
 have := cell_of_row (w.alloc (.cells #[.string s] Zc3)) w.heap.size 0 _ _ _ (heap_alloc_new w _);simp only [List.getElem?_cons_zero, Option.some.injEq] at hj;subst hj;simp
end
section
section
variable {S K : Zaj Zf} {mK : Zf → Int → Zf} {cK sK : Zf → Nat}
theorem Zej (l : List ByteArray) (v : Value) (F : Nat → Prop) (w : World) (k : Int) (hl0 : 0 ≤ k) (hl1 : k ≤ 1048576) (hr : Zq Zah 1 F w l v) :
  Calls Tryz.prog 23 #[v, .int .i64 k] w fun e w' => e = .returned (.int .i64 (Zct (Zp ByteArray.size l) k)) ∧ Below w.heap.size w w' := by
 obtain ⟨A, c, rfl, hc, hcm, hel⟩ := hr;unfold maxLen at hcm;have HEL := zh hel;clear hel;have hb1 : (l.length : Int) ≤ 9223372036854775807 := by omega
 by_cases h0 : k < (l.length : Int)
 ·have HL := zh (Zaa (n := Zp ByteArray.size l) (l := k) (by unfold Zp; omega));have t1 : decide (k - (l.length : Int) < 0) = true := by simp; omega
  go_enter Tryz.func23, Tryz.ntmps23;go_wp2_with fail;go_ret;exact ⟨Zu HL.o.symm, Below.refl _ _⟩
 ·have t1 : decide (k - (l.length : Int) < 0) = false := by simp; omega
  go_enter Tryz.func23, Tryz.ntmps23;go_wp2_with fail
  go_loopw [1, 5] (fun lv i wr => ∃ j : Nat, j ≤ l.length ∧ i = .int .i64 j ∧ lv = .int .i64 (k - l.length - Za2 ByteArray.size (l.take j)) ∧ 0 ≤ k - l.length - Za2 ByteArray.size (l.take j) ∧ Below w.heap.size w wr) (fun _ i _ => l.length - (intOf i).toNat)
  case atStart => exact ⟨0, Nat.zero_le _, rfl, by simp [Za2], by simp [Za2]; omega, Below.refl _ _⟩
  case round =>
  obtain ⟨j, hj, rfl, rfl, hd, hbel⟩ := hrel;have hsz := hbel.size;have hd1 : k - l.length - Za2 ByteArray.size (l.take j) ≤ 1048576 := by omega
  obtain ⟨d, hde⟩ : ∃ d, k - l.length - Za2 ByteArray.size (l.take j) = d := ⟨_, rfl⟩;rw [hde] at hd hd1 ⊢;have HDE := zh hde;clear hde
  by_cases hlt : j < l.length
  ·obtain ⟨b, o, cs, rfl, hF, hbl, hE, hcell⟩ := HEL.o j hlt;have hE' := hE;obtain ⟨rfl, hsm⟩ := hE;have hlt' : (j : Int) < l.length := by omega
   have HS := zh (Zff ByteArray.size l j hlt);have HT := zh (Zgv ByteArray.size l (j + 1));have e0 := (hbel.cell (p := ⟨b, o + j * 1 + 0, none⟩) hbl).trans (hcell 0 _ rfl);simp only [Nat.mul_one, Nat.add_zero] at e0;have hsm' : (l[j].size : Int) ≤ 9223372036854775807 := by unfold maxLen at hsm; omega
   obtain ⟨s, hs⟩ : ∃ s, l[j] = s := ⟨_, rfl⟩;rw [hs] at e0 hsm' HS;clear hcell hsm hs
   by_cases hin : (s.size : Int) ≤ d
   ·have t2 : decide (d - (s.size : Int) < 0) = false := by simp; omega
    go_wp2_with fail
    go_roundw
    case rel => exact ⟨j + 1, by omega, by go_num, by rw [HS.o, ← HDE.o]; congr 1; omega, by rw [HS.o]; have := HDE.o; omega, hbel⟩
    case measure => simp [intOf]; omega
   ·have t2 : decide (d - (s.size : Int) < 0) = true := by simp; omega
    have HL : Hd (Zct (Zp ByteArray.size l) k = -1) := zh (Zaa (by have := HS.o; have := HT.o; have := HDE.o; unfold Zp; omega));go_wp2_with fail;go_ret;exact ⟨Zu HL.o.symm, hbel⟩
  ·have hjl : j = l.length := by omega
   have HL : Hd (Zct (Zp ByteArray.size l) k = d) := zh (by
    have := HDE.o;rw [hjl, List.take_length] at this;unfold Zp;rw [Zar (by omega)]; omega)
   go_wp2_with fail;go_ret;exact ⟨Zu HL.o.symm, hbel⟩
theorem Zjg (r : Z3) (cs : List Value) (F : Nat → Prop) (w : World) (k : Int) (hl0 : 0 ≤ k) (hl1 : k ≤ 1048576) (h : Zan F w r cs) :
  Calls Tryz.prog 64 #[.agg cs.toArray, .int .i64 k] w fun e w' => e = .returned (.int .i64 (Zct (Zk r) k)) ∧ Below w.heap.size w w' := by
 obtain ⟨aE, rfl, aK, aL, aM⟩ := h;have HE := zh (show Zk r = r.name.size + (Zp ByteArray.size r.fields) from rfl);have hbname : (r.name.size : Int) ≤ 9223372036854775807 := by unfold maxLen at aK; omega
 have Hfields := zh aL;clear aL;have HBA := zh ((Below.refl w.heap.size w).alloc (Nat.le_refl _) (.cells #[.string r.name, aE, .int .i64 r.line] 126));have HWA := zh (heap_alloc_new w (.cells #[.string r.name, aE, .int .i64 r.line] 126));go_enter Tryz.func64, Tryz.ntmps64
 by_cases c0 : k < ((r.name.size : Nat) : Int)
 ·have HL := zh (Zaa (n := Zk r) (l := k) (by have := HE.o; omega));have t0 : decide (k - ((r.name.size : Nat) : Int) < 0) = true := by simp; omega
  go_wp2_with fail;go_ret;exact ⟨Zu HL.o.symm, HBA.o⟩
 have t0 : decide (k - ((r.name.size : Nat) : Int) < 0) = false := by simp; omega
 obtain ⟨d0, hd0⟩ : ∃ d, k - ((r.name.size : Nat) : Int) = d := ⟨_, rfl⟩;rw [hd0] at t0;have HD := zh (show d0 = k - (((r.name.size) : Nat) : Int) by omega);have n0 : 0 ≤ d0 := by omega
 have m0 : d0 ≤ 1048576 := by omega
 clear c0;go_wp2_with fail;refine (Zej r.fields aE F _ d0 n0 m0 (Hfields.o.later Zg HBA.o)).mono ?_;rintro e w1 ⟨rfl, hb1⟩;have HB1 := zh (HBA.o.trans (Below.mono hb1 HBA.o.size));have HW1 := yC hb1 HWA;have q1_0 := yq HW1.o 0;simp only [nD, yE, yF] at q1_0;have q1_1 := yq HW1.o 1;simp only [nD, yE, yF] at q1_1;have q1_2 := yq HW1.o 2;simp only [nD, yE, yF] at q1_2;clear hb1
 by_cases c1 : d0 < ((Zp ByteArray.size r.fields : Nat) : Int)
 ·rw [Zaa c1];have HL := zh (Zaa (n := Zk r) (l := k) (by have := HE.o; have := HD.o; omega));go_wp2_with fail;go_ret;exact ⟨Zu HL.o.symm, HB1.o⟩
 rw [Zar (by omega)];have t1 : decide (d0 - ((Zp ByteArray.size r.fields : Nat) : Int) < 0) = false := by simp; omega
 obtain ⟨d1, hd1⟩ : ∃ d, d0 - ((Zp ByteArray.size r.fields : Nat) : Int) = d := ⟨_, rfl⟩;rw [hd1] at t1 ⊢;replace HD := zh (show d1 = k - (((r.name.size) + (Zp ByteArray.size r.fields) : Nat) : Int) by have := HD.o; omega);have n1 : 0 ≤ d1 := by omega
 have m1 : d1 ≤ 1048576 := by omega
 clear hd1;clear c1;have HL := zh (Zar (n := Zk r) (l := k) (by have := HE.o; have := HD.o; omega));go_wp2_with fail;go_ret;exact ⟨Zu (by rw [HL.o]; have := HE.o; have := HD.o; omega), HB1.o⟩
theorem Zin (l : List Z3) (v : Value) (F : Nat → Prop) (w : World) (k : Int) (hl0 : 0 ≤ k) (hl1 : k ≤ 1048576) (hr : Zq Zan 3 F w l v) :
  Calls Tryz.prog 22 #[v, .int .i64 k] w fun e w' => e = .returned (.int .i64 (Zct (Zp Zk l) k)) ∧ Below w.heap.size w w' := by
 obtain ⟨A, c, rfl, hc, hcm, hel⟩ := hr;unfold maxLen at hcm;have HEL := zh hel;clear hel;have hb1 : (l.length : Int) ≤ 9223372036854775807 := by omega
 by_cases h0 : k < (l.length : Int)
 ·have HL := zh (Zaa (n := Zp Zk l) (l := k) (by unfold Zp; omega));have t1 : decide (k - (l.length : Int) < 0) = true := by simp; omega
  go_enter Tryz.func22, Tryz.ntmps22;go_wp2_with fail;go_ret;exact ⟨Zu HL.o.symm, Below.refl _ _⟩
 ·have t1 : decide (k - (l.length : Int) < 0) = false := by simp; omega
  go_enter Tryz.func22, Tryz.ntmps22;go_wp2_with fail
  go_loopw [1, 5] (fun lv i wr => ∃ j : Nat, j ≤ l.length ∧ i = .int .i64 j ∧ lv = .int .i64 (k - l.length - Za2 Zk (l.take j)) ∧ 0 ≤ k - l.length - Za2 Zk (l.take j) ∧ Below w.heap.size w wr) (fun _ i _ => l.length - (intOf i).toNat)
  case atStart => exact ⟨0, Nat.zero_le _, rfl, by simp [Za2], by simp [Za2]; omega, Below.refl _ _⟩
  case round =>
  obtain ⟨j, hj, rfl, rfl, hd, hbel⟩ := hrel;have hsz := hbel.size;have hd1 : k - l.length - Za2 Zk (l.take j) ≤ 1048576 := by omega
  obtain ⟨d, hde⟩ : ∃ d, k - l.length - Za2 Zk (l.take j) = d := ⟨_, rfl⟩;rw [hde] at hd hd1 ⊢;have HDE := zh hde;clear hde
  by_cases hlt : j < l.length
  ·obtain ⟨b, o, cs, rfl, hF, hbl, hE, hcell⟩ := HEL.o j hlt;have hE' := hE;obtain ⟨aE, rfl, hfacts⟩ := hE;have hlt' : (j : Int) < l.length := by omega
   have HS := zh (Zff Zk l j hlt);have HT := zh (Zgv Zk l (j + 1));have e0 := (hbel.cell (p := ⟨b, o + j * 3 + 0, none⟩) hbl).trans (hcell 0 _ rfl);have e1 := (hbel.cell (p := ⟨b, o + j * 3 + 1, none⟩) hbl).trans (hcell 1 _ rfl);have e2 := (hbel.cell (p := ⟨b, o + j * 3 + 2, none⟩) hbl).trans (hcell 2 _ rfl);simp only [Nat.mul_one, Nat.add_zero] at e0;have hE2 := Z4.keep (G := F) hE' (fun _ h => h) (Zc.later hbel);have HE2 := zh hE2;clear hE2 hE' hcell hfacts;go_wp2_with fail;refine (Zjg l[j] _ F wr d hd hd1 HE2.o).mono ?_;rintro e w4 ⟨rfl, hb4⟩;have hb5 : Below w.heap.size w w4 := hbel.trans (Below.mono hb4 hsz);clear hb4 e0 e1 e2
   by_cases hin : (Zk l[j] : Int) ≤ d
   ·rw [Zar hin];have t2 : decide (d - (Zk l[j] : Int) < 0) = false := by simp; omega
    go_wp2_with fail
    go_roundw
    case rel => exact ⟨j + 1, by omega, by go_num, by rw [HS.o, ← HDE.o]; congr 1; omega, by rw [HS.o]; have := HDE.o; omega, hb5⟩
    case measure => simp [intOf]; omega
   ·rw [Zaa (by omega)];have HL : Hd (Zct (Zp Zk l) k = -1) := zh (Zaa (by have := HS.o; have := HT.o; have := HDE.o; unfold Zp; omega));go_wp2_with fail;go_ret;exact ⟨Zu HL.o.symm, hb5⟩
  ·have hjl : j = l.length := by omega
   have HL : Hd (Zct (Zp Zk l) k = d) := zh (by
    have := HDE.o;rw [hjl, List.take_length] at this;unfold Zp;rw [Zar (by omega)]; omega)
   go_wp2_with fail;go_ret;exact ⟨Zu HL.o.symm, hbel⟩
end
end
section
theorem Za0 (w : World) (o : Obj) : (w.alloc o).heap.size = w.heap.size + 1 := by simp
section
variable {S K : Zaj Zf} {mK : Zf → Int → Zf} {cK sK : Zf → Nat}
theorem Zem : (Tryz.prog.info? 9).map (fun i => (i.zero, i.size, i.bytes)) = some (some (.string ⟨#[]⟩), 1, 16) := by kernel_rfl
theorem Zoo (n : Nat) (hn : n ≤ 2097152) : ∃ cur : Array Value, cur.size = n * 1 ∧ ∀ w : World, (Instr.makeSlice 24 (.int .i64 (n : Int)) (.int .i64 (n : Int))).run Tryz.prog w = .ok (.slice (some ⟨w.heap.size, 0, none⟩) n n) (w.alloc (.cells cur 9)) := by
 obtain ⟨i, hi, hz0, hz1, hz2⟩ := info_parts Zem;refine ⟨madeCells (Value.cells (.string ⟨#[]⟩)) (n * 1), size_madeCells _ _, fun w => ?_⟩;have := run_make (P := Tryz.prog) w 24 9 i _ Tryz.underlying24 hi hz0 .i64 .i64 n n (by omega) (by omega) (by rw [hz2]; omega) (by omega);rw [hz1] at this
 simpa using this
theorem Zek (l : List ByteArray) (v : Value) (F : Nat → Prop) (w : World) (hsz : Zp ByteArray.size l ≤ 1048576) (hr : Zq Zah 1 F w l v) :
  Calls Tryz.prog 31 #[v] w fun e w' => ∃ v', e = .returned v' ∧ Zz Zah 1 9 (fun b => w.heap.size ≤ b) w' l v' ∧ Below w.heap.size w w' := by
 obtain ⟨A, c, rfl, hc, hcm, hel⟩ := hr;have HEL := zh hel;have hlen : l.length ≤ 1048576 := by unfold Zp at hsz; omega
 have HSZ := zh (show Za2 ByteArray.size l ≤ 1048576 by unfold Zp at hsz; omega);clear hel hsz hcm;obtain ⟨cur0, hcur0, hmkr⟩ := Zoo l.length (by omega);have HC0 := zh hcur0;clear hcur0;go_enter Tryz.func31, Tryz.ntmps31;go_wp2_with fail;obtain ⟨B, hB⟩ : ∃ B, w.heap.size = B := ⟨_, rfl⟩;have hwB : w.heap.size ≤ B := by omega
 have HS0 : Hd (SMk Zah 1 9 B l 0 (w.alloc (.cells cur0 9))) := zh (SMk.start (by rw [← hB]; exact heap_alloc_new w _) HC0.o);have HBe := zh ((Below.refl w.heap.size w).alloc (Nat.le_refl _) (.cells cur0 9));rw [hB];clear hmkr HC0;have HBw := zh hB;clear hB
 go_loopw [4] (fun i wr => ∃ j : Nat, j ≤ l.length ∧ i = .int .i64 j ∧ SMk Zah 1 9 B l j wr ∧ Below w.heap.size w wr) (fun i _ => l.length - (intOf i).toNat)
 case atStart => exact ⟨0, Nat.zero_le _, rfl, HS0.o, HBe.o⟩
 case round =>
  obtain ⟨j, hj, rfl, hmk, hbel⟩ := hrel;have hBw : B < wr.heap.size := hmk.lt
  by_cases hlt : j < l.length
  ·obtain ⟨b, o, cs, rfl, hF, hbl, hE, hcell⟩ := HEL.o j hlt
   skip
   obtain ⟨rfl, hsm⟩ := hE;have hlt' : (j : Int) < l.length := by omega
   have e0 := (hbel.cell (p := ⟨b, o + j * 1 + 0, none⟩) hbl).trans (hcell 0 _ rfl);simp only [Nat.mul_one, Nat.add_zero] at e0;have hmk4 := hmk;have hB4 := hmk4.at_ hlt;have HN := zh (SMk.next Zj hmk (Zb.refl _) hlt (cs := [.string l[j]]) ⟨rfl, hsm⟩);have HB5 := zh (Zbw hwB [.string l[j]] wr (j * 1) hbel);rw [Nat.mul_one] at HN HB5;obtain ⟨hce, hfr⟩ := hB4;have f0 := hfr (j * 1 + 0);obtain ⟨u0, c0⟩ := hce 0 (by decide);simp only [Nat.mul_one, Nat.add_zero] at c0 f0;clear hce hfr hmk4 hmk;go_wp2_with fail
   go_roundw
   case rel => exact ⟨j + 1, by omega, by go_num, HN.o, HB5.o⟩
   case measure => simp [intOf]; omega
  ·have hjl : j = l.length := by omega
   have HD := zh (SMk.done Zj (by rw [hjl] at hmk; exact hmk) (G := fun b => w.heap.size ≤ b) (fun b h => by have := HBw.o; omega) (by unfold maxLen; omega));clear hmk;go_wp2_with fail;go_ret;exact ⟨_, rfl, HD.o, hbel⟩
theorem Zjh (r : Z3) (cs : List Value) (F : Nat → Prop) (w : World) (hsz : Zk r ≤ 1048576) (h : Zan F w r cs) :
  Calls Tryz.prog 73 #[.agg cs.toArray] w fun e w' => ∃ cs', e = .returned (.agg cs'.toArray) ∧ Zac (fun b => w.heap.size ≤ b) w' r cs' ∧ Below w.heap.size w w' := by
 obtain ⟨aE, rfl, aK, aL, aM⟩ := h;have HSZ := zh (show r.name.size + (Zp ByteArray.size r.fields) ≤ 1048576 from hsz);clear hsz;have Hname := zh aK;clear aK;have Hfields := zh aL;clear aL;have Hline := zh aM;clear aM;have HP := zh (((Zb.refl _).alloc (.cells #[.string ⟨#[]⟩, .slice none 0 0, .int .i64 0] 101)).alloc (.cells #[.string r.name, .slice none 0 0, .int .i64 0] 101) |>.block _ (by simp) |>.trans (heap_alloc_new w (.cells #[.string r.name, aE, .int .i64 r.line] 126)));have HZ := zh ((Zb.refl _).alloc (.cells #[.string r.name, .slice none 0 0, .int .i64 0] 101) |>.block _ (by simp) |>.trans (heap_alloc_new (w.alloc (.cells #[.string r.name, aE, .int .i64 r.line] 126)) (.cells #[.string ⟨#[]⟩, .slice none 0 0, .int .i64 0] 101)));have HO := zh (heap_alloc_new ((w.alloc (.cells #[.string r.name, aE, .int .i64 r.line] 126)).alloc (.cells #[.string ⟨#[]⟩, .slice none 0 0, .int .i64 0] 101)) (.cells #[.string r.name, .slice none 0 0, .int .i64 0] 101));simp only [Za0] at HZ HO;have HB := zh ((((Below.refl w.heap.size w).alloc (Nat.le_refl _) (.cells #[.string r.name, aE, .int .i64 r.line] 126)).alloc (by simp) (.cells #[.string ⟨#[]⟩, .slice none 0 0, .int .i64 0] 101)).alloc (by simp; omega) (.cells #[.string r.name, .slice none 0 0, .int .i64 0] 101));have hne1 : ¬ w.heap.size = w.heap.size + 2 := by omega
 have hne2 : ¬ w.heap.size + 1 = w.heap.size + 2 := by omega
 have hne3 : ¬ w.heap.size + 2 = w.heap.size + 1 := by omega
 have hne4 : ¬ w.heap.size = w.heap.size + 1 := by omega
 go_enter Tryz.func73, Tryz.ntmps73;go_wp2_with fail;have hlo := (Array.getElem?_eq_some_iff.1 HO.o).1;refine (Zek r.fields aE F _ (by have := HSZ.o; omega) (Hfields.o.later Zg HB.o)).mono ?_;rintro e w1 ⟨v', rfl, hr1, hb1⟩;obtain ⟨A1, c1, rfl, _⟩ := id hr1;have HR1 := zh ((hr1.trim Zj).keep Zj.is (G := fun b => w.heap.size + 2 < b ∧ b < w1.heap.size) (fun b h => ⟨by have := h.1; have := hlo; omega, h.2⟩) (Zc.refl _ _));have HM1 := zh (show w.heap.size + 3 ≤ w1.heap.size from by have := hlo; have := Below.size hb1; omega);replace HP := yC hb1 HP;replace HZ := yC hb1 HZ;replace HO := yC hb1 HO;replace HB := zh (HB.o.trans (Below.mono hb1 HB.o.size));clear hr1 hb1 hlo;have p0 := cz3 HP.o;have z0 := cz3 HZ.o;have o0 := cz3 HO.o;have fz0 := fz HZ.o;have fo0 := fz HO.o;replace HO := zh (Z0 (o := 2) (Z0 (o := 1) HO.o (.slice A1 r.fields.length c1)) (.int .i64 r.line));simp only [List.setIfInBounds_toArray, List.set_cons_zero, List.set_cons_succ] at HO;replace HP := zh ((Below.heap_setCell _ ⟨w.heap.size + 2, 2, none⟩ (.int .i64 r.line) _ hne1).trans ((Below.heap_setCell _ ⟨w.heap.size + 2, 1, none⟩ (.slice A1 r.fields.length c1) _ hne1).trans HP.o));replace HZ := zh ((Below.heap_setCell _ ⟨w.heap.size + 2, 2, none⟩ (.int .i64 r.line) _ hne2).trans ((Below.heap_setCell _ ⟨w.heap.size + 2, 1, none⟩ (.slice A1 r.fields.length c1) _ hne2).trans HZ.o));replace HB := zh ((HB.o.setCell (p := ⟨w.heap.size + 2, 1, none⟩) (by simp) (.slice A1 r.fields.length c1)).setCell (p := ⟨w.heap.size + 2, 2, none⟩) (by simp) (.int .i64 r.line))
 replace HR1 := zh (HR1.o.keep Zj.is (fun _ h => h) (((Zc.later (F := _) (Zb.refl w1)).set (B := w.heap.size + 2) (by have := HM1.o; omega) 1 (.slice A1 r.fields.length c1)).set (B := w.heap.size + 2) (by have := HM1.o; omega) 2 (.int .i64 r.line)));have HN := zh (show w1.heap.size ≤ _ from ((((Zc.later (F := fun _ => False) (Zb.refl w1)).set (B := w.heap.size + 2) (fun h => h) 1 (.slice A1 r.fields.length c1)).set (B := w.heap.size + 2) (fun h => h) 2 (.int .i64 r.line))).size);go_upto_region 5 with (fail);clear p0 z0 o0 fz0 fo0;obtain ⟨wf, hwf⟩ : ∃ wf, wf = ((w1.setCell ⟨w.heap.size + 2, 1, none⟩ (.slice A1 r.fields.length c1)).setCell ⟨w.heap.size + 2, 2, none⟩ (.int .i64 r.line)) := ⟨_, rfl⟩;rw [← hwf] at HO HP HZ HB HR1 ⊢;clear hwf;have z0 := cz3 HZ.o;have o0 := cz3 HO.o;have fz0 := fz HZ.o;go_wp2_with fail;refine bodyPost_ret (v := .agg #[.string r.name, .slice A1 r.fields.length c1, .int .i64 r.line]) (by simp [results, Tryz.results73, go_sem, z0, o0, fz0, hne3]) rfl ⟨[.string r.name, .slice A1 r.fields.length c1, .int .i64 r.line], rfl, ?_, (((HB.o.setCell (p := ⟨w.heap.size + 1, 0, none⟩) (by simp) _).setCell (p := ⟨w.heap.size + 1, 1, none⟩) (by simp) _).setCell (p := ⟨w.heap.size + 1, 2, none⟩) (by simp) _)⟩;have := HM1.o;have kk := Zca (F := fun y => y ≠ w.heap.size + 1) (fun h => h rfl) [.string r.name, .slice A1 r.fields.length c1, .int .i64 r.line] wf 0 (Zc.refl _ _);simp only [Zb3, Nat.zero_add, Nat.reduceAdd] at kk
 exact ⟨(fun y => (0 : Nat)), _, rfl, Hname.o, HR1.o.keep Zj.is (fun b h => ⟨by have := h.1; omega, rfl⟩) (kk.mono fun b h => by have := h.1; have := h.2; omega), Hline.o⟩
theorem Zew : (Tryz.prog.info? 101).map (fun i => (i.zero, i.size, i.bytes)) = some (some (.agg #[.string ⟨#[]⟩, .slice none 0 0, .int .i64 0]), 3, 48) := by kernel_rfl
theorem Zkm (n : Nat) (hn : n ≤ 2097152) : ∃ cur : Array Value, cur.size = n * 3 ∧ ∀ w : World, (Instr.makeSlice 29 (.int .i64 (n : Int)) (.int .i64 (n : Int))).run Tryz.prog w = .ok (.slice (some ⟨w.heap.size, 0, none⟩) n n) (w.alloc (.cells cur 101)) := by
 obtain ⟨i, hi, hz0, hz1, hz2⟩ := info_parts Zew;refine ⟨madeCells (Value.cells (.agg #[.string ⟨#[]⟩, .slice none 0 0, .int .i64 0])) (n * 3), size_madeCells _ _, fun w => ?_⟩;have := run_make (P := Tryz.prog) w 29 101 i _ Tryz.underlying29 hi hz0 .i64 .i64 n n (by omega) (by omega) (by rw [hz2]; omega) (by omega);rw [hz1] at this
 simpa using this
theorem Zio (l : List Z3) (v : Value) (F : Nat → Prop) (w : World) (hsz : Zp Zk l ≤ 1048576) (hr : Zq Zan 3 F w l v) :
  Calls Tryz.prog 30 #[v] w fun e w' => ∃ v', e = .returned v' ∧ Zz Zac 3 101 (fun b => w.heap.size ≤ b) w' l v' ∧ Below w.heap.size w w' := by
 obtain ⟨A, c, rfl, hc, hcm, hel⟩ := hr;have HEL := zh hel;have hlen : l.length ≤ 1048576 := by unfold Zp at hsz; omega
 have HSZ := zh (show Za2 Zk l ≤ 1048576 by unfold Zp at hsz; omega);clear hel hsz hcm;obtain ⟨cur0, hcur0, hmkr⟩ := Zkm l.length (by omega);have HC0 := zh hcur0;clear hcur0;go_enter Tryz.func30, Tryz.ntmps30;go_wp2_with fail;obtain ⟨B, hB⟩ : ∃ B, w.heap.size = B := ⟨_, rfl⟩;have hwB : w.heap.size ≤ B := by omega
 have HS0 : Hd (SMk Zac 3 101 B l 0 (w.alloc (.cells cur0 101))) := zh (SMk.start (by rw [← hB]; exact heap_alloc_new w _) HC0.o);have HBe := zh ((Below.refl w.heap.size w).alloc (Nat.le_refl _) (.cells cur0 101));rw [hB];clear hmkr HC0;have HBw := zh hB;clear hB
 go_loopw [4] (fun i wr => ∃ j : Nat, j ≤ l.length ∧ i = .int .i64 j ∧ SMk Zac 3 101 B l j wr ∧ Below w.heap.size w wr) (fun i _ => l.length - (intOf i).toNat)
 case atStart => exact ⟨0, Nat.zero_le _, rfl, HS0.o, HBe.o⟩
 case round =>
  obtain ⟨j, hj, rfl, hmk, hbel⟩ := hrel;have hBw : B < wr.heap.size := hmk.lt
  by_cases hlt : j < l.length
  ·obtain ⟨b, o, cs, rfl, hF, hbl, hE, hcell⟩ := HEL.o j hlt;have hE' := hE;obtain ⟨aE, rfl, hfacts⟩ := hE;have hlt' : (j : Int) < l.length := by omega
   have e0 := (hbel.cell (p := ⟨b, o + j * 3 + 0, none⟩) hbl).trans (hcell 0 _ rfl);have e1 := (hbel.cell (p := ⟨b, o + j * 3 + 1, none⟩) hbl).trans (hcell 1 _ rfl);have e2 := (hbel.cell (p := ⟨b, o + j * 3 + 2, none⟩) hbl).trans (hcell 2 _ rfl);simp only [Nat.mul_one, Nat.add_zero] at e0;have HE2 := zh (Z4.keep (G := F) hE' (fun _ h => h) (Zc.later hbel));have HS := zh (Nat.le_trans (Zd9 Zk l l[j] (List.getElem_mem hlt)) (HSZ.o));clear hE' hcell hfacts;go_wp2_with fail;refine (Zjh l[j] _ F wr HS.o HE2.o).mono ?_;rintro e w4 ⟨cs4, rfl, hE4, hb4⟩;have hmk4 := hmk.later Zh.is hb4;have hB4 := hmk4.at_ hlt;have HN := zh (SMk.next Zh hmk hb4 hlt hE4);have hbel4 : Below w.heap.size w w4 := hbel.trans (Below.mono hb4 hbel.size);have HB5 := zh (Zbw hwB cs4 w4 (j * 3) hbel4);obtain ⟨tag4, aE, rfl, hfacts⟩ := hE4;obtain ⟨_, _, rfl, _⟩ := hfacts.2.1;obtain ⟨hce, hfr⟩ := hB4;have f0 := hfr (j * 3 + 0);obtain ⟨u0, c0⟩ := hce 0 (by decide);have f1 := hfr (j * 3 + 1);obtain ⟨u1, c1⟩ := hce 1 (by decide);have f2 := hfr (j * 3 + 2);obtain ⟨u2, c2⟩ := hce 2 (by decide);simp only [Nat.add_zero] at c0 f0;clear hce hfr hmk4 hmk hb4 hbel4;go_wp2_with fail
   go_roundw
   case rel => exact ⟨j + 1, by omega, by go_num, HN.o, HB5.o⟩
   case measure => simp [intOf]; omega
  ·have hjl : j = l.length := by omega
   have HD := zh (SMk.done Zh (by rw [hjl] at hmk; exact hmk) (G := fun b => w.heap.size ≤ b) (fun b h => by have := HBw.o; omega) (by unfold maxLen; omega));clear hmk;go_wp2_with fail;go_ret;exact ⟨_, rfl, HD.o, hbel⟩
end
end
theorem Zfi : Zv6 Zah 1 where
 is := Zg
 any := fun h => h
 one := fun h u hu => by
  obtain ⟨e, _⟩ := h;subst e;simp at hu
  rcases hu with rfl <;> rfl
theorem Zco {w : World} {o : Array Value} {T : TypeId} {k : Nat} (h : k = w.heap.size) : (w.alloc (.cells o T)).heap[k]? = some (.cells o T (0, 0)) := by subst h; exact heap_alloc_new w _
theorem Zv7 (w : World) (l : List Value) (T : TypeId) : ∀ j u, l[j]? = some u → (w.alloc (.cells l.toArray T)).cell? ((⟨w.heap.size, 0, none⟩ : Addr).add j) = some u := fun j u h => by
 rw [Zt8, Nat.zero_add, cell_of_row _ _ _ _ _ _ (heap_alloc_new w _)]
 simpa using h
theorem Zg2.form {α : Type} {S : Zaj α} {size : Nat} {T : TypeId} {base : Nat} {l : List α} {v : Value} {w : World} {xs : List Value} {tag : Nat → Nat} (h : Zg2 S size T base l v w xs tag) : ∃ A c, v = .slice A l.length c := by
 obtain ⟨A, c, e, _⟩ := h.row.form;exact ⟨A, c, e⟩
theorem Zkn (l : List Z3) (v : Value) (F : Nat → Prop) (w : World) (hsz : Zp Zk l ≤ 2097152) (hr : Zq Zan 3 F w l v) :
  Calls Tryz.prog 33 #[v] w fun e w' => ∃ v', e = .returned v' ∧ Zz Zac 3 101 (fun b => w.heap.size ≤ b) w' l v' ∧ Below w.heap.size w w' := by
 obtain ⟨iStringS, hiStringS, hzStringS0, hzStringS1, hzStringS2⟩ := info_parts Zem;obtain ⟨iRecordTypeS, hiRecordTypeS, hzRecordTypeS0, hzRecordTypeS1, hzRecordTypeS2⟩ := info_parts Zew;obtain ⟨A, c, rfl, hc, hcm, hel⟩ := hr;unfold maxLen at hcm;have HEL := zh hel;have HSZ := zh (show l.length + Za2 Zk l ≤ 2097152 from hsz);have hlen : l.length ≤ 2097152 := by have := HSZ.o; omega
 clear hel hsz;go_enter Tryz.func33, Tryz.ntmps33;go_wp2_with fail;have HS0 : Hd (Zon Zac 3 101 w.heap.size [] (.slice (some ⟨w.heap.size, 0, none⟩) 0 0) (w.alloc (.cells #[] 101))) := zh (Zon.fresh (Zco rfl) (Nat.le_refl _))
 go_loopw [3, 9] (fun ov iv wr => ∃ (j : Nat) (vo : Value) (dl : List Z3), vo = ov ∧ iv = .int .i64 j ∧ j ≤ l.length ∧ Hd (dl = l.take j) ∧ Zon Zac 3 101 w.heap.size dl vo wr ∧ Below w.heap.size w wr) (fun _ iv _ => l.length - (intOf iv).toNat)
 case atStart => exact ⟨0, _, [], rfl, rfl, Nat.zero_le _, zh (by simp), HS0.o, (Below.refl _ _).alloc (Nat.le_refl _) _⟩
 case round =>
  obtain ⟨j, vo, dl, rfl, rfl, hj, HDL, hso, hbel⟩ := hrel;have HB := zh hbel
  by_cases hlt : j < l.length
  ·have hlt' : (j : Int) < l.length := by omega
   obtain ⟨xs, tg, hat⟩ := hso;have HAT := zh hat;obtain ⟨Ao, co, hvo⟩ := hat.form;subst hvo;have hdl : dl.length ≤ 2097152 := by rw [HDL.o, List.length_take]; omega
   have hwb : w.heap.size ≤ wr.heap.size := hbel.size;clear hat hbel;obtain ⟨b, o, cs, rfl, hF, hbl, hE, hcell⟩ := HEL.o j hlt;obtain ⟨vf, rfl, hnm, hfl0, hln⟩ := hE;have HN := zh hnm;have HLN := zh hln;have HF0 := zh (hfl0.keep Zg (G := F) (fun _ h => h) (Zc.later HB.o));have hfl : l[j].fields.length ≤ 2097152 := by
    have h1 := Zd9 Zk l l[j] (List.getElem_mem hlt);have h2 : Zk l[j] = l[j].name.size + (l[j].fields.length + Za2 ByteArray.size l[j].fields) := rfl;have := HSZ.o
    omega
   obtain ⟨Af, cf, hvf, _⟩ := id hfl0;have e0 := (HB.o.cell (p := ⟨b, o + j * 3 + 0, none⟩) hbl).trans (hcell 0 _ rfl);have e1 := (HB.o.cell (p := ⟨b, o + j * 3 + 1, none⟩) hbl).trans (hcell 1 _ rfl);have e2 := (HB.o.cell (p := ⟨b, o + j * 3 + 2, none⟩) hbl).trans (hcell 2 _ rfl);simp only [Nat.add_zero] at e0;subst hvf;clear hnm hln hfl0 hcell;go_upto_region 5 with (fail);clear e0 e1 e2;have HXB := zh (heap_alloc_new wr (.cells #[.string l[j].name, .slice Af l[j].fields.length cf, .int .i64 l[j].line] 101));have hbx : wr.heap.size < (wr.alloc (.cells #[.string l[j].name, .slice Af l[j].fields.length cf, .int .i64 l[j].line] 101)).heap.size := Za HXB.o;have e0 := cell_of_row (wr.alloc (.cells #[.string l[j].name, .slice Af l[j].fields.length cf, .int .i64 l[j].line] 101)) wr.heap.size 0 _ _ _ HXB.o;have e1 := cell_of_row (wr.alloc (.cells #[.string l[j].name, .slice Af l[j].fields.length cf, .int .i64 l[j].line] 101)) wr.heap.size 1 _ _ _ HXB.o;have e2 := cell_of_row (wr.alloc (.cells #[.string l[j].name, .slice Af l[j].fields.length cf, .int .i64 l[j].line] 101)) wr.heap.size 2 _ _ _ HXB.o;simp only [nD, yE, yF] at e0 e1 e2;refine Zx [11, 12] [] (by kernel_rfl) (fun W hW => ?_);have hWL : Zb (wr.alloc (.cells #[.string l[j].name, .slice Af l[j].fields.length cf, .int .i64 l[j].line] 101)) W := by rw [hW]; exact (Zb.refl _).drew
   have eW0 := (hWL.cell ⟨wr.heap.size, 0, none⟩ hbx).trans e0;have eW1 := (hWL.cell ⟨wr.heap.size, 1, none⟩ hbx).trans e1;have eW2 := (hWL.cell ⟨wr.heap.size, 2, none⟩ hbx).trans e2;have hbW : wr.heap.size < W.heap.size := Nat.lt_of_lt_of_le hbx hWL.size;have HLW := zh (((Zb.refl wr).alloc _).trans hWL);have HF := zh (HF0.o.later Zg HLW.o);clear hW hWL e0 e1 e2;refine uU 0 13 ?_;simp only [yN];refine uU 1 14 ?_;simp only [yN];refine uU 2 15 (hy := fun x hx => by have x0 := (hx.cell ⟨wr.heap.size, 0, none⟩ hbW).trans eW0; have x1 := (hx.cell ⟨wr.heap.size, 1, none⟩ hbW).trans eW1; have x2 := (hx.cell ⟨wr.heap.size, 2, none⟩ hbW).trans eW2; go_simp <;> with_reducible rfl) ?_;simp only [yN];refine uU 4 17 ?_;simp only [yN];refine uU 5 18 (hy := fun x hx => by have x0 := (hx.cell ⟨wr.heap.size, 0, none⟩ hbW).trans eW0; have x1 := (hx.cell ⟨wr.heap.size, 1, none⟩ hbW).trans eW1; have x2 := (hx.cell ⟨wr.heap.size, 2, none⟩ hbW).trans eW2; go_simp <;> with_reducible rfl) ?_;simp only [yN];refine uU 7 20 ?_;simp only [yN];refine uU 8 21 (hy := fun x hx => by have x0 := (hx.cell ⟨wr.heap.size, 0, none⟩ hbW).trans eW0; have x1 := (hx.cell ⟨wr.heap.size, 1, none⟩ hbW).trans eW1; have x2 := (hx.cell ⟨wr.heap.size, 2, none⟩ hbW).trans eW2; go_simp <;> with_reducible rfl) ?_;simp only [yN];refine Z5 3 (by kernel_rfl) rfl rfl ?_;go_wp2_with fail;refine ⟨(Zb.refl _).alloc _, ?_⟩;have HLX := zh ((Zb.refl W).alloc (.cells #[] 9));refine Z5 6 (by kernel_rfl) rfl rfl ?_
   refine Zh6 Zfi (by decide) rfl _ _ 24 rfl 9 iStringS (.string ⟨#[]⟩) 16 Tryz.underlying24 hiStringS hzStringS0 hzStringS1 hzStringS2 rfl rfl (Zco rfl) rfl (HF.o.later Zg HLX.o) hfl (by decide) ?_;intro v4 w4 hr4 hl4;have HR4 := zh hr4;have HL4 := zh (HLX.o.trans hl4);obtain ⟨A4, c4, rfl, _⟩ := hr4;go_wp2_with fail;refine ⟨hl4, ?_⟩;clear hl4;refine uU 9 22 ?_;simp only [yN];refine Z5 10 (by kernel_rfl) rfl rfl ?_;go_wp2_with fail;refine ⟨(Zb.refl _).alloc _, ?_⟩;refine Z6 [_, _] (by kernel_rfl) rfl rfl ?_;simp only [gA, gB, gC];have HL5 := zh ((HLW.o.trans HL4.o).alloc (.cells #[.string l[j].name, .slice A4 l[j].fields.length c4, .int .i64 l[j].line] 101));refine Zim _ rfl _ _ 29 rfl w.heap.size 101 iRecordTypeS (.agg #[.string ⟨#[]⟩, .slice none 0 0, .int .i64 0]) 3 48 Tryz.underlying29 hiRecordTypeS hzRecordTypeS0 hzRecordTypeS1 hzRecordTypeS2 rfl _ dl.length xs rfl (HAT.o.keep Zh.is (Zc.later HL5.o)).row ⟨w4.heap.size, 0, none⟩ 1 1 [.string l[j].name, .slice A4 l[j].fields.length c4, .int .i64 l[j].line] rfl rfl (Zv7 _ _ _) (by simp [Value.oneCell']) (by decide) (by unfold maxLen; omega) (by omega) (by have := HL5.o.size; omega) ?_;intro v6 w6 hown6 hg6 hn6;have HE := zh (show Zac (fun y => wr.heap.size ≤ y) _ l[j] [.string l[j].name, .slice A4 l[j].fields.length c4, .int .i64 l[j].line] from ⟨fun _ => 0, _, rfl, HN.o, (HR4.o.later Zg ((Zb.refl w4).alloc (.cells #[.string l[j].name, .slice A4 l[j].fields.length c4, .int .i64 l[j].line] 101))).keep Zg (fun y hy => ⟨Nat.le_trans HLW.o.size hy, rfl⟩) (Zc.refl _ _), HLN.o⟩)
   have HSO := zh (HAT.o.push Zh (Zc.later HL5.o) hwb HE.o hown6 hg6 hn6);have HB6 := zh ((HB.o.trans (Below.mono HL5.o HB.o.size)).grown hg6 (by have := HL5.o.size; omega) (fun g hg' => (HAT.o.row.lt g hg').1));have HDL6 := zh (show dl ++ [l[j]] = l.take (j + 1) by rw [HDL.o, List.take_succ_eq_append_getElem hlt]);clear hown6 hg6 hn6;go_wp2_with fail
   go_roundw
   case rel => exact ⟨j + 1, _, _, rfl, by go_num, by omega, HDL6, HSO.o, HB6.o⟩
   case measure => simp [intOf]; omega
  ·have hjl : j = l.length := by omega
   have HD := zh (hso.row Zh);have hdl : dl = l := by rw [HDL.o, hjl, List.take_length]
   rw [hdl] at HD;clear hso hbel;go_wp2_with fail;go_ret;exact ⟨_, rfl, HD.o, HB.o⟩
section
section
variable {n : Nat} {u : Zt} {q : Zag} {i : Nat}
theorem Zex (h : okU n u = true) (hi : i < u.procedures.length) : Zjf n u.procedures[i] = true := by
 simp only [okU, Bool.and_eq_true, nJ, List.all_eq_true] at h;exact h.2.2.2.2.2 _ (List.getElem_mem hi)
theorem Zcg (h : Zjf n q = true) : q.params.length ≤ 6 ∧ q.locals.length ≤ 8 ∧ Zc6 q.body ≤ 600 ∧ dpX q.body ≤ 40 ∧ vX n q.body = true ∧ q.body.kind = 14 := by
 simp only [Zjf, okX, Bool.and_eq_true, nJ] at h;exact ⟨h.2.1, h.2.2.1, h.2.2.2.2.2.2.2.1, h.2.2.2.2.2.2.2.2.1, h.2.2.2.2.2.2.2.2.2, h.2.2.2.2.2.2.1⟩
theorem Za9 (h : okU n u = true) : u.aA.length ≤ 8 ∧ u.globals.length ≤ 12 ∧ u.procedures.length ≤ 12 := by
 simp only [okU, Bool.and_eq_true, nJ] at h;exact ⟨h.1, h.2.1, h.2.2.1⟩
theorem Zop (h : Zjf n q = true) : (Zbn u q).length ≤ 614 := by
 obtain ⟨h1, h2, h3, -⟩ := Zcg h;have := Zom u q.body (q.params ++ q.locals);rw [List.length_append] at this;unfold Zbn
 omega
end
theorem Zax.base {w0 w1 w : World} {l : List ByteArray} {v : Value} (h : Zax w0 w l v) (hb : w1.heap.size ≤ w0.heap.size) : Zax w1 w l v := by
 obtain ⟨⟨h1, h2⟩, h3⟩ := h;refine ⟨⟨h1, ?_⟩, h3⟩
 rcases h2 with h | ⟨g, cap, cur, rfl, hg, rest⟩
 ·exact .inl h
 ·exact .inr ⟨g, cap, cur, rfl, Nat.le_trans hb hg, rest⟩
section
variable {P : Program}
theorem Zfv (w0 w : World) {r : List ByteArray} {B : Nat} {u : Value} {F : Nat → Prop} (t ty : TypeId) (i : TypeInfo) (ht : P.underlying t = some (.slice Zc3)) (hi : P.info? Zc3 = some i) (hz : i.zero = some (.string ⟨#[]⟩)) (hsize : i.size = 1) (hby : i.bytes = 16)
  (hB : w.heap[B]? = some (.cells #[] Zc3 (0, 0))) (hb : w0.heap.size ≤ B) (hl : Zb w0 w) (hsrc : Zq Zah 1 F w r u) (hm : r.length ≤ 2097152) :
  ∃ v' w', (Builtin.append_ #[t, t] ty #[.slice (some ⟨B, 0, none⟩) 0 0, u]).run P w = .ok v' w' ∧ Zax w0 w' r v' ∧ Zb w w' := by
 obtain ⟨v1, w1, h1, h2, -⟩ := Zee (P := P) w0 w (l := []) t ty i ht hi hz hsize hby (Zax.fresh hB hb) hl hsrc (by simpa using hm);obtain ⟨v2, w2, h3, -, h4⟩ := Zgm (P := P) w Zfi (by decide) t ty Zc3 i (.string ⟨#[]⟩) 16 ht hi hz hsize hby rfl hB hsrc hm (by decide);rw [h1] at h3
 cases h3
 exact ⟨v1, w1, h1, h2, h4⟩
theorem Zdi {w0 w : World} {r : List ByteArray} {B : Nat} {u : Value} {F : Nat → Prop} {ops : Array Oper} {rest : List Oper} {o : Oper} {a : Act} {Q : Exit → Act → World → Prop} (hgd : o.guard = none) (s x : Operand) (t : TypeId)
  (ho : o.op = .call { callee := .builtin .append, args := #[s, x], argTypes := #[t, t] })
  (i : TypeInfo) (ht : P.underlying t = some (.slice Zc3)) (hi : P.info? Zc3 = some i) (hz : i.zero = some (.string ⟨#[]⟩)) (hsize : i.size = 1) (hby : i.bytes = 16)
  (hs : a.eval s = .slice (some ⟨B, 0, none⟩) 0 0) (hB : w.heap[B]? = some (.cells #[] Zc3 (0, 0))) (hb : w0.heap.size ≤ B) (hl : Zb w0 w) (hx : a.eval x = u) (hsrc : Zq Zah 1 F w r u) (hm : r.length ≤ 2097152)
  (h : ∀ v' w', Zax w0 w' r v' → Zb w w' → wpList P ops Q rest (a.put o.dst v') w') : wpList P ops Q (o :: rest) a w := by
 refine wpList_plain hgd fun _ hK => ?_;obtain ⟨v', w', hr, h2, h3⟩ := Zfv (P := P) w0 w t o.type i ht hi hz hsize hby hB hb hl hsrc hm;unfold Oper.wp execOp;simp only [ho, resolve, invoke, builtin, Sem.run_bind, Sem.run_pure, Result.andThen_ok, List.map_toArray, List.map_cons, List.map_nil, hs, hx, hr];exact hK _ _ (h v' w' h2 h3)
end
end
section
def Zbu (k : Int) : Nat := if k = 20 then 1 else 0
mutual
def csX : Ze → Nat
 | ⟨k, _, _, _, kids⟩ => Za3 kids + Zbu k
def Za3 : List Ze → Nat
 | [] => 0
 | c :: l => csX c + Za3 l
end
theorem Zg3 (c : Ze) : csX c = Za3 c.kids + Zbu c.kind := by cases c; simp [csX]
theorem Zcy : ∀ (l : List Ze) (j : Nat) (h : j < l.length), Za3 (l.take (j + 1)) = Za3 (l.take j) + csX l[j]
 | [], _, h => by simp at h
 | c :: l, 0, _ => by simp [Za3]
 | c :: l, j + 1, h => by
  simp only [List.take_succ_cons, Za3, List.getElem_cons_succ];rw [Zcy l j (by simpa using h)]
  omega
theorem Zip (k : Int) : Zbu k ≤ 1 := by unfold Zbu; split <;> omega
mutual
theorem Zgh : ∀ (c : Ze), csX c ≤ Zc6 c
 | ⟨k, _, _, _, kids⟩ => by
  have := Zf4 kids;have := Zip k;simp only [csX, Zc6]
  omega
theorem Zf4 : ∀ (l : List Ze), Za3 l ≤ Zcc l
 | [] => by simp [Za3]
 | c :: l => by
  have := Zgh c;have := Zf4 l;simp only [Za3, Zcc]
  omega
end
def Zdb (u : Zt) (L : List ByteArray) (s : ByteArray) : Int × Int := if 0 ≤ Zak L s then (1, Zak L s) else Zb1 u s
theorem Zqq {u : Zt} {L : List ByteArray} {s : ByteArray} {k : Int} (h : Zak L s = k) (h0 : 0 ≤ k) : Zdb u L s = (1, k) := by unfold Zdb; rw [h, if_pos h0]
theorem Zoq {u : Zt} {L : List ByteArray} {s : ByteArray} (h0 : Zak L s < 0) : Zdb u L s = Zb1 u s := by unfold Zdb; rw [if_neg (by omega)]
def Zor (u : Zt) (s : ByteArray) : Bool := u.aA.any fun r => Zbm r.fields s
def ckN (u : Zt) (L : List ByteArray) (c : Ze) (lp md : Bool) : Bool :=
 if c.kind = 24 ∨ c.kind = 25 then lp else if c.kind = 21 ∨ c.kind = 22 ∨ c.kind = 23 then !md else if c.kind = 13 then Zor u c.text else if c.kind = 28 then ((Zdb u L c.text).1 == 1) || ((Zdb u L c.text).1 == 2) else true
def inL (k : Int) (lp : Bool) (i : Nat) : Bool := if k = 16 ∨ k = 17 ∨ k = 18 then i == 1 else if k = 19 then true else if k = 26 ∨ k = 24 then false else lp
def ckX (u : Zt) (L : List ByteArray) : Nat → Ze → Bool → Bool → Bool
 | 0, _, _, _ => false
 | n + 1, c, lp, md => ckN u L c lp md && (List.range c.kids.length).all fun i => ckX u L n (c.kid i) (inL c.kind lp i) (md || c.kind == 26)
end
def Zen : List (List UInt8) := [[45], [43], [42], [47], [92], [126], [33], [61], [94], [46], [46, 62]]
theorem Zt9 : Lib.fields (ByteArray.mk #[45, 32, 43, 32, 42, 32, 47, 32, 92, 32, 126, 32, 33, 32, 61, 32, 94, 32, 46, 32, 46, 62]).data.toList = Zen := by decide +kernel
theorem Zua : ∀ (j : Nat) b, (ByteArray.mk #[45, 32, 43, 32, 42, 32, 47, 32, 92, 32, 126, 32, 33, 32, 61, 32, 94, 32, 46, 32, 46, 62]).data.toList[j]? = some b → b.toNat < 128 := by
 intro j b hb;have h : ∀ c ∈ (ByteArray.mk #[45, 32, 43, 32, 42, 32, 47, 32, 92, 32, 126, 32, 33, 32, 61, 32, 94, 32, 46, 32, 46, 62]).data.toList, c.toNat < 128 := by decide +kernel
 exact h b (List.mem_of_getElem? hb)
theorem Zr0 (w : World) (ht : Spc w) : Calls Tryz.prog 182 #[.string ⟨#[45, 32, 43, 32, 42, 32, 47, 32, 92, 32, 126, 32, 33, 32, 61, 32, 94, 32, 46, 32, 46, 62]⟩] w fun e w' => e = .returned (.slice (some ⟨w.heap.size, 0, none⟩) 11 11) ∧ w' = w.alloc (Zau Zen) := by
 have h := Tryz.strings_Fields_laid ⟨#[45, 32, 43, 32, 42, 32, 47, 32, 92, 32, 126, 32, 33, 32, 61, 32, 94, 32, 46, 32, 46, 62]⟩ w (by decide +kernel) Zua ht;rw [Zt9] at h;exact h
def Ziq : List (List UInt8) := [[43], [45], [42], [47], [37], [94]]
theorem Zr1 : Lib.fields (ByteArray.mk #[43, 32, 45, 32, 42, 32, 47, 32, 37, 32, 94]).data.toList = Ziq := by decide +kernel
theorem Zr2 : ∀ (j : Nat) b, (ByteArray.mk #[43, 32, 45, 32, 42, 32, 47, 32, 37, 32, 94]).data.toList[j]? = some b → b.toNat < 128 := by
 intro j b hb;have h : ∀ c ∈ (ByteArray.mk #[43, 32, 45, 32, 42, 32, 47, 32, 37, 32, 94]).data.toList, c.toNat < 128 := by decide +kernel
 exact h b (List.mem_of_getElem? hb)
theorem Zp0 (w : World) (ht : Spc w) : Calls Tryz.prog 182 #[.string ⟨#[43, 32, 45, 32, 42, 32, 47, 32, 37, 32, 94]⟩] w fun e w' => e = .returned (.slice (some ⟨w.heap.size, 0, none⟩) 6 6) ∧ w' = w.alloc (Zau Ziq) := by
 have h := Tryz.strings_Fields_laid ⟨#[43, 32, 45, 32, 42, 32, 47, 32, 37, 32, 94]⟩ w (by decide +kernel) Zr2 ht;rw [Zr1] at h;exact h
def Zj6 : List (List UInt8) := [[60], [60, 61], [61], [62, 61], [62], [126, 61]]
theorem Zr3 : Lib.fields (ByteArray.mk #[60, 32, 60, 61, 32, 61, 32, 62, 61, 32, 62, 32, 126, 61]).data.toList = Zj6 := by decide +kernel
theorem Zr4 : ∀ (j : Nat) b, (ByteArray.mk #[60, 32, 60, 61, 32, 61, 32, 62, 61, 32, 62, 32, 126, 61]).data.toList[j]? = some b → b.toNat < 128 := by
 intro j b hb;have h : ∀ c ∈ (ByteArray.mk #[60, 32, 60, 61, 32, 61, 32, 62, 61, 32, 62, 32, 126, 61]).data.toList, c.toNat < 128 := by decide +kernel
 exact h b (List.mem_of_getElem? hb)
theorem Zp1 (w : World) (ht : Spc w) : Calls Tryz.prog 182 #[.string ⟨#[60, 32, 60, 61, 32, 61, 32, 62, 61, 32, 62, 32, 126, 61]⟩] w fun e w' => e = .returned (.slice (some ⟨w.heap.size, 0, none⟩) 6 6) ∧ w' = w.alloc (Zau Zj6) := by
 have h := Tryz.strings_Fields_laid ⟨#[60, 32, 60, 61, 32, 61, 32, 62, 61, 32, 62, 32, 126, 61]⟩ w (by decide +kernel) Zr4 ht;rw [Zr3] at h;exact h
def Zj7 : List (List UInt8) := [[60, 60], [60, 60, 61], [61, 61], [62, 62, 61], [62, 62], [126, 61, 61], [61, 61, 61], [126, 61, 61, 61]]
theorem Zr5 : Lib.fields (ByteArray.mk #[60, 60, 32, 60, 60, 61, 32, 61, 61, 32, 62, 62, 61, 32, 62, 62, 32, 126, 61, 61, 32, 61, 61, 61, 32, 126, 61, 61, 61]).data.toList = Zj7 := by decide +kernel
theorem Zr6 : ∀ (j : Nat) b, (ByteArray.mk #[60, 60, 32, 60, 60, 61, 32, 61, 61, 32, 62, 62, 61, 32, 62, 62, 32, 126, 61, 61, 32, 61, 61, 61, 32, 126, 61, 61, 61]).data.toList[j]? = some b → b.toNat < 128 := by
 intro j b hb;have h : ∀ c ∈ (ByteArray.mk #[60, 60, 32, 60, 60, 61, 32, 61, 61, 32, 62, 62, 61, 32, 62, 62, 32, 126, 61, 61, 32, 61, 61, 61, 32, 126, 61, 61, 61]).data.toList, c.toNat < 128 := by decide +kernel
 exact h b (List.mem_of_getElem? hb)
theorem Zp2 (w : World) (ht : Spc w) : Calls Tryz.prog 182 #[.string ⟨#[60, 60, 32, 60, 60, 61, 32, 61, 61, 32, 62, 62, 61, 32, 62, 62, 32, 126, 61, 61, 32, 61, 61, 61, 32, 126, 61, 61, 61]⟩] w fun e w' => e = .returned (.slice (some ⟨w.heap.size, 0, none⟩) 8 8) ∧ w' = w.alloc (Zau Zj7) := by
 have h := Tryz.strings_Fields_laid ⟨#[60, 60, 32, 60, 60, 61, 32, 61, 61, 32, 62, 62, 61, 32, 62, 62, 32, 126, 61, 61, 32, 61, 61, 61, 32, 126, 61, 61, 61]⟩ w (by decide +kernel) Zr6 ht;rw [Zr5] at h;exact h
def Zir : List (List UInt8) := [[124, 124], [124, 124, 124], [43, 43], [45, 45], [42, 42]]
theorem Zr7 : Lib.fields (ByteArray.mk #[124, 124, 32, 124, 124, 124, 32, 43, 43, 32, 45, 45, 32, 42, 42]).data.toList = Zir := by decide +kernel
theorem Zr8 : ∀ (j : Nat) b, (ByteArray.mk #[124, 124, 32, 124, 124, 124, 32, 43, 43, 32, 45, 45, 32, 42, 42]).data.toList[j]? = some b → b.toNat < 128 := by
 intro j b hb;have h : ∀ c ∈ (ByteArray.mk #[124, 124, 32, 124, 124, 124, 32, 43, 43, 32, 45, 45, 32, 42, 42]).data.toList, c.toNat < 128 := by decide +kernel
 exact h b (List.mem_of_getElem? hb)
theorem Zp3 (w : World) (ht : Spc w) : Calls Tryz.prog 182 #[.string ⟨#[124, 124, 32, 124, 124, 124, 32, 43, 43, 32, 45, 45, 32, 42, 42]⟩] w fun e w' => e = .returned (.slice (some ⟨w.heap.size, 0, none⟩) 5 5) ∧ w' = w.alloc (Zau Zir) := by
 have h := Tryz.strings_Fields_laid ⟨#[124, 124, 32, 124, 124, 124, 32, 43, 43, 32, 45, 45, 32, 42, 42]⟩ w (by decide +kernel) Zr8 ht;rw [Zr7] at h;exact h
def Zj8 : List (List UInt8) := [[58, 61], [60, 45], [58, 61, 58], [60, 45, 62]]
theorem Zr9 : Lib.fields (ByteArray.mk #[58, 61, 32, 60, 45, 32, 58, 61, 58, 32, 60, 45, 62]).data.toList = Zj8 := by decide +kernel
theorem Zsa : ∀ (j : Nat) b, (ByteArray.mk #[58, 61, 32, 60, 45, 32, 58, 61, 58, 32, 60, 45, 62]).data.toList[j]? = some b → b.toNat < 128 := by
 intro j b hb;have h : ∀ c ∈ (ByteArray.mk #[58, 61, 32, 60, 45, 32, 58, 61, 58, 32, 60, 45, 62]).data.toList, c.toNat < 128 := by decide +kernel
 exact h b (List.mem_of_getElem? hb)
theorem Zp4 (w : World) (ht : Spc w) : Calls Tryz.prog 182 #[.string ⟨#[58, 61, 32, 60, 45, 32, 58, 61, 58, 32, 60, 45, 62]⟩] w fun e w' => e = .returned (.slice (some ⟨w.heap.size, 0, none⟩) 4 4) ∧ w' = w.alloc (Zau Zj8) := by
 have h := Tryz.strings_Fields_laid ⟨#[58, 61, 32, 60, 45, 32, 58, 61, 58, 32, 60, 45, 62]⟩ w (by decide +kernel) Zsa ht;rw [Zr9] at h;exact h
def Zj9 : List (List UInt8) := [[91, 93], [91, 58, 93], [116, 111], [38], [91, 46, 46, 46, 93], [63, 63], [46, 124], [45, 62], [61, 62], [102, 105, 101, 108, 100]]
theorem Zsb : Lib.fields (ByteArray.mk #[91, 93, 32, 91, 58, 93, 32, 116, 111, 32, 38, 32, 91, 46, 46, 46, 93, 32, 63, 63, 32, 46, 124, 32, 45, 62, 32, 61, 62, 32, 102, 105, 101, 108, 100]).data.toList = Zj9 := by decide +kernel
theorem Zsc : ∀ (j : Nat) b, (ByteArray.mk #[91, 93, 32, 91, 58, 93, 32, 116, 111, 32, 38, 32, 91, 46, 46, 46, 93, 32, 63, 63, 32, 46, 124, 32, 45, 62, 32, 61, 62, 32, 102, 105, 101, 108, 100]).data.toList[j]? = some b → b.toNat < 128 := by
 intro j b hb;have h : ∀ c ∈ (ByteArray.mk #[91, 93, 32, 91, 58, 93, 32, 116, 111, 32, 38, 32, 91, 46, 46, 46, 93, 32, 63, 63, 32, 46, 124, 32, 45, 62, 32, 61, 62, 32, 102, 105, 101, 108, 100]).data.toList, c.toNat < 128 := by decide +kernel
 exact h b (List.mem_of_getElem? hb)
theorem Zp5 (w : World) (ht : Spc w) : Calls Tryz.prog 182 #[.string ⟨#[91, 93, 32, 91, 58, 93, 32, 116, 111, 32, 38, 32, 91, 46, 46, 46, 93, 32, 63, 63, 32, 46, 124, 32, 45, 62, 32, 61, 62, 32, 102, 105, 101, 108, 100]⟩] w fun e w' => e = .returned (.slice (some ⟨w.heap.size, 0, none⟩) 10 10) ∧ w' = w.alloc (Zau Zj9) := by
 have h := Tryz.strings_Fields_laid ⟨#[91, 93, 32, 91, 58, 93, 32, 116, 111, 32, 38, 32, 91, 46, 46, 46, 93, 32, 63, 63, 32, 46, 124, 32, 45, 62, 32, 61, 62, 32, 102, 105, 101, 108, 100]⟩ w (by decide +kernel) Zsc ht;rw [Zsb] at h;exact h
def Zg4 : List (List UInt8) := [[43], [45], [42], [47], [37], [94], [], [], [], [], [60], [60, 61], [61], [62, 61], [62], [126, 61], [], [], [], [], [60, 60], [60, 60, 61], [61, 61], [62, 62, 61], [62, 62], [126, 61, 61], [61, 61, 61], [126, 61, 61, 61], [], [], [124, 124], [124, 124, 124], [43, 43], [45, 45], [42, 42], [], [], [], [], [], [58, 61], [60, 45], [58, 61, 58], [60, 45, 62]]
def opT (op : Int) : List UInt8 :=
 if 1 ≤ op ∧ op ≤ 11 then Zen.getD (op - 1).toNat [] else
 if 20 ≤ op ∧ op ≤ 25 then Ziq.getD (op - 20).toNat [] else
 if 30 ≤ op ∧ op ≤ 35 then Zj6.getD (op - 30).toNat [] else
 if 40 ≤ op ∧ op ≤ 47 then Zj7.getD (op - 40).toNat [] else
 if 50 ≤ op ∧ op ≤ 54 then Zir.getD (op - 50).toNat [] else
 if 60 ≤ op ∧ op ≤ 63 then Zj8.getD (op - 60).toNat [] else
 if 70 ≤ op ∧ op ≤ 79 then Zj9.getD (op - 70).toNat [] else
 if op = 81 then [100, 101, 102, 101, 114] else if 220 ≤ op ∧ op ≤ 225 then Ziq.getD (op - 220).toNat [] ++ [58, 61] else if 250 ≤ op ∧ op ≤ 254 then Zir.getD (op - 250).toNat [] ++ [58, 61] else []
theorem Zyw {op : Int} {k : Nat} (h : op - 1 = (k : Int)) (hk : k < 11) : opT op = Zen.getD k [] := by
 obtain rfl : op = (k : Int) + 1 := by omega
 have : ∀ i : Fin 11, opT ((i.1 : Int) + 1) = Zen.getD i.1 [] := by decide
 exact this ⟨k, hk⟩
theorem Zxw {op : Int} {k : Nat} (h : op - 20 = (k : Int)) (hk : k < 6) : opT op = Ziq.getD k [] := by
 obtain rfl : op = (k : Int) + 20 := by omega
 have : ∀ i : Fin 6, opT ((i.1 : Int) + 20) = Ziq.getD i.1 [] := by decide
 exact this ⟨k, hk⟩
theorem Zxx {op : Int} {k : Nat} (h : op - 30 = (k : Int)) (hk : k < 6) : opT op = Zj6.getD k [] := by
 obtain rfl : op = (k : Int) + 30 := by omega
 have : ∀ i : Fin 6, opT ((i.1 : Int) + 30) = Zj6.getD i.1 [] := by decide
 exact this ⟨k, hk⟩
theorem Zxy {op : Int} {k : Nat} (h : op - 40 = (k : Int)) (hk : k < 8) : opT op = Zj7.getD k [] := by
 obtain rfl : op = (k : Int) + 40 := by omega
 have : ∀ i : Fin 8, opT ((i.1 : Int) + 40) = Zj7.getD i.1 [] := by decide
 exact this ⟨k, hk⟩
theorem Zxz {op : Int} {k : Nat} (h : op - 50 = (k : Int)) (hk : k < 5) : opT op = Zir.getD k [] := by
 obtain rfl : op = (k : Int) + 50 := by omega
 have : ∀ i : Fin 5, opT ((i.1 : Int) + 50) = Zir.getD i.1 [] := by decide
 exact this ⟨k, hk⟩
theorem Zx0 {op : Int} {k : Nat} (h : op - 60 = (k : Int)) (hk : k < 4) : opT op = Zj8.getD k [] := by
 obtain rfl : op = (k : Int) + 60 := by omega
 have : ∀ i : Fin 4, opT ((i.1 : Int) + 60) = Zj8.getD i.1 [] := by decide
 exact this ⟨k, hk⟩
theorem Zx1 {op : Int} {k : Nat} (h : op - 70 = (k : Int)) (hk : k < 10) : opT op = Zj9.getD k [] := by
 obtain rfl : op = (k : Int) + 70 := by omega
 have : ∀ i : Fin 10, opT ((i.1 : Int) + 70) = Zj9.getD i.1 [] := by decide
 exact this ⟨k, hk⟩
theorem Zk1 {op : Int} {k : Nat} (h : op - 220 = (k : Int)) (hk : k < 6 ∨ (30 ≤ k ∧ k < 35)) : opT op = Zg4.getD k [] ++ [58, 61] ∧ opT (op - 200) = Zg4.getD k [] := by
 obtain rfl : op = (k : Int) + 220 := by omega
 have : ∀ i : Fin 35, i.1 < 6 ∨ 30 ≤ i.1 → opT ((i.1 : Int) + 220) = Zg4.getD i.1 [] ++ [58, 61] ∧ opT ((i.1 : Int) + 220 - 200) = Zg4.getD i.1 [] := by decide
 exact this ⟨k, by omega⟩ (by show k < 6 ∨ 30 ≤ k; omega)
theorem Zey {op : Int} (h : op < 1 ∨ (11 < op ∧ op < 20) ∨ (25 < op ∧ op < 30) ∨ (35 < op ∧ op < 40) ∨ (47 < op ∧ op < 50) ∨ (54 < op ∧ op < 60) ∨ (63 < op ∧ op < 70) ∨ op = 80 ∨ (81 < op ∧ op < 220) ∨ (225 < op ∧ op < 250) ∨ 254 < op) : opT op = [] := by
 unfold opT
 iterate 7 rw [if_neg (by omega)]
 rw [if_neg (by omega), if_neg (by omega), if_neg (by omega)]
theorem Zmr (op : Int) : (opT op).length ≤ 11 := by
 by_cases h : 1 ≤ op ∧ op ≤ 254
 ·obtain ⟨k, hk⟩ : ∃ k : Nat, op = (k : Int) := ⟨op.toNat, by omega⟩;subst hk;have : ∀ i : Fin 255, (opT (i.1 : Int)).length ≤ 11 := by decide +kernel
  exact this ⟨k, by omega⟩
 ·rw [Zey (by omega)]; simp
theorem Zdx (w : World) (l : List (List UInt8)) (k : Nat) (h : k < l.length) : (w.alloc (Zau l)).cell? ⟨w.heap.size, k, none⟩ = some (.string ⟨(l.getD k []).toArray⟩) := by
 rw [cell_of_row _ w.heap.size _ _ _ _ (heap_alloc_new w (Zau l)), List.getD_eq_getElem?_getD, List.getElem?_eq_getElem h];simp [h]
def zC : Zf := ⟨0, 0, 0, 0, ⟨#[]⟩, []⟩
def cN (k line : Int) : Zf := ⟨k, 0, 0, line, ⟨#[]⟩, []⟩
def cK (k line : Int) (l : List Zf) : Zf := ⟨k, 0, 0, line, ⟨#[]⟩, l⟩
def cO (op line : Int) (l : List Zf) : Zf := ⟨11, op, 0, line, ⟨#[]⟩, l⟩
def cM (k n line : Int) : Zf := ⟨k, 0, n, line, ⟨#[]⟩, []⟩
def tC (k line : Int) (t : ByteArray) : Zf := ⟨k, 0, 0, line, t, []⟩
def unN (s : ByteArray) : Int := 1 + Zak (Zav Zen) s
def Zos : List Int := [73, 0, 60, 61, 62, 63, 220, 221, 222, 223, 224, 225, 250, 251, 252, 253, 254, 0, 76, 30, 31, 32, 33, 34, 35, 40, 41, 42, 43, 44, 45, 46, 47, 75, 50, 51, 20, 21, 52, 53, 22, 23, 24, 54, 25, 0, 77, 78]
def bnN (s : ByteArray) : Int := Zos.getD (Zjc.idxOf (bl s)) 0
def kwT : List (List UInt8) := [[97, 98, 99, 100, 101, 102, 103, 104, 105, 106, 107, 108, 109, 110, 111, 112, 113, 114, 115, 116, 117, 118, 119, 120, 121, 122], [65, 66, 67, 68, 69, 70, 71, 72, 73, 74, 75, 76, 77, 78, 79, 80, 81, 82, 83, 84, 85, 86, 87, 88, 89, 90], [65, 66, 67, 68, 69, 70, 71, 72, 73, 74, 75, 76, 77, 78, 79, 80, 81, 82, 83, 84, 85, 86, 87, 88, 89, 90, 97, 98, 99, 100, 101, 102, 103, 104, 105, 106, 107, 108, 109, 110, 111, 112, 113, 114, 115, 116, 117, 118, 119, 120, 121, 122], [48, 49, 50, 51, 52, 53, 54, 55, 56, 57]]
def kwC (s : ByteArray) (line : Int) : Zf :=
 if bl s = [110, 117, 108, 108] then cN 4 line else if bl s = [102, 97, 105, 108] then cN 28 line else if bl s = [115, 117, 98, 106, 101, 99, 116] then cM 10 1 line else if bl s = [112, 111, 115] then cM 10 2 line else
 if bl s = [108, 99, 97, 115, 101] then tC 3 line ⟨(kwT.getD 0 []).toArray⟩ else if bl s = [117, 99, 97, 115, 101] then tC 3 line ⟨(kwT.getD 1 []).toArray⟩ else if bl s = [108, 101, 116, 116, 101, 114, 115] then tC 3 line ⟨(kwT.getD 2 []).toArray⟩ else tC 3 line ⟨(kwT.getD 3 []).toArray⟩
def nmC (u : Zt) (L : List ByteArray) (s : ByteArray) (line : Int) : Zf := cM ((Zdb u L s).1 + 4) (Zdb u L s).2 line
def kdC (k : List Zf) (line : Int) (i : Nat) : Zf := if i < k.length then k.getD i zC else cN 4 line
def chR (slot : Zf) (line : Int) (k : List Zf) (p : Nat) (rest : Zf) : Nat → Zf
 | 0 => rest
 | j + 1 => cK 17 line [cO 46 line [slot, k.getD (2 * (p - j) - 1) zC], k.getD (2 * (p - j)) zC, chR slot line k p rest j]
def chC (c : Ze) (m : Int) (k : List Zf) : Zf :=
 let slot := cM 5 m c.line
 let p := (k.length - 1 - c.aB.toNat) / 2
 cK 17 c.line [cO 60 c.line [slot, k.getD 0 zC], chR slot c.line k p (if c.aB = 1 then k.getD (k.length - 1) zC else cN 28 c.line) p, cN 28 c.line]
def Zbd (u : Zt) (L : List ByteArray) (c : Ze) (m : Int) (k : List Zf) : Zf :=
 let l := c.line
 let d := kdC k l
 if c.kind = 1 then cM 1 c.aB l else if c.kind = 2 then tC 2 l c.text else if c.kind = 3 then tC 3 l c.text else if c.kind = 4 then nmC u L c.text l else if c.kind = 5 then kwC c.text l else
 if c.kind = 6 then cO 74 l k else
 if c.kind = 7 then (if bl c.text = [124] then cK 14 l k else if bl c.text = [64] then cK 27 l k else cO (unN c.text) l k) else
 if c.kind = 8 then (if bl c.text = [63] then cK 22 l k else if bl c.text = [124] then cK 13 l k else if bl c.text = [92] then cK 15 l k else cO (bnN c.text) l k) else
 if c.kind = 9 then cO 72 l (if k.length = 2 then k ++ [cM 1 1 l] else k) else
 if c.kind = 10 then cK 12 l k else if c.kind = 11 then cO 70 l k else if c.kind = 12 then cO 71 l k else
 if c.kind = 13 then cO 79 l [d 0, tC 2 l c.text] else
 if c.kind = 14 then (if k.length = 0 then cN 4 l else cK 16 l k) else
 if c.kind = 15 then cK 17 l (if k.length = 2 then k ++ [cN 28 l] else k) else
 if c.kind = 16 then cK 18 l [d 0, d 1] else if c.kind = 17 then cK 18 l [cK 17 l [d 0, cN 28 l, cN 4 l], d 1] else if c.kind = 18 then cK 19 l [d 0, d 1] else
 if c.kind = 19 then cK 18 l [cN 4 l, d 0] else if c.kind = 20 then chC c m k else if c.kind = 21 then cK 23 l [d 0] else if c.kind = 22 then cK 25 l [d 0, d 1] else
 if c.kind = 23 then cN 24 l else if c.kind = 24 then cK 20 l [d 0] else if c.kind = 25 then cN 21 l else if c.kind = 26 then cK 26 l [d 0] else
 if c.kind = 27 then cK 17 l [d 0, cN 28 l, cN 4 l] else if c.kind = 28 then cO 81 l [nmC u L c.text l] else cO 73 l k
def Zji (c : Ze) (m : Int) (i : Nat) : Int := m + ((Zbu c.kind + Za3 (c.kids.take i) : Nat) : Int)
def low (u : Zt) (L : List ByteArray) : Nat → Ze → Int → Zf
 | 0, _, _ => zC
 | n + 1, c, m => Zbd u L c m ((List.range c.kids.length).map fun i => low u L n (c.kid i) (Zji c m i))
def Zch (u : Zt) (L : List ByteArray) (n : Nat) (c : Ze) (m : Int) (j : Nat) : List Zf := (List.range j).map fun i => low u L n (c.kid i) (Zji c m i)
theorem Zp7 (u : Zt) (L : List ByteArray) (n : Nat) (c : Ze) (m : Int) : low u L (n + 1) c m = Zbd u L c m (Zch u L n c m c.kids.length) := rfl
theorem Zdj (u : Zt) (L : List ByteArray) (n : Nat) (c : Ze) (m : Int) (j : Nat) : (Zch u L n c m j).length = j := by simp [Zch]
theorem Zjj (u : Zt) (L : List ByteArray) (n : Nat) (c : Ze) (m : Int) (j : Nat) : Zch u L n c m (j + 1) = Zch u L n c m j ++ [low u L n (c.kid j) (Zji c m j)] := by simp [Zch, List.range_succ]
theorem Zgi {k : List Zf} {line : Int} {i : Nat} (h : i < k.length) : kdC k line i = k[i] := by unfold kdC; rw [if_pos h, List.getD_eq_getElem?_getD, List.getElem?_eq_getElem h]; rfl
theorem Znd {k : List Zf} {line : Int} {i : Nat} (h : ¬ i < k.length) : kdC k line i = cN 4 line := by unfold kdC; rw [if_neg h]
def skO (k : Nat) : Bool := k == 79 || (k == 81 || (k == 70 || (k == 71 || (k == 72 || k == 74))))
def Zyx (i : Nat) : Bool := (i == 17 || (i == 45 || i == 1)) || (decide (20 ≤ Zos.getD i 0) && (decide (Zos.getD i 0 ≤ 254) && (opT (Zos.getD i 0) == Zjc.getD i [] && (!(skO (Zos.getD i 0).toNat) && (List.range 255).all fun k => decide (k < 20) || (decide (Zos.getD i 0 ≤ (k : Int)) || (skO k || opT k != Zjc.getD i []))))))
theorem Zuc : ((List.range 48).all Zyx) = true := by decide +kernel
theorem Zne {s : ByteArray} (h : Zd7 s = true) (h1 : bl s ≠ [124]) (h2 : bl s ≠ [92]) (h3 : bl s ≠ [63]) : ∃ op : Nat, bnN s = op ∧ 20 ≤ op ∧ op ≤ 254 ∧ opT op = bl s ∧ skO op = false ∧ ∀ k : Nat, 20 ≤ k → k < op → skO k = false → opT k ≠ bl s := by
 unfold Zd7 at h;rw [nJ] at h;have hi := List.idxOf_lt_length_of_mem h;have hw : Zjc.getD (Zjc.idxOf (bl s)) [] = bl s := by
  rw [List.getD_eq_getElem?_getD, List.getElem?_eq_getElem hi];exact List.getElem_idxOf hi
 have hc := List.all_eq_true.1 Zuc _ (List.mem_range.2 (show Zjc.idxOf (bl s) < 48 from hi));unfold bnN
 generalize Zjc.idxOf (bl s) = i at *
 unfold Zyx at hc;rw [hw] at hc;simp only [Bool.or_eq_true, Bool.and_eq_true, nJ, beq_iff_eq, List.all_eq_true, List.mem_range, bne_iff_ne, Bool.not_eq_true'] at hc
 rcases hc with (rfl | rfl | rfl) | ⟨a1, a2, a3, a4, a5⟩
 ·exact absurd hw.symm h1
 ·exact absurd hw.symm h2
 ·exact absurd hw.symm h3
 ·obtain ⟨op, hop⟩ : ∃ op : Nat, Zos.getD i 0 = op := ⟨(Zos.getD i 0).toNat, by omega⟩;rw [hop] at a1 a2 a3 a4 a5;refine ⟨op, hop, by omega, by omega, a3, by simpa using a4, fun k k1 k2 k3 => ?_⟩
  rcases a5 k (by omega) with h | h | h | h
  ·omega
  ·omega
  ·rw [h] at k3; cases k3
  ·exact h
theorem Zdm (l : List ByteArray) (s : ByteArray) : -1 ≤ Zak l s ∧ Zak l s ≤ l.length := by
 unfold Zak
 split
 ·rename_i h;have := List.idxOf_lt_length_of_mem h;simp at this
  omega
 ·omega
theorem Zot (u : Zt) (s : ByteArray) (h1 : u.aA.length ≤ 1000) (h2 : u.globals.length ≤ 1000) (h3 : u.procedures.length ≤ 1000) : 0 ≤ (Zb1 u s).2 ∧ (Zb1 u s).2 ≤ 1000 ∧ ((Zb1 u s).1 = 0 ∨ (Zb1 u s).1 = 2 ∨ (Zb1 u s).1 = 3 ∨ (Zb1 u s).1 = 4 ∨ (Zb1 u s).1 = 5) := by
 have a1 := Zdm (Zba u) s;have a2 := Zdm u.globals s;have a3 := Zdm (Zdd u) s;have a4 := Zdm (Zav Zd0) s;rw [show (Zav Zd0).length = 55 by simp [Zav]; rfl] at a4;simp only [Zba, Zdd, List.length_map] at a1 a3;unfold Zb1 fnN Zba Zdd
 repeat' split
 all_goals (dsimp only; omega)
theorem Zlf (u : Zt) (L : List ByteArray) (s : ByteArray) (h1 : u.aA.length ≤ 1000) (h2 : u.globals.length ≤ 1000) (h3 : u.procedures.length ≤ 1000) (h4 : L.length ≤ 1000) (h : s ∈ L ∨ Zj5 u s = false) : 0 ≤ (Zdb u L s).2 ∧ (Zdb u L s).2 ≤ 1000 ∧ ((Zdb u L s).1 = 1 ∨ (Zdb u L s).1 = 2 ∨ (Zdb u L s).1 = 3 ∨ (Zdb u L s).1 = 4 ∨ (Zdb u L s).1 = 5) := by
 have a1 := Zdm L s;have a2 := Zot u s h1 h2 h3;unfold Zdb
 split
 ·dsimp only; omega
 ·rename_i hn
  rcases h with h | h
  ·have := (Zdp L s).trans (Zdz.2 h);rw [nJ] at this;exact absurd this hn
  ·unfold Zj5 at h;have : (Zb1 u s).1 ≠ 0 := by simpa using h
   omega
theorem Zud : ∀ j, j < 12 → 1 ≤ j → opT (j : Nat) = Zen.getD (j - 1) [] := by decide +kernel
theorem Zyy {s : ByteArray} {j : Nat} (h0 : 1 ≤ j) (h1 : j < 12) (he : opT (j : Nat) = bl s) (hn : ∀ k : Nat, 1 ≤ k → k < j → opT (k : Nat) ≠ bl s) : unN s = j := by
 have hl : (Zav Zen).length = 11 := by simp [Zav]; rfl
 have hg : ∀ (k : Nat) (hk : k < (Zav Zen).length), bl (Zav Zen)[k] = opT ((k + 1 : Nat) : Int) := fun k hk => by
  rw [Zud (k + 1) (by omega) (by omega), Nat.add_sub_cancel, List.getD_eq_getElem?_getD, List.getElem?_eq_getElem (by simpa [Zav] using hk)];simp [Zav, bl]
 unfold unN;rw [Zf3 (j := j - 1) (by omega) (Zh2 ((hg _ _).trans ((congrArg opT (by omega)).trans he))) fun k hk hkj hs => hn (k + 1) (by omega) (by omega) ((hg k hk).symm.trans (by rw [hs]))]
 omega
theorem Zyz {s : ByteArray} (hn : ∀ k : Nat, 1 ≤ k → k < 12 → opT (k : Nat) ≠ bl s) : unN s = 0 := by
 have hl : (Zav Zen).length = 11 := by simp [Zav]; rfl
 have hg : ∀ (k : Nat) (hk : k < (Zav Zen).length), bl (Zav Zen)[k] = opT ((k + 1 : Nat) : Int) := fun k hk => by
  rw [Zud (k + 1) (by omega) (by omega), Nat.add_sub_cancel, List.getD_eq_getElem?_getD, List.getElem?_eq_getElem (by simpa [Zav] using hk)];simp [Zav, bl]
 unfold unN;rw [Zgy fun k hk hs => hn (k + 1) (by omega) (by omega) ((hg k hk).symm.trans (by rw [hs]))]
 rfl
section
abbrev Z7 : TypeId := 68
theorem Zz.imp {α : Type} {S S' : Zaj α} {size : Nat} {T : TypeId} {F : Nat → Prop} {w : World} {l : List α} {v : Value} (h : Zz S size T F w l v) (hS : ∀ {F : Nat → Prop} {a : α} {cs : List Value}, S F w a cs → S' F w a cs) : Zz S' size T F w l v := by
 obtain ⟨A, c, rfl, h1, h2, h3⟩ := h;refine ⟨A, c, rfl, h1, h2, fun hp => ?_⟩;obtain ⟨b, o, cur, tag, e, hF, hb, hcp, hel⟩ := h3 hp;refine ⟨b, o, cur, tag, e, hF, hb, hcp, fun i hi => ?_⟩;obtain ⟨cs, hs, hc⟩ := hel i hi;exact ⟨cs, hS hs, hc⟩
theorem Zou : ∀ (n : Nat) {F : Nat → Prop} {w : World} {a : Zf} {cs : List Value}, Ze3 n F w a cs → Ze3 (n + 1) F w a cs
 | 0, _, _, _, _, h => h.elim
 | n + 1, _, _, _, _, ⟨tag, v, e, h0, h1, h2, h3, h4, h5⟩ => ⟨tag, v, e, h0, h1, h2, h3, h4, h5.imp (Zou n)⟩
theorem Zue {m n : Nat} (h : m ≤ n) {F : Nat → Prop} {w : World} {a : Zf} {cs : List Value} (hs : Ze3 m F w a cs) : Ze3 n F w a cs := by
 induction h with
 | refl => exact hs
 | step _ ih => exact Zou _ ih
def Zbe : Zaj Zf := fun F w c cs => ∃ n, Ze3 n F w c cs
def Zuf : Zaj Zf := fun F w c cs => ∃ n, Zmk n F w c cs
theorem Zs : Zcp Zbe Zuf 6 where
 is := ⟨fun ⟨n, h⟩ => (Zw n).is.len h, fun ⟨n, h⟩ hFG hk => ⟨n, (Zw n).is.keep h hFG hk⟩⟩
 el := fun ⟨n, h⟩ => ⟨n, (Zw n).el h⟩
 trim := fun ⟨n, h⟩ => ⟨n, (Zw n).trim h⟩
theorem Zp8 {P : Nat → Nat → Prop} (hP : ∀ i m n, m ≤ n → P i m → P i n) : ∀ k, (∀ i, i < k → ∃ n, P i n) → ∃ n, ∀ i, i < k → P i n
 | 0, _ => ⟨0, fun i h => by omega⟩
 | k + 1, h => by
  obtain ⟨n, hn⟩ := Zp8 hP k fun i hi => h i (by omega);obtain ⟨m, hm⟩ := h k (by omega);refine ⟨max m n, fun i hi => ?_⟩
  by_cases e : i = k
  ·subst e;exact hP i m _ (Nat.le_max_left _ _) hm
  ·exact hP i n _ (Nat.le_max_right _ _) (hn i (by omega))
theorem Zz.lev {F : Nat → Prop} {w : World} {l : List Zf} {v : Value} (h : Zz Zbe 6 Z7 F w l v) : ∃ n, Zz (Ze3 n) 6 Z7 F w l v := by
 obtain ⟨A, c, rfl, h1, h2, h3⟩ := h
 by_cases hp : 0 < c
 ·obtain ⟨b, o, cur, tag, e, hF, hb, hcp, hel⟩ := h3 hp;obtain ⟨n, hn⟩ := Zp8 (P := fun i n => ∀ hi : i < l.length, ∃ cs, Ze3 n (fun x => (F x ∧ x ≠ b) ∧ tag x = i) w l[i] cs ∧ ∀ j x, cs[j]? = some x → cur[o + i * 6 + j]? = some x) (fun i m n hmn hh hi => by
   obtain ⟨cs, hs, hc⟩ := hh hi;exact ⟨cs, Zue hmn hs, hc⟩) l.length fun i hi => by
    obtain ⟨cs, ⟨n, hs⟩, hc⟩ := hel i hi;exact ⟨n, fun _ => ⟨cs, hs, hc⟩⟩
  exact ⟨n, A, c, rfl, h1, h2, fun _ => ⟨b, o, cur, tag, e, hF, hb, hcp, fun i hi => hn i hi hi⟩⟩
 ·exact ⟨0, A, c, rfl, h1, h2, fun hh => absurd hh hp⟩
theorem Zz.any {n : Nat} {F : Nat → Prop} {w : World} {l : List Zf} {v : Value} (h : Zz (Ze3 n) 6 Z7 F w l v) : Zz Zbe 6 Z7 F w l v := h.imp fun hs => ⟨n, hs⟩
def Zf.cells (c : Zf) (v : Value) : List Value := [.int .i64 c.kind, .int .i64 c.op, .int .i64 c.aB, .int .i64 c.line, .string c.text, v]
def Zf.val (c : Zf) (v : Value) : Value := .agg #[.int .i64 c.kind, .int .i64 c.op, .int .i64 c.aB, .int .i64 c.line, .string c.text, v]
structure CV (F : Nat → Prop) (w : World) (c : Zf) (v : Value) : Prop where
 n0 : Zy c.kind
 n1 : Zy c.op
 n2 : Zy c.aB
 n3 : Zy c.line
 tx : c.text.size ≤ maxLen
 kids : Zz Zbe 6 Z7 F w c.kids v
section
variable {F G : Nat → Prop} {w x : World} {c : Zf} {v : Value}
theorem CV.keep (h : CV F w c v) (hFG : ∀ b, F b → G b) (hk : Zc F w x) : CV G x c v := ⟨h.n0, h.n1, h.n2, h.n3, h.tx, h.kids.keep Zs.is hFG hk⟩
theorem CV.later (h : CV F w c v) (hl : Zb w x) : CV F x c v := h.keep (fun _ h => h) (Zc.later hl)
theorem CV.trim (h : CV F w c v) : CV (fun b => F b ∧ b < w.heap.size) w c v := ⟨h.n0, h.n1, h.n2, h.n3, h.tx, h.kids.trim Zs⟩
theorem CV.cor (h : CV F w c v) : Zbe F w c (c.cells v) := by
 obtain ⟨n, hn⟩ := h.kids.lev;exact ⟨n + 1, fun _ => 0, v, rfl, h.n0, h.n1, h.n2, h.n3, h.tx, hn.keep (Zw n).is (fun y hy => ⟨hy, rfl⟩) (Zc.refl _ _)⟩
theorem CV.of {cs : List Value} (h : Zbe F w c cs) : ∃ v, cs = c.cells v ∧ CV F w c v := by
 obtain ⟨n, h⟩ := h
 cases n with
 | zero => exact h.elim
 | succ n =>
  obtain ⟨tag, v, e, h0, h1, h2, h3, h4, h5⟩ := h;exact ⟨v, e, h0, h1, h2, h3, h4, (h5.keep (Zw n).is (fun y hy => hy.1) (Zc.refl _ _)).any⟩
theorem CV.form (h : CV F w c v) : ∃ A q, v = .slice A c.kids.length q ∧ c.kids.length ≤ q ∧ q ≤ maxLen := by
 obtain ⟨A, q, e, h1, h2, _⟩ := h.kids;exact ⟨A, q, e, h1, h2⟩
theorem CV.leaf (F : Nat → Prop) (w : World) {k o n l : Int} {t : ByteArray} (h0 : Zy k) (h1 : Zy o) (h2 : Zy n) (h3 : Zy l) (ht : t.size ≤ maxLen) : CV F w ⟨k, o, n, l, t, []⟩ (.slice none 0 0) := ⟨h0, h1, h2, h3, ht, Zz.nil _ _ _ _ _⟩
end
theorem Zjk {w : World} {b : Nat} {cur : Array Value} {l : List Zf} {G : Nat → Prop} (K : Nat → Nat → Prop) (hb : w.heap[b]? = some (.cells cur Z7 (0, 0))) (hm : l.length ≤ 1000) (hs : cur.size = l.length * 6) (hG : G b)
  (hK : ∀ i, i < l.length → ∀ y, K i y → G y ∧ y ≠ b) (hd : ∀ i j, i < l.length → j < l.length → i ≠ j → ∀ y, K i y → ¬ K j y)
  (h : ∀ i (hi : i < l.length), ∃ v, CV (K i) w l[i] v ∧ ∀ j x, (l[i].cells v)[j]? = some x → cur[i * 6 + j]? = some x) : Zz Zbe 6 Z7 G w l (.slice (some ⟨b, 0, none⟩) l.length l.length) := by
 classical
 refine ⟨_, _, rfl, Nat.le_refl _, by unfold maxLen; omega, fun _ => ⟨b, 0, cur, fun y => if hy : ∃ i, i < l.length ∧ K i y then hy.choose else 0, rfl, hG, hb, ⟨rfl, by omega⟩, fun i hi => ?_⟩⟩;obtain ⟨v, hv, hc⟩ := h i hi;refine ⟨_, Zs.is.keep hv.cor (fun y hy => ⟨hK i hi y hy, ?_⟩) (Zc.refl _ _), fun j x hj => by rw [Nat.zero_add]; exact hc j x hj⟩;have hy' : ∃ i, i < l.length ∧ K i y := ⟨i, hi, hy⟩;show (if hy : ∃ i, i < l.length ∧ K i y then hy.choose else 0) = i;rw [dif_pos hy']
 by_cases e : hy'.choose = i
 ·exact e
 ·exact absurd hy (hd _ _ hy'.choose_spec.1 hi e y hy'.choose_spec.2)
section
variable {w : World} {b : Nat} {G : Nat → Prop}
theorem Zx2 {c0 : Zf} {v0 : Value} {K0 : Nat → Prop} (hb : w.heap[b]? = some (.cells (c0.cells v0).toArray Z7 (0, 0))) (h0 : CV K0 w c0 v0) (hG : G b) (hK0 : ∀ y, K0 y → G y ∧ y ≠ b) : Zz Zbe 6 Z7 G w [c0] (.slice (some ⟨b, 0, none⟩) 1 1) :=
 Zjk (fun _ => K0) hb (by simp) (by simp [Zf.cells]) hG (fun i _ => hK0) (fun i j hi hj e => absurd (by simp at hi hj; omega) e) fun i hi => by
  obtain rfl : i = 0 := by simpa using hi
  exact ⟨v0, h0, fun j x hj => by simpa using hj⟩
theorem Znf {c0 c1 : Zf} {v0 v1 : Value} {K0 K1 : Nat → Prop} (hb : w.heap[b]? = some (.cells (c0.cells v0 ++ c1.cells v1).toArray Z7 (0, 0))) (h0 : CV K0 w c0 v0) (h1 : CV K1 w c1 v1) (hG : G b) (hK0 : ∀ y, K0 y → G y ∧ y ≠ b) (hK1 : ∀ y, K1 y → G y ∧ y ≠ b) (hd : ∀ y, K0 y → ¬ K1 y) : Zz Zbe 6 Z7 G w [c0, c1] (.slice (some ⟨b, 0, none⟩) 2 2) := by
 refine Zjk (fun i => if i = 0 then K0 else K1) hb (by simp) (by simp [Zf.cells]) hG (fun i _ y hy => ?_) (fun i j hi hj e y hy hy' => ?_) fun i hi => ?_
 ·by_cases e : i = 0
  ·rw [if_pos e] at hy; exact hK0 y hy
  ·rw [if_neg e] at hy; exact hK1 y hy
 ·by_cases e1 : i = 0
  ·rw [if_pos e1] at hy;rw [if_neg (by omega)] at hy';exact hd y hy hy'
  ·have : j = 0 := by simp at hi hj; omega
   rw [if_neg e1] at hy;rw [if_pos this] at hy';exact hd y hy' hy
 ·have : i = 0 ∨ i = 1 := by simp at hi; omega
  rcases this with rfl | rfl
  ·exact ⟨v0, h0, fun j x (hj : (c0.cells v0)[j]? = some x) => by
    have hl := (List.getElem?_eq_some_iff.1 hj).1;rw [Nat.zero_mul, Nat.zero_add, List.getElem?_toArray, List.getElem?_append_left hl]; exact hj⟩
  ·exact ⟨v1, h1, fun j x (hj : (c1.cells v1)[j]? = some x) => by
    rw [List.getElem?_toArray, List.getElem?_append_right (by simp [Zf.cells]), show 1 * 6 + j - (c0.cells v0).length = j by simp [Zf.cells]]; exact hj⟩
theorem Zsf {c0 c1 c2 : Zf} {v0 v1 v2 : Value} {K0 K1 K2 : Nat → Prop} (hb : w.heap[b]? = some (.cells (c0.cells v0 ++ (c1.cells v1 ++ c2.cells v2)).toArray Z7 (0, 0))) (h0 : CV K0 w c0 v0) (h1 : CV K1 w c1 v1) (h2 : CV K2 w c2 v2) (hG : G b) (hK0 : ∀ y, K0 y → G y ∧ y ≠ b) (hK1 : ∀ y, K1 y → G y ∧ y ≠ b) (hK2 : ∀ y, K2 y → G y ∧ y ≠ b) (d01 : ∀ y, K0 y → ¬ K1 y) (d02 : ∀ y, K0 y → ¬ K2 y) (d12 : ∀ y, K1 y → ¬ K2 y) : Zz Zbe 6 Z7 G w [c0, c1, c2] (.slice (some ⟨b, 0, none⟩) 3 3) := by
 refine Zjk (fun i y => (i = 0 ∧ K0 y) ∨ (i = 1 ∧ K1 y) ∨ (i = 2 ∧ K2 y)) hb (by simp) (by simp [Zf.cells]) hG (fun i _ y hy => ?_) (fun i j hi hj e y hy hy' => ?_) fun i hi => ?_
 ·rcases hy with ⟨_, h⟩ | ⟨_, h⟩ | ⟨_, h⟩
  ·exact hK0 y h
  ·exact hK1 y h
  ·exact hK2 y h
 ·rcases hy with ⟨a, h⟩ | ⟨a, h⟩ | ⟨a, h⟩ <;> rcases hy' with ⟨b, h'⟩ | ⟨b, h'⟩ | ⟨b, h'⟩ <;> first | omega | exact d01 y h h' | exact d01 y h' h | exact d02 y h h' | exact d02 y h' h | exact d12 y h h' | exact d12 y h' h
 ·have : i = 0 ∨ i = 1 ∨ i = 2 := by simp at hi; omega
  rcases this with rfl | rfl | rfl
  ·exact ⟨v0, h0.keep (fun y h => .inl ⟨rfl, h⟩) (Zc.refl _ _), fun j x (hj : (c0.cells v0)[j]? = some x) => by
    have hl := (List.getElem?_eq_some_iff.1 hj).1;rw [Nat.zero_mul, Nat.zero_add, List.getElem?_toArray, List.getElem?_append_left hl]; exact hj⟩
  ·exact ⟨v1, h1.keep (fun y h => .inr (.inl ⟨rfl, h⟩)) (Zc.refl _ _), fun j x (hj : (c1.cells v1)[j]? = some x) => by
    have hl := (List.getElem?_eq_some_iff.1 hj).1;rw [List.getElem?_toArray, List.getElem?_append_right (by simp [Zf.cells]), show 1 * 6 + j - (c0.cells v0).length = j by simp [Zf.cells], List.getElem?_append_left hl]; exact hj⟩
  ·exact ⟨v2, h2.keep (fun y h => .inr (.inr ⟨rfl, h⟩)) (Zc.refl _ _), fun j x (hj : (c2.cells v2)[j]? = some x) => by
    rw [List.getElem?_toArray, List.getElem?_append_right (by simp [Zf.cells]; omega), show 2 * 6 + j - (c0.cells v0).length = 6 + j by simp [Zf.cells]; omega, List.getElem?_append_right (by simp [Zf.cells]), show 6 + j - (c1.cells v1).length = j by simp [Zf.cells]]; exact hj⟩
end
theorem Zz.kid {w : World} {F : Nat → Prop} {l : List Zf} {A : Option Addr} {q : Nat} (h : Zz Zbe 6 Z7 F w l (.slice A l.length q)) (hp : 0 < l.length) : ∃ (b : Nat) (cur : Array Value) (tag : Nat → Nat), A = some ⟨b, 0, none⟩ ∧ F b ∧ w.heap[b]? = some (.cells cur Z7 (0, 0)) ∧ ∀ i (hi : i < l.length), ∃ v, CV (fun y => (F y ∧ y ≠ b) ∧ tag y = i) w l[i] v ∧ ∀ j x, (l[i].cells v)[j]? = some x → cur[i * 6 + j]? = some x := by
 obtain ⟨A', c, e, h1, h2, h3⟩ := h;cases e;obtain ⟨b, o, cur, tag, e, hF, hb, ⟨rfl, _⟩, hel⟩ := h3 (by omega);refine ⟨b, cur, tag, e, hF, hb, fun i hi => ?_⟩;obtain ⟨cs, hs, hc⟩ := hel i hi;obtain ⟨v, rfl, hv⟩ := CV.of hs;exact ⟨v, hv, fun j x hj => by have := hc j x hj; rwa [Nat.zero_add] at this⟩
end
section
def tkB (seen : List ByteArray) (s : ByteArray) : Bool := decide (0 ≤ fnN s) || Zbm seen s
def Zov (u : Zt) (i : Nat) (r : Z3) : Bool := !(tkB ((Zba u).take i) r.name) && !twB r.fields
def Zow (u : Zt) (i : Nat) (g : ByteArray) : Bool := !(tkB (Zba u ++ u.globals.take i) g)
def Zox (u : Zt) (i : Nat) (q : Zag) : Bool := !(tkB ((Zba u ++ u.globals) ++ (Zdd u).take i) q.name) && !twB (q.params ++ q.locals)
structure Zy0 (u : Zt) : Prop where
 rc : ∀ i (h : i < u.aA.length), Zov u i u.aA[i] = true
 gl : ∀ i (h : i < u.globals.length), Zow u i u.globals[i] = true
 pr : ∀ i (h : i < u.procedures.length), Zox u i u.procedures[i] = true
structure Zy1 (N : Nat) (u : Zt) : Prop where
 ok : okU (N + 1) u = true
 nm : Zy0 u
 pr : ∀ i (h : i < u.procedures.length), ckX u (Zbn u u.procedures[i]) (N + 1) u.procedures[i].body false false = true ∧ (Zbn u u.procedures[i]).length + csX u.procedures[i].body ≤ 24
 mn : ∃ i, ∃ h : i < u.procedures.length, bl u.procedures[i].name = [109, 97, 105, 110] ∧ u.procedures[i].params = []
theorem Zfj {α : Type} {f : α → ByteArray} {l : List α} {j : Nat} (h : j < l.length) : (l.map f).take (j + 1) = (l.map f).take j ++ [f l[j]] := by
 rw [List.take_succ_eq_append_getElem (by simpa using h)]; simp
theorem Zc.ofLater0 {F : Nat → Prop} {w0 w x : World} (hF : ∀ b, F b → b < w0.heap.size) (h1 : Zb w0 w) (h2 : Zb w0 x) (hs : w.heap.size ≤ x.heap.size) : Zc F w x :=
 ⟨hs, fun b hb _ => (h2.block b (hF b hb)).trans (h1.block b (hF b hb)).symm⟩
theorem Zda {n j : Nat} {p : ∀ i, i < n → Prop} (HJ : ∀ i (h : i < n), i < j → p i h) (h : ∀ h : j < n, p j h) : ∀ i (hi : i < n), i < j + 1 → p i hi := fun i hi hlt => by
 by_cases h2 : i < j
 ·exact HJ i hi h2
 ·obtain rfl : i = j := by omega
  exact h hi
abbrev TSs : TypeId := 24
structure Zit (w0 : World) (SB : Nat) (w : World) (l : List ByteArray) (v : Value) : Prop where
 cell : w.heap[SB]? = some (.cells #[v] TSs (0, 0))
 row : Zax w0 w l v
 ne : v.ownBlock ≠ some SB
 ge : w0.heap.size ≤ SB
def Zjl (w0 : World) (SB : Nat) (w : World) (l : List ByteArray) : Prop := ∃ v, Zit w0 SB w l v
section
variable {w0 w x y : World} {SB : Nat} {l : List ByteArray} {v v2 : Value}
theorem Zit.later (h : Zit w0 SB w l v) (k : Zb w x) : Zit w0 SB x l v := ⟨(k.block _ (Za h.cell)).trans h.cell, h.row.later k, h.ne, h.ge⟩
theorem Zjl.later (h : Zjl w0 SB w l) (k : Zb w x) : Zjl w0 SB x l := by
 obtain ⟨v, h⟩ := h;exact ⟨v, h.later k⟩
theorem Zit.put (h : Zit w0 SB w l v) {s : ByteArray} (hr : Zax w0 y (l ++ [s]) v2) (hg : Zbt w v y v2) : Zit w0 SB (y.setCell ⟨SB, 0, none⟩ v2) (l ++ [s]) v2 := by
 have hc := hg.box h.ne h.cell;have hlt := Za h.cell;have hne : v2.ownBlock ≠ some SB := fun e => by
  rcases hg.nw with h1 | ⟨B, hB, h1⟩
  ·exact h.ne (h1.symm.trans e)
  ·rw [h1] at e; cases e; omega
 refine ⟨by have := Z0 (o := 0) hc v2; simpa using this, ⟨hr.row.same fun b e => ?_, hr.small⟩, hne, h.ge⟩;exact Below.heap_setCell _ _ _ _ (fun e2 => hne (by rw [e, show b = SB from e2]))
theorem Zit.keep (h : Zit w0 SB x l v) (hl : Zb x w) (hg : Zbt w v y v2) : Zc (fun b => x.heap.size ≤ b) w (y.setCell ⟨SB, 0, none⟩ v2) := by
 refine ⟨by simpa using hg.gr.size, fun b hb hlt => ?_⟩;have h1 : b ≠ SB := fun e => by have := Za h.cell; omega
 have h2 : v.ownBlock ≠ some b := fun e => by have := (h.row.own e).2; omega
 rw [Below.heap_setCell _ _ _ _ h1];exact hg.gr.block b hlt fun e => h2 e.symm
end
section
variable {P : Program}
theorem Zep {w0 w : World} {l r : List ByteArray} {v u : Value} {F : Nat → Prop} {ops : Array Oper} {rest : List Oper} {o : Oper} {a : Act} {Q : Exit → Act → World → Prop} (hgd : Region.wanted o (yielded ops a.tmps) = true) (s x : Operand) (t : TypeId)
  (ho : o.op = .call { callee := .builtin .append, args := #[s, x], argTypes := #[t, t] })
  (i : TypeInfo) (ht : P.underlying t = some (.slice Zc3)) (hi : P.info? Zc3 = some i) (hz : i.zero = some (.string ⟨#[]⟩)) (hsize : i.size = 1) (hby : i.bytes = 16)
  (hs : a.eval s = v) (hrow : Zax w0 w l v) (hl : Zb w0 w) (hx : a.eval x = u) (hsrc : Zq Zah 1 F w r u) (hm : l.length + r.length ≤ 2097152)
  (h : ∀ v' w', Zax w0 w' (l ++ r) v' → Zbt w v w' v' → wpList P ops Q rest (a.put o.dst v') w') : wpList P ops Q (o :: rest) a w := by
 refine wpList_step fun _ hK => ?_;rw [if_pos hgd];obtain ⟨v', w', hr, h2, h3⟩ := Zee (P := P) w0 w t o.type i ht hi hz hsize hby hrow hl hsrc hm;unfold Oper.wp execOp;simp only [ho, resolve, invoke, builtin, Sem.run_bind, Sem.run_pure, Result.andThen_ok, List.map_toArray, List.map_cons, List.map_nil, hs, hx, hr];exact hK _ _ (h v' w' h2 h3)
theorem Zd8 {w0 w : World} {r : List ByteArray} {B : Nat} {u : Value} {F : Nat → Prop} {ops : Array Oper} {rest : List Oper} {o : Oper} {a : Act} {Q : Exit → Act → World → Prop} (hgd : Region.wanted o (yielded ops a.tmps) = true) (s x : Operand) (t : TypeId)
  (ho : o.op = .call { callee := .builtin .append, args := #[s, x], argTypes := #[t, t] })
  (i : TypeInfo) (ht : P.underlying t = some (.slice Zc3)) (hi : P.info? Zc3 = some i) (hz : i.zero = some (.string ⟨#[]⟩)) (hsize : i.size = 1) (hby : i.bytes = 16)
  (hs : a.eval s = .slice (some ⟨B, 0, none⟩) 0 0) (hB : w.heap[B]? = some (.cells #[] Zc3 (0, 0))) (hb : w0.heap.size ≤ B) (hl : Zb w0 w) (hx : a.eval x = u) (hsrc : Zq Zah 1 F w r u) (hm : r.length ≤ 2097152)
  (h : ∀ v' w', Zax w0 w' r v' → Zb w w' → wpList P ops Q rest (a.put o.dst v') w') : wpList P ops Q (o :: rest) a w := by
 refine wpList_step fun _ hK => ?_;rw [if_pos hgd];obtain ⟨v', w', hr, h2, h3⟩ := Zfv (P := P) w0 w t o.type i ht hi hz hsize hby hB hb hl hsrc hm;unfold Oper.wp execOp;simp only [ho, resolve, invoke, builtin, Sem.run_bind, Sem.run_pure, Result.andThen_ok, List.map_toArray, List.map_cons, List.map_nil, hs, hx, hr];exact hK _ _ (h v' w' h2 h3)
end
end
section
structure Zy2 where
 every : Bool
 marks : Nat
 begin_ : Nat
/-! ### Each kind -/
/-! ### Lists -/
/-! ### How long the code is -/
mutual
def Zeq : Zf → Nat
 | ⟨_, _, _, _, _, kids⟩ => Zbh kids + 1
def Zbh : List Zf → Nat
 | [] => 0
 | c :: l => Zeq c + Zbh l
end
theorem Zqs (c : Zf) : Zeq c = Zbh c.kids + 1 := by cases c; simp [Zeq]
end
end Go.Proofs.YtcmmdchjppaimaaGreatDoor
