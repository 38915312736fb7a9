/- Rows of structs in memory, read as plain lists: what every law over data is said with. No walk in sight. -/
import Derived.Test.YtopaeiogbijppaaDoorRegion
import Derived.ProofKit
import Derived.OpenShut
import Derived.Laws.AppendOwn
import Derived.OwnWalk
namespace Go.Proofs.YtopaeiogbijppaaDoor
open Go.RowKit

/-- The world x keeps the blocks of w that satisfy F. -/
structure Keeps (F : Nat → Prop) (w x : World) : Prop where
  size : w.heap.size ≤ x.heap.size
  same : ∀ b, F b → b < w.heap.size → x.heap[b]? = w.heap[b]?
theorem Keeps.later {F : Nat → Prop} {w x : World} (h : Later w x) : Keeps F w x := ⟨h.size, fun b _ hb => h.block b hb⟩
theorem Keeps.trans {F : Nat → Prop} {w x y : World} (h : Keeps F w x) (k : Keeps F x y) : Keeps F w y :=
  ⟨Nat.le_trans h.size k.size, fun b hF hb => (k.same b hF (Nat.lt_of_lt_of_le hb h.size)).trans (h.same b hF hb)⟩
theorem Keeps.set {F : Nat → Prop} {w x : World} (h : Keeps F w x) {B : Nat} (hB : ¬ F B) (o : Nat) (v : Value) : Keeps F w (x.setCell ⟨B, o, none⟩ v) :=
  ⟨Nat.le_trans h.size (Below.setCell (B := 0) (Below.refl 0 x) (p := ⟨B, o, none⟩) (Nat.zero_le _) v).size, fun b hF hb => (Below.heap_setCell _ _ _ _ (fun e => hB (by have e2 : b = B := e; rw [← e2]; exact hF))).trans (h.same b hF hb)⟩
theorem Keeps.cell {F : Nat → Prop} {w x : World} (h : Keeps F w x) {b o : Nat} (hF : F b) (hb : b < w.heap.size) : x.cell? ⟨b, o, none⟩ = w.cell? ⟨b, o, none⟩ := World.cell?_of_block (w := w) (h.same b hF hb)

/-- How a thing lies in cells: F holds of the blocks that it reaches. -/
abbrev Elem (α : Type) := (Nat → Prop) → World → α → List Value → Prop
structure IsEl {α : Type} (El : Elem α) (size : Nat) : Prop where
  len : ∀ {F w a cs}, El F w a cs → cs.length = size
  keep : ∀ {F G : Nat → Prop} {w x a cs}, El F w a cs → (∀ b, F b → G b) → Keeps F w x → El G x a cs
/-- A row of things. -/
def RowIs {α : Type} (El : Elem α) (size : Nat) (F : Nat → Prop) (w : World) (l : List α) (v : Value) : Prop :=
  ∃ A c, v = .slice A l.length c ∧ l.length ≤ c ∧ c ≤ maxLen ∧ ∀ i (h : i < l.length), ∃ b o cs, A = some ⟨b, o, none⟩ ∧ F b ∧ b < w.heap.size ∧ El F w l[i] cs ∧ ∀ j x, cs[j]? = some x → w.cell? ⟨b, o + i * size + j, none⟩ = some x
def rowEl {α : Type} (El : Elem α) (size : Nat) : Elem (List α) := fun F w l cs => ∃ v, cs = [v] ∧ RowIs El size F w l v
def In64 (n : Int) : Prop := -9223372036854775808 ≤ n ∧ n ≤ 9223372036854775807
def strEl : Elem ByteArray := fun _ _ s cs => cs = [.string s] ∧ s.size ≤ maxLen
def intEl : Elem Int := fun _ _ n cs => cs = [.int .i64 n] ∧ In64 n
def boolEl : Elem Bool := fun _ _ b cs => cs = [.bool b]
section
variable {α : Type} {El : Elem α} {size : Nat} {F G : Nat → Prop} {w x : World} {l : List α} {v : Value}
theorem RowIs.keep (hE : IsEl El size) (h : RowIs El size F w l v) (hFG : ∀ b, F b → G b) (hk : Keeps F w x) : RowIs El size G x l v := by
  obtain ⟨A, c, rfl, h1, h2, h3⟩ := h
  refine ⟨A, c, rfl, h1, h2, fun i hi => ?_⟩
  obtain ⟨b, o, cs, e, hF, hb, hel, hc⟩ := h3 i hi
  exact ⟨b, o, cs, e, hFG b hF, Nat.lt_of_lt_of_le hb hk.size, hE.keep hel hFG hk, fun j y hy => (hk.cell hF hb).trans (hc j y hy)⟩
theorem RowIs.later (hE : IsEl El size) (h : RowIs El size F w l v) (hl : Later w x) : RowIs El size F x l v := h.keep hE (fun _ hb => hb) (Keeps.later hl)
theorem RowIs.nil (El : Elem α) (size : Nat) (F : Nat → Prop) (w : World) : RowIs El size F w ([] : List α) (.slice none 0 0) := ⟨none, 0, rfl, Nat.le_refl _, Nat.zero_le _, fun i h => by simp at h⟩
theorem rowEl_is (hE : IsEl El size) : IsEl (rowEl El size) 1 where
  len := fun ⟨v, e, _⟩ => by rw [e]; rfl
  keep := fun ⟨v, e, h⟩ hFG hk => ⟨v, e, h.keep hE hFG hk⟩
end
theorem strEl_is : IsEl strEl 1 where
  len := fun h => by rw [h.1]; rfl
  keep := fun h _ _ => h
theorem intEl_is : IsEl intEl 1 where
  len := fun h => by rw [h.1]; rfl
  keep := fun h _ _ => h
theorem boolEl_is : IsEl boolEl 1 where
  len := fun h => by rw [h]; rfl
  keep := fun h _ _ => h

/-! ### Many cells written -/
def setMany (w : World) (B : Nat) : Nat → List Value → World
  | _, [] => w
  | o, v :: vs => setMany (w.setCell ⟨B, o, none⟩ v) B (o + 1) vs
theorem setMany_other {B k : Nat} (hk : k ≠ B) : ∀ (vs : List Value) (w : World) (o : Nat), (setMany w B o vs).heap[k]? = w.heap[k]?
  | [], _, _ => rfl
  | v :: vs, w, o => by rw [setMany, setMany_other hk vs]; exact Below.heap_setCell _ _ _ _ hk
theorem row_set {w : World} {M o : Nat} {cur : Array Value} {T : TypeId} (h : w.heap[M]? = some (.cells cur T (0, 0))) (u : Value) :
    (w.setCell ⟨M, o, none⟩ u).heap[M]? = some (.cells (cur.setIfInBounds o u) T (0, 0)) := by
  simp only [World.setCell]
  rw [Array.getElem?_modify]
  simp [h]
theorem setMany_own {B : Nat} {T : TypeId} : ∀ (vs : List Value) (w : World) (o : Nat) (cur : Array Value), w.heap[B]? = some (.cells cur T (0, 0)) → o + vs.length ≤ cur.size →
    ∃ cur', (setMany w B o vs).heap[B]? = some (.cells cur' T (0, 0)) ∧ cur'.size = cur.size ∧ (∀ p, (p < o ∨ o + vs.length ≤ p) → cur'[p]? = cur[p]?) ∧ ∀ q y, vs[q]? = some y → cur'[o + q]? = some y
  | [], w, o, cur, h, _ => ⟨cur, h, rfl, fun _ _ => rfl, fun q y hq => by simp at hq⟩
  | v :: vs, w, o, cur, h, hs => by
    simp only [List.length_cons] at hs
    obtain ⟨cur', h1, h2, h3, h4⟩ := setMany_own vs (w.setCell ⟨B, o, none⟩ v) (o + 1) (cur.setIfInBounds o v) (row_set h v) (by simp; omega)
    refine ⟨cur', h1, by rw [h2]; simp, fun p hp => ?_, fun q y hq => ?_⟩
    · simp only [List.length_cons] at hp
      rw [h3 p (by omega), Array.getElem?_setIfInBounds_ne (by omega)]
    · cases q with
      | zero =>
        obtain rfl : v = y := by simpa using hq
        rw [Nat.add_zero, h3 o (by omega), Array.getElem?_setIfInBounds_self_of_lt (by omega)]
      | succ q => rw [show o + (q + 1) = o + 1 + q by omega]; exact h4 q y (by simpa using hq)
theorem setMany_below {b B : Nat} {a : World} (hB : b ≤ B) : ∀ (vs : List Value) (w : World) (o : Nat), Below b a w → Below b a (setMany w B o vs)
  | [], _, _, h => h
  | v :: vs, w, o, h => setMany_below hB vs _ _ (h.setCell hB v)
theorem setMany_keeps {F : Nat → Prop} {B : Nat} {w : World} (hB : ¬ F B) : ∀ (vs : List Value) (x : World) (o : Nat), Keeps F w x → Keeps F w (setMany x B o vs)
  | [], _, _, h => h
  | v :: vs, x, o, h => setMany_keeps hB vs _ _ (h.set hB o v)
/-! ### A row that is being made -/
/-- The first j things lie in the block B already. -/
def RowMk {α : Type} (El : Elem α) (size : Nat) (T : TypeId) (B : Nat) (F : Nat → Prop) (l : List α) (j : Nat) (w : World) : Prop :=
  ∃ cur, w.heap[B]? = some (.cells cur T (0, 0)) ∧ cur.size = l.length * size ∧ ∀ i (h : i < l.length), i < j → ∃ cs, El F w l[i] cs ∧ ∀ q x, cs[q]? = some x → cur[i * size + q]? = some x
section
variable {α : Type} {El : Elem α} {size : Nat} {T : TypeId} {B : Nat} {F G : Nat → Prop} {w x : World} {l : List α}
theorem RowMk.start {cur : Array Value} (h : w.heap[B]? = some (.cells cur T (0, 0))) (hs : cur.size = l.length * size) : RowMk El size T B F l 0 w := ⟨cur, h, hs, fun i _ h => by omega⟩
theorem RowMk.next {j : Nat} (hE : IsEl El size) (hF : ¬ F B) (h : RowMk El size T B F l j w) (hl : Later w x) (hj : j < l.length) {cs : List Value} (he : El F x l[j] cs) : RowMk El size T B F l (j + 1) (setMany x B (j * size) cs) := by
  obtain ⟨cur, hB, hs, hall⟩ := h
  have hBx : x.heap[B]? = some (.cells cur T (0, 0)) := (hl.block B (Array.getElem?_eq_some_iff.1 hB).1).trans hB
  have hlen := hE.len he
  have hroom : j * size + size ≤ cur.size := by
    have : (j + 1) * size ≤ l.length * size := Nat.mul_le_mul_right _ hj
    rw [Nat.add_mul, Nat.one_mul] at this
    omega
  obtain ⟨cur', h1, h2, h3, h4⟩ := setMany_own cs x (j * size) cur hBx (by omega)
  refine ⟨cur', h1, by omega, fun i hi hij => ?_⟩
  have hk : Keeps F x (setMany x B (j * size) cs) := setMany_keeps hF _ _ _ (Keeps.later (Later.refl _))
  by_cases e : i = j
  · subst e
    exact ⟨cs, hE.keep he (fun _ h => h) hk, h4⟩
  · obtain ⟨cs0, ha, hb⟩ := hall i hi (by omega)
    refine ⟨cs0, hE.keep ha (fun _ h => h) ((Keeps.later hl).trans hk), fun q y hq => ?_⟩
    have hq' : q < size := by have := hE.len ha; have := (List.getElem?_eq_some_iff.1 hq).1; omega
    have : (i + 1) * size ≤ j * size := Nat.mul_le_mul_right _ (by omega)
    rw [Nat.add_mul, Nat.one_mul] at this
    rw [h3 _ (by omega)]
    exact hb q y hq
theorem RowMk.done (hE : IsEl El size) (h : RowMk El size T B F l l.length w) (hFG : ∀ b, F b → G b) (hG : G B) (hn : l.length ≤ maxLen) : RowIs El size G w l (.slice (some ⟨B, 0, none⟩) l.length l.length) := by
  obtain ⟨cur, hB, hs, hall⟩ := h
  refine ⟨_, _, rfl, Nat.le_refl _, hn, fun i hi => ?_⟩
  obtain ⟨cs, ha, hb⟩ := hall i hi hi
  exact ⟨B, 0, cs, rfl, hG, (Array.getElem?_eq_some_iff.1 hB).1, hE.keep ha hFG (Keeps.later (Later.refl _)), fun q y hq => by rw [Nat.zero_add, cell_of_row _ _ _ _ _ _ hB]; exact hb q y hq⟩
theorem RowMk.later {j : Nat} (hE : IsEl El size) (h : RowMk El size T B F l j w) (hl : Later w x) : RowMk El size T B F l j x := by
  obtain ⟨cur, hB, hs, hall⟩ := h
  refine ⟨cur, (hl.block B (Array.getElem?_eq_some_iff.1 hB).1).trans hB, hs, fun i hi hij => ?_⟩
  obtain ⟨cs, ha, hb⟩ := hall i hi hij
  exact ⟨cs, hE.keep ha (fun _ h => h) (Keeps.later hl), hb⟩
theorem RowMk.at_ {j : Nat} (h : RowMk El size T B F l j w) {k : Nat} (hk : k < l.length) : (∀ q, q < size → ∃ v, w.cell? ⟨B, k * size + q, none⟩ = some v) ∧ ∀ o, w.frozen? ⟨B, o, none⟩ = false := by
  obtain ⟨cur, hB, hs, _⟩ := h
  refine ⟨fun q hq => ?_, fun o => frozen_of_row _ _ _ _ _ hB⟩
  have : (k + 1) * size ≤ l.length * size := Nat.mul_le_mul_right _ hk
  rw [Nat.add_mul, Nat.one_mul] at this
  exact ⟨cur[k * size + q]'(by omega), by rw [cell_of_row _ _ _ _ _ _ hB]; exact Array.getElem?_eq_getElem _⟩
end
/-! ### How much there is -/
def leftOf (n : Nat) (l : Int) : Int := if (n : Int) ≤ l then l - n else -1
theorem leftOf_yes {n : Nat} {l : Int} (h : (n : Int) ≤ l) : leftOf n l = l - n := by unfold leftOf; rw [if_pos h]
theorem leftOf_no {n : Nat} {l : Int} (h : l < n) : leftOf n l = -1 := by unfold leftOf; rw [if_neg (by omega)]
theorem ret_int {m n : Int} (h : m = n) : Ending.returned (Value.int .i64 m) = Ending.returned (Value.int .i64 n) := by rw [h]
def szAll {α : Type} (sz : α → Nat) : List α → Nat
  | [] => 0
  | a :: l => sz a + szAll sz l
def szRow {α : Type} (sz : α → Nat) (l : List α) : Nat := l.length + szAll sz l
theorem szAll_take {α : Type} (sz : α → Nat) : ∀ (l : List α) (j : Nat) (h : j < l.length), szAll sz (l.take (j + 1)) = szAll sz (l.take j) + sz l[j]
  | a :: l, 0, _ => by simp [szAll]
  | a :: l, j + 1, h => by
    have := szAll_take sz l j (by simpa using h)
    simp only [List.take_succ_cons, szAll, List.getElem_cons_succ]
    omega
theorem szAll_le {α : Type} (sz : α → Nat) : ∀ (l : List α) (j : Nat), szAll sz (l.take j) ≤ szAll sz l
  | [], j => by simp [szAll]
  | a :: l, 0 => by simp [szAll]
  | a :: l, j + 1 => by
    have := szAll_le sz l j
    simp only [List.take_succ_cons, szAll]
    omega
theorem szAll_mem {α : Type} (sz : α → Nat) : ∀ (l : List α) (a : α), a ∈ l → sz a ≤ szAll sz l
  | b :: l, a, h => by
    simp only [szAll]
    rcases List.mem_cons.1 h with rfl | h
    · omega
    · have := szAll_mem sz l a h; omega
end Go.Proofs.YtopaeiogbijppaaDoor
