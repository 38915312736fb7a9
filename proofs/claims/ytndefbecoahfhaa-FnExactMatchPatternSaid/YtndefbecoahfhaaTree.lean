/- Pattern trees; how they lie in memory; which are valid. No walk in sight. -/
import Derived.Test.YtndefbecoahfhaaOneT
namespace Go.Proofs.Ytndefbecoahfhaa
open Go.RowKit

/-- A pattern. -/
inductive Pat where
  | mk (op : Int) (text : ByteArray) (num lo hi : Int) (kids : List Pat)

namespace Pat
def op : Pat → Int | .mk o _ _ _ _ _ => o
def text : Pat → ByteArray | .mk _ t _ _ _ _ => t
def num : Pat → Int | .mk _ _ n _ _ _ => n
def lo : Pat → Int | .mk _ _ _ l _ _ => l
def hi : Pat → Int | .mk _ _ _ _ h _ => h
def kids : Pat → List Pat | .mk _ _ _ _ _ k => k
end Pat

/-- A pattern's value, its kids as a value of their own. -/
abbrev Pat.v (p : Pat) (kv : Value) : Value := patV p.op p.text p.num p.lo p.hi kv

/-- Element j of the row g holds the pattern p with kids kv. -/
def ElemAt (w : World) (g j : Nat) (p : Pat) (kv : Value) : Prop :=
  w.cell? ⟨g, j * 6, none⟩ = some (.int .i64 p.op) ∧ w.cell? ⟨g, j * 6 + 1, none⟩ = some (.string p.text) ∧ w.cell? ⟨g, j * 6 + 2, none⟩ = some (.int .i64 p.num) ∧
    w.cell? ⟨g, j * 6 + 3, none⟩ = some (.int .i64 p.lo) ∧ w.cell? ⟨g, j * 6 + 4, none⟩ = some (.int .i64 p.hi) ∧ w.cell? ⟨g, j * 6 + 5, none⟩ = some kv

mutual
/-- The value kv is a slice of p's kids. -/
def KidsIn (w : World) : Pat → Value → Prop
  | .mk _ _ _ _ _ kids, kv => ∃ A c, kv = .slice A kids.length c ∧ kids.length ≤ c ∧ RowIn w A 0 kids
/-- The patterns lie in a row, from element j on. -/
def RowIn (w : World) (A : Option Addr) : Nat → List Pat → Prop
  | _, [] => True
  | j, p :: ps => (∃ g kv, A = some ⟨g, 0, none⟩ ∧ g < w.heap.size ∧ ElemAt w g j p kv ∧ KidsIn w p kv) ∧ RowIn w A (j + 1) ps
end

theorem ElemAt.later {w x : World} {g j : Nat} {p : Pat} {kv : Value} (h : ElemAt w g j p kv) (hg : g < w.heap.size) (hl : Later w x) : ElemAt x g j p kv := by
  obtain ⟨h0, h1, h2, h3, h4, h5⟩ := h
  exact ⟨(hl.cell _ hg).trans h0, (hl.cell _ hg).trans h1, (hl.cell _ hg).trans h2, (hl.cell _ hg).trans h3, (hl.cell _ hg).trans h4, (hl.cell _ hg).trans h5⟩

mutual
theorem KidsIn.later {w x : World} (hl : Later w x) : ∀ (p : Pat) (kv : Value), KidsIn w p kv → KidsIn x p kv
  | .mk _ _ _ _ _ kids, kv, h => by
    simp only [KidsIn] at h ⊢
    obtain ⟨A, c, e, hc, hr⟩ := h
    exact ⟨A, c, e, hc, RowIn.later hl A 0 kids hr⟩
theorem RowIn.later {w x : World} (hl : Later w x) (A : Option Addr) : ∀ (j : Nat) (ps : List Pat), RowIn w A j ps → RowIn x A j ps
  | _, [], _ => by simp only [RowIn]
  | j, p :: ps, h => by
    simp only [RowIn] at h ⊢
    obtain ⟨⟨g, kv, e, hg, he, hk⟩, hr⟩ := h
    exact ⟨⟨g, kv, e, Nat.lt_of_lt_of_le hg hl.size, he.later hg hl, KidsIn.later hl p kv hk⟩, RowIn.later hl A (j + 1) ps hr⟩
end

theorem RowIn.at_ {w : World} {A : Option Addr} : ∀ (ps : List Pat) (j i : Nat) (hi : i < ps.length), RowIn w A j ps → ∃ g kv, A = some ⟨g, 0, none⟩ ∧ g < w.heap.size ∧ ElemAt w g (j + i) ps[i] kv ∧ KidsIn w ps[i] kv
  | [], _, i, hi, _ => by simp at hi
  | p :: ps, j, 0, _, h => by
    simp only [RowIn] at h
    exact h.1
  | p :: ps, j, i + 1, hi, h => by
    simp only [RowIn] at h
    have := RowIn.at_ ps (j + 1) i (by simpa using hi) h.2
    rw [show j + 1 + i = j + (i + 1) by omega] at this
    simpa using this

theorem KidsIn.form {w : World} {p : Pat} {kv : Value} (h : KidsIn w p kv) : ∃ A c, kv = .slice A p.kids.length c ∧ p.kids.length ≤ c ∧ RowIn w A 0 p.kids := by
  obtain ⟨op, text, num, lo, hi, kids⟩ := p
  simp only [KidsIn] at h
  exact h

/-- The value v is the pattern p. -/
def Pat.In (w : World) (p : Pat) (v : Value) : Prop := ∃ kv, v = p.v kv ∧ KidsIn w p kv
theorem Pat.In.later {w x : World} {p : Pat} {v : Value} (h : p.In w v) (hl : Later w x) : p.In x v := by
  obtain ⟨kv, e, hk⟩ := h
  exact ⟨kv, e, KidsIn.later hl p kv hk⟩

/-- The value v is a slice of the patterns. -/
def RowV (w : World) (ps : List Pat) (v : Value) : Prop := ∃ A c, v = .slice A ps.length c ∧ ps.length ≤ c ∧ RowIn w A 0 ps
theorem RowV.later {w x : World} {ps : List Pat} {v : Value} (h : RowV w ps v) (hl : Later w x) : RowV x ps v := by
  obtain ⟨A, c, e, hc, hk⟩ := h
  exact ⟨A, c, e, hc, RowIn.later hl A 0 ps hk⟩
theorem KidsIn.row {w : World} {p : Pat} {kv : Value} (h : KidsIn w p kv) : RowV w p.kids kv := h.form
theorem RowV.kids {w : World} {p : Pat} {kv : Value} (h : RowV w p.kids kv) : KidsIn w p kv := by
  obtain ⟨op, text, num, lo, hi, kids⟩ := p
  simp only [KidsIn]
  exact h

/-! ### How many nodes -/
mutual
def count : Pat → Nat
  | .mk _ _ _ _ _ kids => countAll kids + 1
def countAll : List Pat → Nat
  | [] => 0
  | p :: ps => count p + countAll ps
end
theorem count_eq (p : Pat) : count p = countAll p.kids + 1 := by cases p; simp [count, Pat.kids]
theorem count_pos (p : Pat) : 1 ≤ count p := by rw [count_eq]; omega
theorem countAll_take_succ (ps : List Pat) (j : Nat) (h : j < ps.length) : countAll (ps.take (j + 1)) = countAll (ps.take j) + count ps[j] := by
  induction ps generalizing j with
  | nil => simp at h
  | cons p ps ih =>
    cases j with
    | zero => simp [countAll]
    | succ j =>
      have := ih j (by simpa using h)
      simp only [List.take_succ_cons, countAll, this, List.getElem_cons_succ]
      omega
theorem countAll_take_le (ps : List Pat) (j : Nat) : countAll (ps.take j) ≤ countAll ps := by
  induction ps generalizing j with
  | nil => simp [countAll]
  | cons p ps ih =>
    cases j with
    | zero => simp [countAll]
    | succ j => have := ih j; simp only [List.take_succ_cons, countAll]; omega
theorem count_kid_lt (p : Pat) (j : Nat) (h : j < p.kids.length) : count p.kids[j] < count p := by
  have h1 := countAll_take_succ p.kids j h
  have h2 := countAll_take_le p.kids (j + 1)
  rw [count_eq p]
  omega
theorem countAll_len (ps : List Pat) : ps.length ≤ countAll ps := by
  induction ps with
  | nil => simp
  | cons p ps ih => have := count_pos p; simp only [countAll, List.length_cons]; omega

/-! ### What spec's l18Left leaves -/
mutual
def left : Pat → Int → Int
  | .mk _ _ _ _ _ kids, l => leftAll kids (l - 1)
def leftAll : List Pat → Int → Int
  | [], l => l
  | p :: ps, l => if 0 ≤ l then leftAll ps (left p l) else l
end
theorem left_eq (p : Pat) (l : Int) : left p l = leftAll p.kids (l - 1) := by cases p; simp [left, Pat.kids]
theorem leftAll_neg (ps : List Pat) (l : Int) (h : l < 0) : leftAll ps l = l := by
  cases ps with
  | nil => rfl
  | cons p ps => simp only [leftAll]; rw [if_neg (by omega)]
mutual
theorem left_count : ∀ (p : Pat) (l : Int), left p l ≤ l ∧ ((count p : Int) ≤ l → left p l = l - count p) ∧ (l < count p → 0 ≤ l → left p l < 0)
  | .mk _ _ _ _ _ kids, l => by
    have := leftAll_count kids (l - 1)
    simp only [left, count]
    refine ⟨by omega, fun h => ?_, fun h h0 => ?_⟩
    · have := this.2.1 (by omega); omega
    · by_cases h1 : 0 ≤ l - 1
      · exact this.2.2 (by omega) h1
      · rw [leftAll_neg _ _ (by omega)]; omega
theorem leftAll_count : ∀ (ps : List Pat) (l : Int), leftAll ps l ≤ l ∧ ((countAll ps : Int) ≤ l → leftAll ps l = l - countAll ps) ∧ (l < countAll ps → 0 ≤ l → leftAll ps l < 0)
  | [], l => by simp [leftAll, countAll]; omega
  | p :: ps, l => by
    have h1 := left_count p l
    have h2 := leftAll_count ps (left p l)
    simp only [leftAll, countAll]
    by_cases h0 : 0 ≤ l
    · rw [if_pos h0]
      refine ⟨by omega, fun h => ?_, fun h _ => ?_⟩
      · have e1 := h1.2.1 (by omega)
        have e2 := h2.2.1 (by omega)
        omega
      · by_cases hp : (count p : Int) ≤ l
        · have e1 := h1.2.1 hp
          exact h2.2.2 (by omega) (by omega)
        · have e1 := h1.2.2 (by omega) h0
          rw [leftAll_neg _ _ e1]; exact e1
    · rw [if_neg h0]
      exact ⟨by omega, fun h => by omega, fun _ h => absurd h h0⟩
end
theorem left_nonneg (p : Pat) (l : Int) (h0 : 0 ≤ l) : 0 ≤ left p l ↔ (count p : Int) ≤ l := by
  have h := left_count p l
  constructor
  · intro h1
    by_cases hc : (count p : Int) ≤ l
    · exact hc
    · have := h.2.2 (by omega) h0; omega
  · intro hc
    have := h.2.1 hc; omega

/-! ### Valid patterns -/
/-- How many kids a pattern of this kind has. -/
def kidsOf (op : Int) : Int := if op = 13 ∨ op = 16 ∨ op = 17 then 1 else if op = 14 ∨ op = 15 then 2 else 0
def okText (p : Pat) : Bool := if p.op = 1 then decide (p.text.size ≤ 120) else p.text.toList.isEmpty
def okNum (p : Pat) (n : Int) : Bool := if 2 ≤ p.op ∧ p.op ≤ 6 then decide (0 ≤ p.num) && decide (p.num ≤ 120) else if p.op = 16 ∨ p.op = 17 ∨ p.op = 18 ∨ p.op = 20 then decide (0 ≤ p.num) && decide (p.num < n) else p.num == 0
def okSet (p : Pat) : Bool := if 7 ≤ p.op ∧ p.op ≤ 10 then true else p.lo == 0 && p.hi == 0
def okHead (p : Pat) (n : Int) : Bool := decide (1 ≤ p.op ∧ p.op ≤ 23) && decide ((p.kids.length : Int) = kidsOf p.op) && okText p && okNum p n && okSet p
mutual
def valid : Pat → Int → Bool
  | .mk op text num lo hi kids, n => okHead (.mk op text num lo hi kids) n && validAll kids n
def validAll : List Pat → Int → Bool
  | [], _ => true
  | p :: ps, n => valid p n && validAll ps n
end
theorem valid_eq (p : Pat) (n : Int) : valid p n = (okHead p n && validAll p.kids n) := by cases p; simp [valid, Pat.kids]
theorem validAll_iff (ps : List Pat) (n : Int) : validAll ps n = true ↔ ∀ j (h : j < ps.length), valid ps[j] n = true := by
  induction ps with
  | nil => simp [validAll]
  | cons p ps ih =>
    simp only [validAll, Bool.and_eq_true, ih]
    constructor
    · rintro ⟨h1, h2⟩ j hj
      cases j with
      | zero => exact h1
      | succ j => exact h2 j (by simpa using hj)
    · intro h
      exact ⟨h 0 (by simp), fun j hj => h (j + 1) (by simpa using hj)⟩
theorem validAll_false (ps : List Pat) (n : Int) (j : Nat) (h : j < ps.length) (hv : valid ps[j] n = false) : validAll ps n = false := by
  cases hb : validAll ps n with
  | false => rfl
  | true => have := (validAll_iff ps n).1 hb j h; rw [hv] at this; cases this

/-- IsValidPattern. -/
def validP (p : Pat) (n : Int) : Bool := decide (0 ≤ n) && decide (n ≤ 24) && decide (count p ≤ 300) && valid p n
/-- validDefinitions. -/
def validD (defs : List Pat) (p : Pat) : Bool := decide (defs.length ≤ 24) && validP p defs.length && defs.all fun d => validP d defs.length

end Go.Proofs.Ytndefbecoahfhaa
