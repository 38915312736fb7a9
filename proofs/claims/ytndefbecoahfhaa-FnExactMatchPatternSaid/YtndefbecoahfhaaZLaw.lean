/- The helpers of the laws. -/
import Derived.Test.YtndefbecoahfhaaSpecMem
import Derived.Laws.IdiomStrings
import Derived.Test.YtndefbecoahfhaaRegion2
import Derived.Test.YtndefbecoahfhaaZNo

/- The laws' own patterns as they came in; patterns that the call has made; marks. No walk in sight. -/
namespace Go.Proofs.Ytndefbecoahfhaa
open Go.RowKit

/-! ### Patterns that came in: anywhere in a block -/
def LElem (w : World) (b o : Nat) (p : Pat) (kv : Value) : Prop :=
  w.cell? ⟨b, o, none⟩ = some (.int .i64 p.op) ∧ w.cell? ⟨b, o + 1, none⟩ = some (.string p.text) ∧ w.cell? ⟨b, o + 2, none⟩ = some (.int .i64 p.num) ∧
    w.cell? ⟨b, o + 3, none⟩ = some (.int .i64 p.lo) ∧ w.cell? ⟨b, o + 4, none⟩ = some (.int .i64 p.hi) ∧ w.cell? ⟨b, o + 5, none⟩ = some kv
mutual
def LKids (w : World) : Pat → Value → Prop
  | .mk _ t _ _ _ kids, kv => t.size ≤ maxLen ∧ ∃ A c, kv = .slice A kids.length c ∧ kids.length ≤ c ∧ c ≤ maxLen ∧ LRow w A 0 kids
def LRow (w : World) (A : Option Addr) : Nat → List Pat → Prop
  | _, [] => True
  | j, p :: ps => (∃ b o kv, A = some ⟨b, o, none⟩ ∧ b < w.heap.size ∧ LElem w b (o + j * 6) p kv ∧ LKids w p kv) ∧ LRow w A (j + 1) ps
end
theorem LElem.later {w x : World} {g o : Nat} {p : Pat} {kv : Value} (h : LElem w g o p kv) (hg : g < w.heap.size) (hl : Later w x) : LElem x g o p kv := by
  obtain ⟨h0, h1, h2, h3, h4, h5⟩ := h
  exact ⟨(hl.cell _ hg).trans h0, (hl.cell _ hg).trans h1, (hl.cell _ hg).trans h2, (hl.cell _ hg).trans h3, (hl.cell _ hg).trans h4, (hl.cell _ hg).trans h5⟩
mutual
theorem LKids.later {w x : World} (hl : Later w x) : ∀ (p : Pat) (kv : Value), LKids w p kv → LKids x p kv
  | .mk _ _ _ _ _ kids, kv, h => by
    simp only [LKids] at h ⊢
    obtain ⟨ht, A, c, e, hc, hm, hr⟩ := h
    exact ⟨ht, A, c, e, hc, hm, LRow.later hl A 0 kids hr⟩
theorem LRow.later {w x : World} (hl : Later w x) (A : Option Addr) : ∀ (j : Nat) (ps : List Pat), LRow w A j ps → LRow x A j ps
  | _, [], _ => by simp only [LRow]
  | j, p :: ps, h => by
    simp only [LRow] at h ⊢
    obtain ⟨⟨b, o, kv, e, hg, he, hk⟩, hr⟩ := h
    exact ⟨⟨b, o, kv, e, Nat.lt_of_lt_of_le hg hl.size, he.later hg hl, LKids.later hl p kv hk⟩, LRow.later hl A (j + 1) ps hr⟩
end
theorem LRow.at_ {w : World} {A : Option Addr} : ∀ (ps : List Pat) (j i : Nat) (hi : i < ps.length), LRow w A j ps → ∃ b o kv, A = some ⟨b, o, none⟩ ∧ b < w.heap.size ∧ LElem w b (o + (j + i) * 6) ps[i] kv ∧ LKids w ps[i] kv
  | [], _, i, hi, _ => by simp at hi
  | p :: ps, j, 0, _, h => by
    simp only [LRow] at h
    exact h.1
  | p :: ps, j, i + 1, hi, h => by
    simp only [LRow] at h
    have := LRow.at_ ps (j + 1) i (by simpa using hi) h.2
    rw [show j + 1 + i = j + (i + 1) by omega] at this
    simpa using this
theorem LKids.form {w : World} {p : Pat} {kv : Value} (h : LKids w p kv) : p.text.size ≤ maxLen ∧ ∃ A c, kv = .slice A p.kids.length c ∧ p.kids.length ≤ c ∧ c ≤ maxLen ∧ LRow w A 0 p.kids := by
  obtain ⟨op, text, num, lo, hi, kids⟩ := p
  simp only [LKids] at h
  exact h

/-! ### How much there is -/
mutual
def szP : Pat → Nat
  | .mk _ t _ _ _ kids => t.size + (kids.length + szAll kids)
def szAll : List Pat → Nat
  | [] => 0
  | p :: ps => szP p + szAll ps
end
theorem szP_eq (p : Pat) : szP p = p.text.size + (p.kids.length + szAll p.kids) := by cases p; simp [szP, Pat.text, Pat.kids]
theorem szAll_take_succ (ps : List Pat) (j : Nat) (h : j < ps.length) : szAll (ps.take (j + 1)) = szAll (ps.take j) + szP ps[j] := by
  induction ps generalizing j with
  | nil => simp at h
  | cons p ps ih =>
    cases j with
    | zero => simp [szAll]
    | succ j =>
      have := ih j (by simpa using h)
      simp only [List.take_succ_cons, szAll, this, List.getElem_cons_succ]
      omega
theorem szAll_take_le (ps : List Pat) (j : Nat) : szAll (ps.take j) ≤ szAll ps := by
  induction ps generalizing j with
  | nil => simp [szAll]
  | cons p ps ih =>
    cases j with
    | zero => simp [szAll]
    | succ j => have := ih j; simp only [List.take_succ_cons, szAll]; omega
mutual
theorem count_sz : ∀ p : Pat, count p ≤ szP p + 1
  | .mk _ _ _ _ _ kids => by
    have := countAll_sz kids
    simp only [count, szP]
    omega
theorem countAll_sz : ∀ ps : List Pat, countAll ps ≤ ps.length + szAll ps
  | [] => by simp [countAll]
  | p :: ps => by
    have h1 := count_sz p
    have h2 := countAll_sz ps
    simp only [countAll, szAll, List.length_cons]
    omega
end
/-- What is left after so much. -/
def leftOf (n : Nat) (l : Int) : Int := if (n : Int) ≤ l then l - n else -1

/-! ### Patterns that the call has made: whole blocks, from base on -/
mutual
def KidsB (base : Nat) (w : World) : Pat → Value → Prop
  | .mk _ _ _ _ _ kids, kv => ∃ A c, kv = .slice A kids.length c ∧ kids.length ≤ c ∧ RowB base w A 0 kids
def RowB (base : Nat) (w : World) (A : Option Addr) : Nat → List Pat → Prop
  | _, [] => True
  | j, p :: ps => (∃ g kv cur, A = some ⟨g, 0, none⟩ ∧ base ≤ g ∧ w.heap[g]? = some (.cells cur TP (0, 0)) ∧ ElemAt w g j p kv ∧ KidsB base w p kv) ∧ RowB base w A (j + 1) ps
end
mutual
theorem KidsB.in_ {base : Nat} {w : World} : ∀ (p : Pat) (kv : Value), KidsB base w p kv → KidsIn w p kv
  | .mk _ _ _ _ _ kids, kv, h => by
    simp only [KidsB] at h
    simp only [KidsIn]
    obtain ⟨A, c, e, hc, hr⟩ := h
    exact ⟨A, c, e, hc, RowB.in_ A 0 kids hr⟩
theorem RowB.in_ {base : Nat} {w : World} (A : Option Addr) : ∀ (j : Nat) (ps : List Pat), RowB base w A j ps → RowIn w A j ps
  | _, [], _ => by simp only [RowIn]
  | j, p :: ps, h => by
    simp only [RowB] at h
    simp only [RowIn]
    obtain ⟨⟨g, kv, cur, e, _, hg, he, hk⟩, hr⟩ := h
    exact ⟨⟨g, kv, e, has_lt hg, he, KidsB.in_ p kv hk⟩, RowB.in_ A (j + 1) ps hr⟩
end
mutual
theorem KidsB.later {base : Nat} {w x : World} (hl : Later w x) : ∀ (p : Pat) (kv : Value), KidsB base w p kv → KidsB base x p kv
  | .mk _ _ _ _ _ kids, kv, h => by
    simp only [KidsB] at h ⊢
    obtain ⟨A, c, e, hc, hr⟩ := h
    exact ⟨A, c, e, hc, RowB.later hl A 0 kids hr⟩
theorem RowB.later {base : Nat} {w x : World} (hl : Later w x) (A : Option Addr) : ∀ (j : Nat) (ps : List Pat), RowB base w A j ps → RowB base x A j ps
  | _, [], _ => by simp only [RowB]
  | j, p :: ps, h => by
    simp only [RowB] at h ⊢
    obtain ⟨⟨g, kv, cur, e, hb, hg, he, hk⟩, hr⟩ := h
    exact ⟨⟨g, kv, cur, e, hb, hl.has hg, he.later (has_lt hg) hl, KidsB.later hl p kv hk⟩, RowB.later hl A (j + 1) ps hr⟩
end
/-! ### A write into a block below the base -/
mutual
theorem KidsB.set {base : Nat} {w : World} {B k : Nat} {u : Value} (hB : B < base) : ∀ (p : Pat) (kv : Value), KidsB base w p kv → KidsB base (w.setCell ⟨B, k, none⟩ u) p kv
  | .mk _ _ _ _ _ kids, kv, h => by
    simp only [KidsB] at h ⊢
    obtain ⟨A, c, e, hc, hr⟩ := h
    exact ⟨A, c, e, hc, RowB.set hB A 0 kids hr⟩
theorem RowB.set {base : Nat} {w : World} {B k : Nat} {u : Value} (hB : B < base) (A : Option Addr) : ∀ (j : Nat) (ps : List Pat), RowB base w A j ps → RowB base (w.setCell ⟨B, k, none⟩ u) A j ps
  | _, [], _ => by simp only [RowB]
  | j, p :: ps, h => by
    simp only [RowB] at h ⊢
    obtain ⟨⟨g, kv, cur, e, hb, hg, he, hk⟩, hr⟩ := h
    have hne : g ≠ B := by omega
    have hh : (w.setCell ⟨B, k, none⟩ u).heap[g]? = some (.cells cur TP (0, 0)) := heap_set_other hg hne
    obtain ⟨e0, e1, e2, e3, e4, e5⟩ := he
    have at_ : ∀ o, (w.setCell ⟨B, k, none⟩ u).cell? ⟨g, o, none⟩ = w.cell? ⟨g, o, none⟩ := fun o => by rw [cell_of_row _ g o _ _ _ hh, cell_of_row _ g o _ _ _ hg]
    exact ⟨⟨g, kv, cur, e, hb, hh, ⟨(at_ _).trans e0, (at_ _).trans e1, (at_ _).trans e2, (at_ _).trans e3, (at_ _).trans e4, (at_ _).trans e5⟩, KidsB.set hB p kv hk⟩, RowB.set hB A (j + 1) ps hr⟩
end
mutual
theorem KidsB.mono {base base' : Nat} {w : World} (hb : base' ≤ base) : ∀ (p : Pat) (kv : Value), KidsB base w p kv → KidsB base' w p kv
  | .mk _ _ _ _ _ kids, kv, h => by
    simp only [KidsB] at h ⊢
    obtain ⟨A, c, e, hc, hr⟩ := h
    exact ⟨A, c, e, hc, RowB.mono hb A 0 kids hr⟩
theorem RowB.mono {base base' : Nat} {w : World} (hb : base' ≤ base) (A : Option Addr) : ∀ (j : Nat) (ps : List Pat), RowB base w A j ps → RowB base' w A j ps
  | _, [], _ => by simp only [RowB]
  | j, p :: ps, h => by
    simp only [RowB] at h ⊢
    obtain ⟨⟨g, kv, cur, e, hbg, hg, he, hk⟩, hr⟩ := h
    exact ⟨⟨g, kv, cur, e, Nat.le_trans hb hbg, hg, he, KidsB.mono hb p kv hk⟩, RowB.mono hb A (j + 1) ps hr⟩
end
/-- A row out of its elements. -/
theorem rowB_mk {base B : Nat} {w : World} {cur : Array Value} (hb : base ≤ B) (hB : w.heap[B]? = some (.cells cur TP (0, 0))) : ∀ (ps : List Pat) (j : Nat), (∀ i (h : i < ps.length), ∃ kv, ElemAt w B (j + i) ps[i] kv ∧ KidsB base w ps[i] kv) → RowB base w (some ⟨B, 0, none⟩) j ps
  | [], _, _ => by simp only [RowB]
  | p :: ps, j, h => by
    simp only [RowB]
    obtain ⟨kv, h1, h2⟩ := h 0 (by simp)
    exact ⟨⟨B, kv, cur, rfl, hb, hB, by simpa using h1, by simpa using h2⟩, rowB_mk hb hB ps (j + 1) (fun i hi => by
      obtain ⟨kv, h1, h2⟩ := h (i + 1) (by simpa using hi)
      exact ⟨kv, by rw [show j + 1 + i = j + (i + 1) by omega]; simpa using h1, by simpa using h2⟩)⟩
theorem RowB.at_ {base : Nat} {w : World} {A : Option Addr} : ∀ (ps : List Pat) (j i : Nat) (hi : i < ps.length), RowB base w A j ps → ∃ g kv cur, A = some ⟨g, 0, none⟩ ∧ base ≤ g ∧ w.heap[g]? = some (.cells cur TP (0, 0)) ∧ ElemAt w g (j + i) ps[i] kv ∧ KidsB base w ps[i] kv
  | [], _, i, hi, _ => by simp at hi
  | p :: ps, j, 0, _, h => by
    simp only [RowB] at h
    exact h.1
  | p :: ps, j, i + 1, hi, h => by
    simp only [RowB] at h
    have := RowB.at_ ps (j + 1) i (by simpa using hi) h.2
    rw [show j + 1 + i = j + (i + 1) by omega] at this
    simpa using this
theorem KidsB.form {base : Nat} {w : World} {p : Pat} {kv : Value} (h : KidsB base w p kv) : ∃ A c, kv = .slice A p.kids.length c ∧ p.kids.length ≤ c ∧ RowB base w A 0 p.kids := by
  obtain ⟨op, text, num, lo, hi, kids⟩ := p
  simp only [KidsB] at h
  exact h
end Go.Proofs.Ytndefbecoahfhaa

/- szPattern and szPatternS. -/
namespace Go.Proofs.Ytndefbecoahfhaa
open Go.RowKit

theorem leftOf_yes {n : Nat} {l : Int} (h : (n : Int) ≤ l) : leftOf n l = l - n := by unfold leftOf; rw [if_pos h]
theorem leftOf_no {n : Nat} {l : Int} (h : l < n) : leftOf n l = -1 := by unfold leftOf; rw [if_neg (by omega)]

set_option maxRecDepth 100000 in
set_option maxHeartbeats 1000000 in
theorem szS_of (ps : List Pat) (A : Option Addr) (c : Nat) (w : World) (l : Int) (hl0 : 0 ≤ l) (hl1 : l ≤ 1048576) (hc : ps.length ≤ c) (hcm : c ≤ maxLen) (hr : LRow w A 0 ps)
    (ih : ∀ (j : Nat) (h : j < ps.length) (kv : Value) (x : World) (l : Int), 0 ≤ l → l ≤ 1048576 → LKids x ps[j] kv →
      Calls Try.prog 15 #[ps[j].v kv, .int .i64 l] x fun e w' => e = .returned (.int .i64 (leftOf (szP ps[j]) l)) ∧ Below x.heap.size x w') :
    Calls Try.prog 14 #[.slice A ps.length c, .int .i64 l] w fun e w' => e = .returned (.int .i64 (leftOf (ps.length + szAll ps) l)) ∧ Below w.heap.size w w' := by
  unfold maxLen at hcm
  have IH := Lib.hid ih
  have HR := Lib.hid hr
  clear ih hr
  have hb1 : (ps.length : Int) ≤ 9223372036854775807 := by omega
  by_cases h0 : l < (ps.length : Int)
  · have HL := Lib.hid (leftOf_no (n := ps.length + szAll ps) (l := l) (by omega))
    have t1 : decide (l - (ps.length : Int) < 0) = true := by simp; omega
    go_enter Try.func14, Try.ntmps14
    go_wp2_with fail
    go_ret
    exact ⟨ret_int HL.out.symm, Below.refl _ _⟩
  · have t1 : decide (l - (ps.length : Int) < 0) = false := by simp; omega
    go_enter Try.func14, Try.ntmps14
    go_wp2_with fail
    go_loopw [1, 5] (fun lv i wr => ∃ j : Nat, j ≤ ps.length ∧ i = .int .i64 j ∧ lv = .int .i64 (l - ps.length - szAll (ps.take j)) ∧ 0 ≤ l - ps.length - szAll (ps.take j) ∧ LRow wr A 0 ps ∧ Below w.heap.size w wr) (fun _ i _ => ps.length - (intOf i).toNat)
    case atStart => exact ⟨0, Nat.zero_le _, rfl, by simp [szAll], by simp [szAll]; omega, HR.out, Below.refl _ _⟩
    case round =>
      obtain ⟨j, hj, rfl, rfl, hd, hr, hbel⟩ := hrel
      have hsz := hbel.size
      have hd1 : l - ps.length - szAll (ps.take j) ≤ 1048576 := by omega
      obtain ⟨d, hde⟩ : ∃ d, l - ps.length - szAll (ps.take j) = d := ⟨_, rfl⟩
      rw [hde] at hd hd1 ⊢
      have HDE := Lib.hid hde
      clear hde
      by_cases hlt : j < ps.length
      · obtain ⟨b, o, kv', rfl, hg, he, hkid⟩ := LRow.at_ ps 0 j hlt hr
        obtain ⟨_, A'', c'', rfl, _, _, _⟩ := hkid.form
        obtain ⟨e0, e1, e2, e3, e4, e5⟩ := he
        simp only [Nat.zero_add] at e0 e1 e2 e3 e4 e5
        have hlt' : (j : Int) < ps.length := by omega
        have HKid := Lib.hid hkid
        have HR := Lib.hid hr
        clear hkid hr
        go_wp2_with fail
        refine (IH.out j hlt _ _ d hd hd1 HKid.out).mono ?_
        rintro e w4 ⟨rfl, hb4⟩
        have hb5 : Below w.heap.size w w4 := hbel.trans (Below.mono hb4 hsz)
        have HR2 := Lib.hid (LRow.later hb4 _ 0 _ HR.out)
        have HS := Lib.hid (szAll_take_succ ps j hlt)
        have HT := Lib.hid (szAll_take_le ps (j + 1))
        clear hb4 e0 e1 e2 e3 e4 e5
        by_cases hin : (szP ps[j] : Int) ≤ d
        · rw [leftOf_yes hin]
          have t2 : decide (d - (szP ps[j] : Int) < 0) = false := by simp; omega
          go_wp2_with fail
          go_roundw
          case rel => exact ⟨j + 1, by omega, by go_num, by rw [HS.out, ← HDE.out]; congr 1; omega, by rw [HS.out]; have := HDE.out; omega, HR2.out, hb5⟩
          case measure => simp [intOf]; omega
        · rw [leftOf_no (by omega)]
          have HL : Hid (leftOf (ps.length + szAll ps) l = -1) := Lib.hid (leftOf_no (by have := HS.out; have := HT.out; have := HDE.out; omega))
          go_wp2_with fail
          go_ret
          exact ⟨ret_int HL.out.symm, hb5⟩
      · have hjl : j = ps.length := by omega
        have HL : Hid (leftOf (ps.length + szAll ps) l = d) := Lib.hid (by
          have := HDE.out
          rw [hjl, List.take_length] at this
          rw [leftOf_yes (by omega)]; omega)
        clear hr
        go_wp2_with fail
        go_ret
        exact ⟨ret_int HL.out.symm, hbel⟩

set_option maxRecDepth 100000 in
set_option maxHeartbeats 1000000 in
theorem sz_any (k : Nat) : ∀ (p : Pat) (kv : Value) (w : World) (l : Int), count p ≤ k → 0 ≤ l → l ≤ 1048576 → LKids w p kv →
    Calls Try.prog 15 #[p.v kv, .int .i64 l] w fun e w' => e = .returned (.int .i64 (leftOf (szP p) l)) ∧ Below w.heap.size w w' := by
  induction k with
  | zero => intro p kv w l h; have := count_pos p; omega
  | succ k ih =>
    intro p kv w l hcnt hl0 hl1 hin
    obtain ⟨ht, A, c, rfl, hc, hcm, hrow⟩ := hin.form
    have HE := Lib.hid (szP_eq p)
    have IH := Lib.hid ih
    have HR := Lib.hid hrow
    have HC := Lib.hid hcnt
    clear ih hin hrow hcnt
    unfold maxLen at ht
    have hb1 : (p.text.size : Int) ≤ 9223372036854775807 := by omega
    by_cases h0 : l < (p.text.size : Int)
    · have HL := Lib.hid (leftOf_no (n := szP p) (l := l) (by have := HE.out; omega))
      have t1 : decide (l - (p.text.size : Int) < 0) = true := by simp; omega
      go_enter Try.func15, Try.ntmps15
      go_wp2_with fail
      go_ret
      exact ⟨ret_int HL.out.symm, (Below.refl _ _).alloc (Nat.le_refl _) _⟩
    · have t1 : decide (l - (p.text.size : Int) < 0) = false := by simp; omega
      have hd0 : 0 ≤ l - (p.text.size : Int) := by omega
      have hd1 : l - (p.text.size : Int) ≤ 1048576 := by omega
      go_enter Try.func15, Try.ntmps15
      go_wp2_with fail
      refine (szS_of p.kids A c _ _ hd0 hd1 hc hcm (LRow.later ((Later.refl w).alloc _) _ _ _ HR.out) (fun j hj kv x l h0 h1 h2 => IH.out _ kv x l (by have := count_kid_lt p j hj; have := HC.out; omega) h0 h1 h2)).mono ?_
      rintro e w2 ⟨rfl, hb2⟩
      have hb3 : Below w.heap.size w w2 := ((Below.refl _ _).alloc (Nat.le_refl _) _).trans (Below.mono hb2 (by simp))
      clear hb2
      by_cases h2 : ((p.kids.length + szAll p.kids : Nat) : Int) ≤ l - (p.text.size : Int)
      · rw [leftOf_yes h2]
        have HL : Hid (leftOf (szP p) l = l - (p.text.size : Int) - ((p.kids.length + szAll p.kids : Nat) : Int)) := Lib.hid (by have := HE.out; rw [leftOf_yes (by omega)]; omega)
        obtain ⟨d, hde⟩ : ∃ d, l - (p.text.size : Int) - ((p.kids.length + szAll p.kids : Nat) : Int) = d := ⟨_, rfl⟩
        rw [hde] at HL ⊢
        have t3 : decide (d < 0) = false := by simp; omega
        clear hde h2
        go_wp2_with fail
        go_ret
        exact ⟨ret_int HL.out.symm, hb3⟩
      · rw [leftOf_no (by omega)]
        have HL := Lib.hid (leftOf_no (n := szP p) (l := l) (by have := HE.out; omega))
        go_wp2_with fail
        go_ret
        exact ⟨ret_int HL.out.symm, hb3⟩

end Go.Proofs.Ytndefbecoahfhaa

/- toCset, toPattern and toPatternS: copies of one's own. -/
namespace Go.Proofs.Ytndefbecoahfhaa
open Go.RowKit

set_option maxRecDepth 100000 in
set_option maxHeartbeats 1000000 in
theorem toCset_any (lo hi : Int) (w : World) :
    Calls Try.prog 42 #[.agg #[.int .i64 lo, .int .i64 hi]] w fun e w' => e = .returned (.agg #[.int .i64 lo, .int .i64 hi]) ∧ Below w.heap.size w w' := by
  go_enter Try.func42, Try.ntmps42
  go_wp2_with fail
  refine bodyPost_ret (v := .agg #[.int .i64 lo, .int .i64 hi]) (by simp [results, Try.results42, go_sem]) rfl ⟨rfl, ?_⟩
  exact (((Below.refl _ _).alloc (Nat.le_refl _) _).alloc (by simp) _).alloc (by simp; omega) _

theorem infoP : (Try.prog.info? TP).map (fun i => (i.zero, i.size, i.bytes)) = some (some (.agg #[.int .i64 0, .string ⟨#[]⟩, .int .i64 0, .int .i64 0, .int .i64 0, .slice none 0 0]), 6, 72) := by kernel_rfl
theorem make_pats (n : Nat) (hn : n ≤ 2097152) : ∃ cur : Array Value, cur.size = n * 6 ∧ ∀ w : World, (Instr.makeSlice 24 (.int .i64 (n : Int)) (.int .i64 (n : Int))).run Try.prog w = .ok (.slice (some ⟨w.heap.size, 0, none⟩) n n) (w.alloc (.cells cur TP)) := by
  obtain ⟨i, hi, hz0, hz1, hz2⟩ := info_parts infoP
  refine ⟨madeCells (Value.cells (.agg #[.int .i64 0, .string ⟨#[]⟩, .int .i64 0, .int .i64 0, .int .i64 0, .slice none 0 0])) (n * 6), size_madeCells _ _, fun w => ?_⟩
  have := run_make (P := Try.prog) w 24 TP i _ Try.underlying24 hi hz0 .i64 .i64 n n (by omega) (by omega) (by rw [hz2]; omega) (by omega)
  rw [hz1] at this
  simpa using this

theorem elem_store {x : World} {B j n : Nat} {cur : Array Value} {p : Pat} {kv : Value} (hB : x.heap[B]? = some (.cells cur TP (0, 0))) (hsz : cur.size = n * 6) (hj : j < n) :
    ∃ cur', ((((((x.setCell ⟨B, j * 6, none⟩ (.int .i64 p.op)).setCell ⟨B, j * 6 + 1, none⟩ (.string p.text)).setCell ⟨B, j * 6 + 2, none⟩ (.int .i64 p.num)).setCell ⟨B, j * 6 + 3, none⟩ (.int .i64 p.lo)).setCell ⟨B, j * 6 + 4, none⟩ (.int .i64 p.hi)).setCell ⟨B, j * 6 + 5, none⟩ kv).heap[B]? = some (.cells cur' TP (0, 0)) ∧ cur'.size = n * 6 ∧
      (∀ o, (o < j * 6 ∨ j * 6 + 5 < o) → cur'[o]? = cur[o]?) ∧ cur'[j * 6]? = some (.int .i64 p.op) ∧ cur'[j * 6 + 1]? = some (.string p.text) ∧ cur'[j * 6 + 2]? = some (.int .i64 p.num) ∧ cur'[j * 6 + 3]? = some (.int .i64 p.lo) ∧ cur'[j * 6 + 4]? = some (.int .i64 p.hi) ∧ cur'[j * 6 + 5]? = some kv := by
  have h1 := heap_set_own (o := j * 6) hB (.int .i64 p.op)
  have h2 := heap_set_own (o := j * 6 + 1) h1 (.string p.text)
  have h3 := heap_set_own (o := j * 6 + 2) h2 (.int .i64 p.num)
  have h4 := heap_set_own (o := j * 6 + 3) h3 (.int .i64 p.lo)
  have h5 := heap_set_own (o := j * 6 + 4) h4 (.int .i64 p.hi)
  have h6 := heap_set_own (o := j * 6 + 5) h5 kv
  have b0 : j * 6 + 5 < cur.size := by omega
  refine ⟨_, h6, by simp [hsz], fun o ho => ?_, ?_, ?_, ?_, ?_, ?_, ?_⟩
  · rw [Array.getElem?_setIfInBounds_ne (by omega), Array.getElem?_setIfInBounds_ne (by omega), Array.getElem?_setIfInBounds_ne (by omega), Array.getElem?_setIfInBounds_ne (by omega), Array.getElem?_setIfInBounds_ne (by omega), Array.getElem?_setIfInBounds_ne (by omega)]
  · rw [Array.getElem?_setIfInBounds_ne (by omega), Array.getElem?_setIfInBounds_ne (by omega), Array.getElem?_setIfInBounds_ne (by omega), Array.getElem?_setIfInBounds_ne (by omega), Array.getElem?_setIfInBounds_ne (by omega), Array.getElem?_setIfInBounds_self_of_lt (by first | omega | (simp; omega))]
  · rw [Array.getElem?_setIfInBounds_ne (by omega), Array.getElem?_setIfInBounds_ne (by omega), Array.getElem?_setIfInBounds_ne (by omega), Array.getElem?_setIfInBounds_ne (by omega), Array.getElem?_setIfInBounds_self_of_lt (by first | omega | (simp; omega))]
  · rw [Array.getElem?_setIfInBounds_ne (by omega), Array.getElem?_setIfInBounds_ne (by omega), Array.getElem?_setIfInBounds_ne (by omega), Array.getElem?_setIfInBounds_self_of_lt (by first | omega | (simp; omega))]
  · rw [Array.getElem?_setIfInBounds_ne (by omega), Array.getElem?_setIfInBounds_ne (by omega), Array.getElem?_setIfInBounds_self_of_lt (by first | omega | (simp; omega))]
  · rw [Array.getElem?_setIfInBounds_ne (by omega), Array.getElem?_setIfInBounds_self_of_lt (by first | omega | (simp; omega))]
  · rw [Array.getElem?_setIfInBounds_self_of_lt (by first | omega | (simp; omega))]
theorem elem_of {x : World} {B j : Nat} {cur : Array Value} {p : Pat} {kv : Value} (hB : x.heap[B]? = some (.cells cur TP (0, 0))) (h0 : cur[j * 6]? = some (.int .i64 p.op)) (h1 : cur[j * 6 + 1]? = some (.string p.text)) (h2 : cur[j * 6 + 2]? = some (.int .i64 p.num)) (h3 : cur[j * 6 + 3]? = some (.int .i64 p.lo)) (h4 : cur[j * 6 + 4]? = some (.int .i64 p.hi)) (h5 : cur[j * 6 + 5]? = some kv) : ElemAt x B j p kv :=
  ⟨(cell_of_row _ _ _ _ _ _ hB).trans h0, (cell_of_row _ _ _ _ _ _ hB).trans h1, (cell_of_row _ _ _ _ _ _ hB).trans h2, (cell_of_row _ _ _ _ _ _ hB).trans h3, (cell_of_row _ _ _ _ _ _ hB).trans h4, (cell_of_row _ _ _ _ _ _ hB).trans h5⟩
theorem elem_cur {x : World} {B j : Nat} {cur : Array Value} {p : Pat} {kv : Value} (hB : x.heap[B]? = some (.cells cur TP (0, 0))) (h : ElemAt x B j p kv) : cur[j * 6]? = some (.int .i64 p.op) ∧ cur[j * 6 + 1]? = some (.string p.text) ∧ cur[j * 6 + 2]? = some (.int .i64 p.num) ∧ cur[j * 6 + 3]? = some (.int .i64 p.lo) ∧ cur[j * 6 + 4]? = some (.int .i64 p.hi) ∧ cur[j * 6 + 5]? = some kv := by
  obtain ⟨h0, h1, h2, h3, h4, h5⟩ := h
  exact ⟨(cell_of_row _ _ _ _ _ _ hB).symm.trans h0, (cell_of_row _ _ _ _ _ _ hB).symm.trans h1, (cell_of_row _ _ _ _ _ _ hB).symm.trans h2, (cell_of_row _ _ _ _ _ _ hB).symm.trans h3, (cell_of_row _ _ _ _ _ _ hB).symm.trans h4, (cell_of_row _ _ _ _ _ _ hB).symm.trans h5⟩

theorem kidsB_mk {base : Nat} {w : World} {p : Pat} {A : Option Addr} {c : Nat} (hc : p.kids.length ≤ c) (h : RowB base w A 0 p.kids) : KidsB base w p (.slice A p.kids.length c) := by
  obtain ⟨op, text, num, lo, hi, kids⟩ := p
  simp only [KidsB]
  exact ⟨A, c, rfl, hc, h⟩
/-- What holds at the head of toPatternS' loop. -/
def ToRel (w : World) (A : Option Addr) (ps : List Pat) (B : Nat) (j : Nat) (wr : World) : Prop :=
  ∃ cur, wr.heap[B]? = some (.cells cur TP (0, 0)) ∧ cur.size = ps.length * 6 ∧ (∀ i (h : i < ps.length), i < j → ∃ kv, ElemAt wr B i ps[i] kv ∧ KidsB (B + 1) wr ps[i] kv) ∧ LRow wr A 0 ps ∧ Below w.heap.size w wr ∧ LRow w A 0 ps
theorem toRel_next {w x w4 : World} {A : Option Addr} {ps : List Pat} {B j : Nat} {kv : Value} (h : ToRel w A ps B j x) (hwB : w.heap.size ≤ B) (hj : j < ps.length) (hl : Below x.heap.size x w4) (hk : KidsB x.heap.size w4 ps[j] kv) :
    ToRel w A ps B (j + 1) ((((((w4.setCell ⟨B, j * 6, none⟩ (.int .i64 ps[j].op)).setCell ⟨B, j * 6 + 1, none⟩ (.string ps[j].text)).setCell ⟨B, j * 6 + 2, none⟩ (.int .i64 ps[j].num)).setCell ⟨B, j * 6 + 3, none⟩ (.int .i64 ps[j].lo)).setCell ⟨B, j * 6 + 4, none⟩ (.int .i64 ps[j].hi)).setCell ⟨B, j * 6 + 5, none⟩ kv) := by
  obtain ⟨cur, hB, hsz, hel, hrow, hbel, hrow0⟩ := h
  have hBx := has_lt hB
  have hB4 := Later.has hl hB
  obtain ⟨cur', hB', hsz', hoth, c0, c1, c2, c3, c4, c5⟩ := elem_store (p := ps[j]) (kv := kv) hB4 hsz hj
  have setK : ∀ (q : Pat) (v : Value), KidsB (B + 1) w4 q v → KidsB (B + 1) ((((((w4.setCell ⟨B, j * 6, none⟩ (.int .i64 ps[j].op)).setCell ⟨B, j * 6 + 1, none⟩ (.string ps[j].text)).setCell ⟨B, j * 6 + 2, none⟩ (.int .i64 ps[j].num)).setCell ⟨B, j * 6 + 3, none⟩ (.int .i64 ps[j].lo)).setCell ⟨B, j * 6 + 4, none⟩ (.int .i64 ps[j].hi)).setCell ⟨B, j * 6 + 5, none⟩ kv) q v := fun q v h =>
    KidsB.set (by omega) _ _ (KidsB.set (by omega) _ _ (KidsB.set (by omega) _ _ (KidsB.set (by omega) _ _ (KidsB.set (by omega) _ _ (KidsB.set (by omega) _ _ h)))))
  have hbel' : Below w.heap.size w ((((((w4.setCell ⟨B, j * 6, none⟩ (.int .i64 ps[j].op)).setCell ⟨B, j * 6 + 1, none⟩ (.string ps[j].text)).setCell ⟨B, j * 6 + 2, none⟩ (.int .i64 ps[j].num)).setCell ⟨B, j * 6 + 3, none⟩ (.int .i64 ps[j].lo)).setCell ⟨B, j * 6 + 4, none⟩ (.int .i64 ps[j].hi)).setCell ⟨B, j * 6 + 5, none⟩ kv) :=
    ((((((hbel.trans (Below.mono hl hbel.size)).setCell hwB _).setCell hwB _).setCell hwB _).setCell hwB _).setCell hwB _).setCell hwB _
  refine ⟨cur', hB', hsz', fun i hi hij => ?_, LRow.later hbel' A 0 ps hrow0, hbel', hrow0⟩
  by_cases e : i = j
  · subst e
    exact ⟨kv, elem_of hB' c0 c1 c2 c3 c4 c5, setK _ _ (KidsB.mono (by omega) _ _ hk)⟩
  · obtain ⟨v, h1, h2⟩ := hel i hi (by omega)
    obtain ⟨d0, d1, d2, d3, d4, d5⟩ := elem_cur hB h1
    exact ⟨v, elem_of hB' ((hoth _ (by omega)).trans d0) ((hoth _ (by omega)).trans d1) ((hoth _ (by omega)).trans d2) ((hoth _ (by omega)).trans d3) ((hoth _ (by omega)).trans d4) ((hoth _ (by omega)).trans d5), setK _ _ (KidsB.later hl _ _ h2)⟩

set_option maxRecDepth 100000 in
set_option maxHeartbeats 1000000 in
theorem toS_of (ps : List Pat) (A : Option Addr) (c : Nat) (w : World) (hn : ps.length ≤ 2097152) (hr : LRow w A 0 ps)
    (ih : ∀ (j : Nat) (h : j < ps.length) (kv : Value) (x : World), LKids x ps[j] kv →
      Calls Try.prog 17 #[ps[j].v kv] x fun e w' => ∃ kv', e = .returned (ps[j].v kv') ∧ KidsB x.heap.size w' ps[j] kv' ∧ Below x.heap.size x w') :
    Calls Try.prog 16 #[.slice A ps.length c] w fun e w' => ∃ A' c', e = .returned (.slice A' ps.length c') ∧ ps.length ≤ c' ∧ RowB w.heap.size w' A' 0 ps ∧ Below w.heap.size w w' := by
  have IH := Lib.hid ih
  have HR := Lib.hid hr
  clear ih hr
  have hb1 : (ps.length : Int) ≤ 2097152 := by omega
  obtain ⟨cur0, hcur0, hmk⟩ := make_pats ps.length hn
  have HC0 := Lib.hid hcur0
  clear hcur0
  go_enter Try.func16, Try.ntmps16
  go_wp2_with fail
  obtain ⟨B, hB⟩ : ∃ B, w.heap.size = B := ⟨_, rfl⟩
  have hwB : w.heap.size ≤ B := by omega
  have HS : Hid (ToRel w A ps B 0 (w.alloc (.cells cur0 TP))) := Lib.hid ⟨cur0, by rw [← hB]; exact heap_alloc_new w _, HC0.out, fun i _ h => (by omega), LRow.later ((Later.refl w).alloc _) A 0 ps HR.out, (Below.refl _ _).alloc (Nat.le_refl _) _, HR.out⟩
  rw [hB]
  have HBE := Lib.hid hB
  clear hmk hB HR HC0
  go_loopw [4] (fun i wr => ∃ j : Nat, j ≤ ps.length ∧ i = .int .i64 j ∧ ToRel w A ps B j wr) (fun i _ => ps.length - (intOf i).toNat)
  case atStart => exact ⟨0, Nat.zero_le _, rfl, HS.out⟩
  case round =>
    obtain ⟨j, hj, rfl, hrel⟩ := hrel
    have HT := Lib.hid hrel
    by_cases hlt : j < ps.length
    · obtain ⟨cur, hB, hsz, _, hr, _, _⟩ := hrel
      obtain ⟨b, o, kv', rfl, hg, he, hkid⟩ := LRow.at_ ps 0 j hlt hr
      obtain ⟨_, A'', c'', rfl, _, _, _⟩ := hkid.form
      obtain ⟨e0, e1, e2, e3, e4, e5⟩ := he
      simp only [Nat.zero_add] at e0 e1 e2 e3 e4 e5
      have hlt' : (j : Int) < ps.length := by omega
      have HKid := Lib.hid hkid
      have HB := Lib.hid hB
      have HSZ := Lib.hid hsz
      clear hkid hr hB hsz
      go_wp2_with fail
      refine (IH.out j hlt _ _ HKid.out).mono ?_
      rintro e w4 ⟨kv4, rfl, hk4, hb4⟩
      obtain ⟨kA4, kc4, rfl, _, _⟩ := hk4.form
      have HN := Lib.hid (toRel_next HT.out hwB hlt hb4 hk4)
      have hB4 := Later.has hb4 HB.out
      have cell_ : ∀ o, o < 6 → ∃ v, w4.cell? ⟨B, j * 6 + o, none⟩ = some v := fun o ho => by
        rw [cell_of_row _ _ _ _ _ _ hB4]
        exact ⟨_, Array.getElem?_eq_getElem (by have := HSZ.out; omega)⟩
      have froz_ : ∀ o, w4.frozen? ⟨B, o, none⟩ = false := fun o => frozen_of_row _ _ _ _ _ hB4
      obtain ⟨v0, c0⟩ := cell_ 0 (by omega)
      obtain ⟨v1, c1⟩ := cell_ 1 (by omega)
      obtain ⟨v2, c2⟩ := cell_ 2 (by omega)
      obtain ⟨v3, c3⟩ := cell_ 3 (by omega)
      obtain ⟨v4, c4⟩ := cell_ 4 (by omega)
      obtain ⟨v5, c5⟩ := cell_ 5 (by omega)
      have f0 := froz_ (j * 6)
      have f1 := froz_ (j * 6 + 1)
      have f2 := froz_ (j * 6 + 2)
      have f3 := froz_ (j * 6 + 3)
      have f4 := froz_ (j * 6 + 4)
      have f5 := froz_ (j * 6 + 5)
      simp only [Nat.add_zero] at c0
      clear hb4 hk4 hB4 cell_ froz_ e0 e1 e2 e3 e4 e5
      go_wp2_with fail
      go_roundw
      case rel => exact ⟨j + 1, by omega, by go_num, HN.out⟩
      case measure => simp [intOf]; omega
    · clear hrel
      go_wp2_with fail
      go_ret
      obtain ⟨cur, h1, h2, h3, h4, h5, _⟩ := HT.out
      exact ⟨_, _, rfl, Nat.le_refl _, rowB_mk hwB h1 ps 0 (fun i hi => by obtain ⟨kv, a, b⟩ := h3 i hi (by omega); exact ⟨kv, by simpa using a, KidsB.mono (by omega) _ _ b⟩), h5⟩

set_option maxRecDepth 100000 in
set_option maxHeartbeats 1000000 in
theorem to_any (k : Nat) : ∀ (p : Pat) (kv : Value) (w : World), count p ≤ k → k ≤ 2097152 → LKids w p kv →
    Calls Try.prog 17 #[p.v kv] w fun e w' => ∃ kv', e = .returned (p.v kv') ∧ KidsB w.heap.size w' p kv' ∧ Below w.heap.size w w' := by
  induction k with
  | zero => intro p kv w h; have := count_pos p; omega
  | succ k ih =>
    intro p kv w hcnt hk hin
    obtain ⟨_, A, c, rfl, _, _, hrow⟩ := hin.form
    have hlen : p.kids.length ≤ 2097152 := by have h1 := count_eq p; have h2 := countAll_len p.kids; omega
    have IH := Lib.hid ih
    have HR := Lib.hid hrow
    have HC := Lib.hid hcnt
    clear ih hin hrow hcnt
    go_enter Try.func17, Try.ntmps17
    go_wp2_with fail
    refine (toCset_any _ _ _).mono ?_
    rintro e w2 ⟨rfl, hb2⟩
    have h0 : w2.heap[w.heap.size]? = some (.cells #[.int .i64 p.op, .string p.text, .int .i64 p.num, .int .i64 p.lo, .int .i64 p.hi, .slice A p.kids.length c] 39 (0, 0)) := Later.has hb2 ((((Later.refl _).alloc _).alloc _).has (heap_alloc_new w _))
    have h1 : w2.heap[w.heap.size + 1]? = some (.cells #[.int .i64 0, .string ⟨#[]⟩, .int .i64 0, .int .i64 0, .int .i64 0, .slice none 0 0] TP (0, 0)) := Later.has hb2 (((Later.refl _).alloc _).has (by rw [show w.heap.size + 1 = (w.alloc _).heap.size by simp]; exact heap_alloc_new _ _))
    have h2 : w2.heap[w.heap.size + 2]? = some (.cells #[.int .i64 p.op, .string p.text, .int .i64 p.num, .int .i64 0, .int .i64 0, .slice none 0 0] TP (0, 0)) := Later.has hb2 (by rw [show w.heap.size + 2 = ((w.alloc _).alloc _).heap.size by simp]; exact heap_alloc_new _ _)
    have hL2 : Later w w2 := Later.trans ((((Later.refl w).alloc _).alloc _).alloc _) hb2
    clear hb2
    have h23 := heap_set_own (o := 3) h2 (.int .i64 p.lo)
    have h24 := heap_set_own (o := 4) h23 (.int .i64 p.hi)
    have hL3 : Below w.heap.size w ((w2.setCell ⟨w.heap.size + 2, 3, none⟩ (.int .i64 p.lo)).setCell ⟨w.heap.size + 2, 4, none⟩ (.int .i64 p.hi)) := (Below.setCell hL2 (by show w.heap.size ≤ w.heap.size + 2; omega) _).setCell (by show w.heap.size ≤ w.heap.size + 2; omega) _
    have h14 := heap_set_other (k := 4) (u := .int .i64 p.hi) (heap_set_other (k := 3) (u := .int .i64 p.lo) h1 (show w.heap.size + 1 ≠ w.heap.size + 2 by omega)) (show w.heap.size + 1 ≠ w.heap.size + 2 by omega)
    have H24 := Lib.hid h24
    have H14 := Lib.hid h14
    have HL3 := Lib.hid hL3
    obtain ⟨p0, p1, p2, p3, p4, p5⟩ := cells_p h0
    obtain ⟨q0, q1, q2, q3, q4, q5⟩ := cells_p h2
    have f3 := frozen_of_row _ _ 3 _ _ h2
    have f4 := frozen_of_row _ _ 4 _ _ h2
    have hne : ¬ w.heap.size = w.heap.size + 2 := by omega
    have hz := has_lt h2
    clear h0 h1 h2 h23 h24 hL2 hL3 h14
    go_wp2_with fail
    clear p0 p1 p2 p3 p4 p5 q0 q1 q2 q3 q4 q5 f3 f4
    refine (toS_of p.kids A c _ hlen (LRow.later HL3.out _ _ _ HR.out) (fun j hj kv x h => IH.out _ kv x (by have := count_kid_lt p j hj; have := HC.out; omega) (by omega) h)).mono ?_
    rintro e w3 ⟨kA, kc, rfl, hkc, hrow3, hb3⟩
    have h2 := Later.has hb3 H24.out
    have h1 := Later.has hb3 H14.out
    have hL4 : Below w.heap.size w w3 := HL3.out.trans (Below.mono hb3 (by simp; omega))
    have HROW3 := Lib.hid (RowB.mono (base' := w.heap.size + 3) (by simp; omega) _ _ _ hrow3)
    obtain ⟨q0, q1, q2, q3, q4, q5⟩ := cells_p (v3 := .int .i64 p.lo) (v4 := .int .i64 p.hi) h2
    have f5 := frozen_of_row _ _ 5 _ _ h2
    obtain ⟨r0, r1, r2, r3, r4, r5⟩ := cells_p h1
    have g0 := frozen_of_row _ _ 0 _ _ h1
    have g1 := frozen_of_row _ _ 1 _ _ h1
    have g2 := frozen_of_row _ _ 2 _ _ h1
    have g3 := frozen_of_row _ _ 3 _ _ h1
    have g4 := frozen_of_row _ _ 4 _ _ h1
    have g5 := frozen_of_row _ _ 5 _ _ h1
    have hne2 : ¬ w.heap.size + 1 = w.heap.size + 2 := by omega
    have hne3 : ¬ w.heap.size + 2 = w.heap.size + 1 := by omega
    have HL4 := Lib.hid hL4
    clear hb3 hrow3 h1 h2 hL4
    go_wp2_with fail
    refine bodyPost_ret (v := p.v (.slice kA p.kids.length kc)) (by simp [results, Try.results17, go_sem, r0, r1, r2, r3, r4, r5, q0, q1, q2, q3, q4, q5]) rfl ?_
    refine ⟨_, rfl, ?_, ?_⟩
    · have hk : KidsB (w.heap.size + 3) w3 p (.slice kA p.kids.length kc) := kidsB_mk hkc HROW3.out
      refine KidsB.mono (show w.heap.size ≤ w.heap.size + 3 by omega) _ _ ?_
      refine (KidsB.set ?_ _ _ (KidsB.set ?_ _ _ (KidsB.set ?_ _ _ (KidsB.set ?_ _ _ (KidsB.set ?_ _ _ (KidsB.set ?_ _ _ (KidsB.set ?_ _ _ hk))))))) <;> omega
    · have hk : Below w.heap.size w w3 := HL4.out
      refine (Below.setCell (Below.setCell (Below.setCell (Below.setCell (Below.setCell (Below.setCell (Below.setCell hk ?_ _) ?_ _) ?_ _) ?_ _) ?_ _) ?_ _) ?_ _) <;> first | (simp; done) | (simp; omega) | exact Nat.le_add_right _ _

end Go.Proofs.Ytndefbecoahfhaa

/- The laws' eqCset, eqPattern, eqPatternS, eqCapture, eqCaptureS and eqMatch: true where both are alike. Printed by gen_eq.py. -/
namespace Go.Proofs.Ytndefbecoahfhaa
open Go.RowKit

theorem capCells_at : ∀ (l : List Cap) (j : Nat) (h : j < l.length), (capCells l)[j * 3]? = some (.int .i64 l[j].var) ∧ (capCells l)[j * 3 + 1]? = some (.int .i64 l[j].fr) ∧ (capCells l)[j * 3 + 2]? = some (.int .i64 l[j].to)
  | [], j, h => by simp at h
  | c :: l, 0, _ => by simp [capCells]
  | c :: l, j + 1, h => by
    have := capCells_at l j (by simpa using h)
    simpa [capCells, show (j + 1) * 3 = j * 3 + 3 by omega, show (j + 1) * 3 + 1 = j * 3 + 1 + 3 by omega, show (j + 1) * 3 + 2 = j * 3 + 2 + 3 by omega] using this
theorem cap_cells {w x : World} {b : Nat} {v : Value} {l : List Cap} (h : HasRow w b TK 3 v l.length (capCells l)) {j : Nat} (hj : j < l.length) (hl : Below w.heap.size w x) :
    ∃ g c, v = .slice (some ⟨g, 0, none⟩) l.length c ∧ x.cell? ⟨g, j * 3, none⟩ = some (.int .i64 l[j].var) ∧ x.cell? ⟨g, j * 3 + 1, none⟩ = some (.int .i64 l[j].fr) ∧ x.cell? ⟨g, j * 3 + 2, none⟩ = some (.int .i64 l[j].to) := by
  obtain ⟨g, c, rfl, _, _, _⟩ := h.block_ (by omega)
  have hc := h.cells (g := g) rfl
  have hg := (h.lt g rfl).2.1
  obtain ⟨c0, c1, c2⟩ := capCells_at l j hj
  exact ⟨g, c, rfl, (Later.cell hl _ hg).trans (hc _ _ c0), (Later.cell hl _ hg).trans (hc _ _ c1), (Later.cell hl _ hg).trans (hc _ _ c2)⟩

set_option maxRecDepth 100000 in
set_option maxHeartbeats 1000000 in
theorem eqCset_any (lo hi : Int) (w : World) :
    Calls Try.prog 44 #[.agg #[.int .i64 lo, .int .i64 hi], .agg #[.int .i64 lo, .int .i64 hi]] w fun e w' => e = .returned (.bool true) ∧ Below w.heap.size w w' := by
  go_enter Try.func44, Try.ntmps44
  go_wp2_with fail
  go_ret
  exact ⟨rfl, ((Below.refl _ _).alloc (Nat.le_refl _) _).alloc (by simp) _⟩

set_option maxRecDepth 100000 in
set_option maxHeartbeats 1000000 in
theorem eqCapture_any (a b c : Int) (w : World) :
    Calls Try.prog 72 #[.agg #[.int .i64 a, .int .i64 b, .int .i64 c], .agg #[.int .i64 a, .int .i64 b, .int .i64 c]] w fun e w' => e = .returned (.bool true) ∧ Below w.heap.size w w' := by
  go_enter Try.func72, Try.ntmps72
  go_wp2_with fail
  go_ret
  exact ⟨rfl, ((Below.refl _ _).alloc (Nat.le_refl _) _).alloc (by simp) _⟩

set_option maxRecDepth 100000 in
set_option maxHeartbeats 1000000 in
theorem eqCaptureS_any (l : List Cap) (u v : Value) (w : World) (b1 b2 : Nat) (hu : HasRow w b1 TK 3 u l.length (capCells l)) (hv : HasRow w b2 TK 3 v l.length (capCells l)) (hn : l.length ≤ 1000000) :
    Calls Try.prog 43 #[u, v] w fun e w' => e = .returned (.bool true) ∧ Below w.heap.size w w' := by
  obtain ⟨uA, uc, rfl, _, _⟩ := hu.form
  obtain ⟨vA, vc, rfl, _, _⟩ := hv.form
  have HU := Lib.hid hu
  have HV := Lib.hid hv
  clear hu hv
  have hb1 : (l.length : Int) ≤ 1000000 := by omega
  go_enter Try.func43, Try.ntmps43
  go_wp2_with fail
  go_loopw [5] (fun i wr => ∃ j : Nat, j ≤ l.length ∧ i = .int .i64 j ∧ Below w.heap.size w wr) (fun i _ => l.length - (intOf i).toNat)
  case atStart => exact ⟨0, Nat.zero_le _, rfl, Below.refl _ _⟩
  case round =>
    obtain ⟨j, hj, rfl, hbel⟩ := hrel
    have hsz := hbel.size
    by_cases hlt : j < l.length
    · obtain ⟨g1, c1, hv1, a0, a1, a2⟩ := cap_cells HU.out hlt hbel
      obtain ⟨rfl, rfl⟩ : uA = some ⟨g1, 0, none⟩ ∧ uc = c1 := by simpa using hv1
      obtain ⟨g2, c2, hv2, d0, d1, d2⟩ := cap_cells HV.out hlt hbel
      obtain ⟨rfl, rfl⟩ : vA = some ⟨g2, 0, none⟩ ∧ vc = c2 := by simpa using hv2
      clear hv1 hv2
      have hlt' : (j : Int) < l.length := by omega
      have HA := Lib.hid (And.intro a0 (And.intro a1 a2))
      have HD := Lib.hid (And.intro d0 (And.intro d1 d2))
      have HG1 := Lib.hid (Nat.lt_of_lt_of_le (HU.out.lt g1 rfl).2.1 hsz)
      have HG2 := Lib.hid (Nat.lt_of_lt_of_le (HV.out.lt g2 rfl).2.1 hsz)
      clear a0 a1 a2 d0 d1 d2
      go_wp2_with fail
      -- region 6: 10 operations, the last [8, 9]
      refine wpU_begin [8, 9] [] (by kernel_rfl) (fun w3 hw3 => ?_)
      have hl3 := drew_later hw3
      have HG1' := Lib.hid (Nat.lt_of_lt_of_le HG1.out hl3.size)
      have HG2' := Lib.hid (Nat.lt_of_lt_of_le HG2.out hl3.size)
      have HA' := Lib.hid (And.intro ((hl3.cell _ (show g1 < _ from HG1.out)).trans HA.out.1) (And.intro ((hl3.cell _ (show g1 < _ from HG1.out)).trans HA.out.2.1) ((hl3.cell _ (show g1 < _ from HG1.out)).trans HA.out.2.2)))
      have HD' := Lib.hid (And.intro ((hl3.cell _ (show g2 < _ from HG2.out)).trans HD.out.1) (And.intro ((hl3.cell _ (show g2 < _ from HG2.out)).trans HD.out.2.1) ((hl3.cell _ (show g2 < _ from HG2.out)).trans HD.out.2.2)))
      have HL3 := Lib.hid (Below.trans hbel (Below.mono hl3 hsz))
      clear hw3 hl3
      refine wpU_take 0 (some 17) (v := ?_) rfl rfl (by kernel_rfl) (fun _ _ _ h => h) rfl (fun x hx => ?_) ?_
      rotate_left 1
      · go_simp; first | done | with_reducible rfl | rw [if_neg (by omega)] | rw [if_pos (by omega)]
      simp only [Act.put, List.setIfInBounds_toArray, List.set_cons_zero, List.set_cons_succ]
      refine wpU_take 1 (some 18) (v := ?_) rfl rfl (by kernel_rfl) (fun _ _ _ h => h) rfl (fun x hx => ?_) ?_
      rotate_left 1
      · go_simp; first | done | with_reducible rfl | rw [if_neg (by omega)] | rw [if_pos (by omega)]
      simp only [Act.put, List.setIfInBounds_toArray, List.set_cons_zero, List.set_cons_succ]
      refine wpU_take 2 (some 19) (v := ?_) rfl rfl (by kernel_rfl) (fun _ _ _ h => h) rfl (fun x hx => ?_) ?_
      rotate_left 1
      · go_simp; first | done | with_reducible rfl | rw [if_neg (by omega)] | rw [if_pos (by omega)]
      simp only [Act.put, List.setIfInBounds_toArray, List.set_cons_zero, List.set_cons_succ]
      refine wpU_take 3 (some 20) (v := ?_) rfl rfl (by kernel_rfl) (fun _ _ _ h => h) rfl (fun x hx => ?_) ?_
      rotate_left 1
      · have a0 := (hx.cell _ (show g1 < _ from HG1'.out)).trans HA'.out.1; have a1 := (hx.cell _ (show g1 < _ from HG1'.out)).trans HA'.out.2.1; have a2 := (hx.cell _ (show g1 < _ from HG1'.out)).trans HA'.out.2.2; have d0 := (hx.cell _ (show g2 < _ from HG2'.out)).trans HD'.out.1; have d1 := (hx.cell _ (show g2 < _ from HG2'.out)).trans HD'.out.2.1; have d2 := (hx.cell _ (show g2 < _ from HG2'.out)).trans HD'.out.2.2; go_simp; first | done | with_reducible rfl | rw [if_neg (by omega)] | rw [if_pos (by omega)]
      simp only [Act.put, List.setIfInBounds_toArray, List.set_cons_zero, List.set_cons_succ]
      refine wpU_take 4 (some 21) (v := ?_) rfl rfl (by kernel_rfl) (fun _ _ _ h => h) rfl (fun x hx => ?_) ?_
      rotate_left 1
      · go_simp; first | done | with_reducible rfl | rw [if_neg (by omega)] | rw [if_pos (by omega)]
      simp only [Act.put, List.setIfInBounds_toArray, List.set_cons_zero, List.set_cons_succ]
      refine wpU_take 5 (some 22) (v := ?_) rfl rfl (by kernel_rfl) (fun _ _ _ h => h) rfl (fun x hx => ?_) ?_
      rotate_left 1
      · go_simp; first | done | with_reducible rfl | rw [if_neg (by omega)] | rw [if_pos (by omega)]
      simp only [Act.put, List.setIfInBounds_toArray, List.set_cons_zero, List.set_cons_succ]
      refine wpU_take 6 (some 23) (v := ?_) rfl rfl (by kernel_rfl) (fun _ _ _ h => h) rfl (fun x hx => ?_) ?_
      rotate_left 1
      · go_simp; first | done | with_reducible rfl | rw [if_neg (by omega)] | rw [if_pos (by omega)]
      simp only [Act.put, List.setIfInBounds_toArray, List.set_cons_zero, List.set_cons_succ]
      refine wpU_take 7 (some 24) (v := ?_) rfl rfl (by kernel_rfl) (fun _ _ _ h => h) rfl (fun x hx => ?_) ?_
      rotate_left 1
      · have a0 := (hx.cell _ (show g1 < _ from HG1'.out)).trans HA'.out.1; have a1 := (hx.cell _ (show g1 < _ from HG1'.out)).trans HA'.out.2.1; have a2 := (hx.cell _ (show g1 < _ from HG1'.out)).trans HA'.out.2.2; have d0 := (hx.cell _ (show g2 < _ from HG2'.out)).trans HD'.out.1; have d1 := (hx.cell _ (show g2 < _ from HG2'.out)).trans HD'.out.2.1; have d2 := (hx.cell _ (show g2 < _ from HG2'.out)).trans HD'.out.2.2; go_simp; first | done | with_reducible rfl | rw [if_neg (by omega)] | rw [if_pos (by omega)]
      simp only [Act.put, List.setIfInBounds_toArray, List.set_cons_zero, List.set_cons_succ]
      refine wpU_last [_, _] (by kernel_rfl) rfl rfl ?_
      simp only [List.getElem_toArray, List.getElem_cons_succ, List.getElem_cons_zero]
      go_wp2_with fail
      refine (eqCapture_any _ _ _ _).mono ?_
      rintro e w4 ⟨rfl, hb4⟩
      have hb5 : Below w.heap.size w w4 := HL3.out.trans (Below.mono hb4 HL3.out.size)
      clear hb4
      go_wp2_with fail
      go_roundw
      case rel => exact ⟨j + 1, by omega, by go_num, hb5⟩
      case measure => simp [intOf]; omega
    · go_wp2_with fail
      go_ret
      exact ⟨rfl, hbel⟩

set_option maxRecDepth 100000 in
set_option maxHeartbeats 1000000 in
theorem eqMatch_any (r : Res) (fr : Int) (cv ev cv' ev' : Value) (w : World) (b1 b2 : Nat) (h1 : HasRow w b1 TK 3 cv r.caps.length (capCells r.caps)) (h2 : HasRow w b1 TK 3 ev r.events.length (capCells r.events)) (h3 : HasRow w b2 TK 3 cv' r.caps.length (capCells r.caps)) (h4 : HasRow w b2 TK 3 ev' r.events.length (capCells r.events)) (hn : r.caps.length ≤ 1000000) (hm : r.events.length ≤ 1000000) :
    Calls Try.prog 18 #[matchV r fr cv ev, matchV r fr cv' ev'] w fun e w' => e = .returned (.bool true) ∧ Below w.heap.size w w' := by
  obtain ⟨cA, cc, rfl, _, _⟩ := h1.form
  obtain ⟨eA, ec, rfl, _, _⟩ := h2.form
  obtain ⟨cA', cc', rfl, _, _⟩ := h3.form
  obtain ⟨eA', ec', rfl, _, _⟩ := h4.form
  have H1 := Lib.hid h1
  have H2 := Lib.hid h2
  have H3 := Lib.hid h3
  have H4 := Lib.hid h4
  clear h1 h2 h3 h4
  obtain ⟨found, stopped, exhausted, at_, steps, caps, events⟩ := r
  cases found <;> cases stopped <;> cases exhausted
  · go_enter Try.func18, Try.ntmps18
    go_wp2_with fail
    have HLA := Lib.hid (((Later.refl w).alloc (Obj.cells #[.bool false, .bool false, .bool false, .int .i64 fr, .int .i64 at_, .int .i64 steps, .slice cA caps.length cc, .slice eA events.length ec] TR)).alloc (Obj.cells #[.bool false, .bool false, .bool false, .int .i64 fr, .int .i64 at_, .int .i64 steps, .slice cA' caps.length cc', .slice eA' events.length ec'] TR))
    refine (eqCaptureS_any caps _ _ _ b1 b2 (H1.out.same fun k hk => HLA.out.block k (H1.out.lt k hk).2.1) (H3.out.same fun k hk => HLA.out.block k (H3.out.lt k hk).2.1) hn).mono ?_
    rintro e w2 ⟨rfl, hb2⟩
    have hr1 := Later.has hb2 (((Later.refl _).alloc _).has (heap_alloc_new w _))
    have hr2 := Later.has hb2 (heap_alloc_new _ _)
    simp only [World.size_alloc] at hr2
    have HL2 := Lib.hid (HLA.out.trans hb2)
    obtain ⟨r0, r1, r2, r3, r4, r5, r6, r7⟩ := cells_r hr1
    obtain ⟨s0, s1, s2, s3, s4, s5, s6, s7⟩ := cells_r hr2
    clear hb2 hr1 hr2 HLA
    go_wp2_with fail
    refine (eqCaptureS_any events _ _ _ b1 b2 (H2.out.same fun k hk => HL2.out.block k (H2.out.lt k hk).2.1) (H4.out.same fun k hk => HL2.out.block k (H4.out.lt k hk).2.1) hm).mono ?_
    rintro e w3 ⟨rfl, hb3⟩
    have HL3 := Lib.hid (HL2.out.trans hb3)
    clear hb3
    go_wp2_with fail
    go_ret
    exact ⟨rfl, HL3.out⟩
  · go_enter Try.func18, Try.ntmps18
    go_wp2_with fail
    have HLA := Lib.hid (((Later.refl w).alloc (Obj.cells #[.bool false, .bool false, .bool true, .int .i64 fr, .int .i64 at_, .int .i64 steps, .slice cA caps.length cc, .slice eA events.length ec] TR)).alloc (Obj.cells #[.bool false, .bool false, .bool true, .int .i64 fr, .int .i64 at_, .int .i64 steps, .slice cA' caps.length cc', .slice eA' events.length ec'] TR))
    refine (eqCaptureS_any caps _ _ _ b1 b2 (H1.out.same fun k hk => HLA.out.block k (H1.out.lt k hk).2.1) (H3.out.same fun k hk => HLA.out.block k (H3.out.lt k hk).2.1) hn).mono ?_
    rintro e w2 ⟨rfl, hb2⟩
    have hr1 := Later.has hb2 (((Later.refl _).alloc _).has (heap_alloc_new w _))
    have hr2 := Later.has hb2 (heap_alloc_new _ _)
    simp only [World.size_alloc] at hr2
    have HL2 := Lib.hid (HLA.out.trans hb2)
    obtain ⟨r0, r1, r2, r3, r4, r5, r6, r7⟩ := cells_r hr1
    obtain ⟨s0, s1, s2, s3, s4, s5, s6, s7⟩ := cells_r hr2
    clear hb2 hr1 hr2 HLA
    go_wp2_with fail
    refine (eqCaptureS_any events _ _ _ b1 b2 (H2.out.same fun k hk => HL2.out.block k (H2.out.lt k hk).2.1) (H4.out.same fun k hk => HL2.out.block k (H4.out.lt k hk).2.1) hm).mono ?_
    rintro e w3 ⟨rfl, hb3⟩
    have HL3 := Lib.hid (HL2.out.trans hb3)
    clear hb3
    go_wp2_with fail
    go_ret
    exact ⟨rfl, HL3.out⟩
  · go_enter Try.func18, Try.ntmps18
    go_wp2_with fail
    have HLA := Lib.hid (((Later.refl w).alloc (Obj.cells #[.bool false, .bool true, .bool false, .int .i64 fr, .int .i64 at_, .int .i64 steps, .slice cA caps.length cc, .slice eA events.length ec] TR)).alloc (Obj.cells #[.bool false, .bool true, .bool false, .int .i64 fr, .int .i64 at_, .int .i64 steps, .slice cA' caps.length cc', .slice eA' events.length ec'] TR))
    refine (eqCaptureS_any caps _ _ _ b1 b2 (H1.out.same fun k hk => HLA.out.block k (H1.out.lt k hk).2.1) (H3.out.same fun k hk => HLA.out.block k (H3.out.lt k hk).2.1) hn).mono ?_
    rintro e w2 ⟨rfl, hb2⟩
    have hr1 := Later.has hb2 (((Later.refl _).alloc _).has (heap_alloc_new w _))
    have hr2 := Later.has hb2 (heap_alloc_new _ _)
    simp only [World.size_alloc] at hr2
    have HL2 := Lib.hid (HLA.out.trans hb2)
    obtain ⟨r0, r1, r2, r3, r4, r5, r6, r7⟩ := cells_r hr1
    obtain ⟨s0, s1, s2, s3, s4, s5, s6, s7⟩ := cells_r hr2
    clear hb2 hr1 hr2 HLA
    go_wp2_with fail
    refine (eqCaptureS_any events _ _ _ b1 b2 (H2.out.same fun k hk => HL2.out.block k (H2.out.lt k hk).2.1) (H4.out.same fun k hk => HL2.out.block k (H4.out.lt k hk).2.1) hm).mono ?_
    rintro e w3 ⟨rfl, hb3⟩
    have HL3 := Lib.hid (HL2.out.trans hb3)
    clear hb3
    go_wp2_with fail
    go_ret
    exact ⟨rfl, HL3.out⟩
  · go_enter Try.func18, Try.ntmps18
    go_wp2_with fail
    have HLA := Lib.hid (((Later.refl w).alloc (Obj.cells #[.bool false, .bool true, .bool true, .int .i64 fr, .int .i64 at_, .int .i64 steps, .slice cA caps.length cc, .slice eA events.length ec] TR)).alloc (Obj.cells #[.bool false, .bool true, .bool true, .int .i64 fr, .int .i64 at_, .int .i64 steps, .slice cA' caps.length cc', .slice eA' events.length ec'] TR))
    refine (eqCaptureS_any caps _ _ _ b1 b2 (H1.out.same fun k hk => HLA.out.block k (H1.out.lt k hk).2.1) (H3.out.same fun k hk => HLA.out.block k (H3.out.lt k hk).2.1) hn).mono ?_
    rintro e w2 ⟨rfl, hb2⟩
    have hr1 := Later.has hb2 (((Later.refl _).alloc _).has (heap_alloc_new w _))
    have hr2 := Later.has hb2 (heap_alloc_new _ _)
    simp only [World.size_alloc] at hr2
    have HL2 := Lib.hid (HLA.out.trans hb2)
    obtain ⟨r0, r1, r2, r3, r4, r5, r6, r7⟩ := cells_r hr1
    obtain ⟨s0, s1, s2, s3, s4, s5, s6, s7⟩ := cells_r hr2
    clear hb2 hr1 hr2 HLA
    go_wp2_with fail
    refine (eqCaptureS_any events _ _ _ b1 b2 (H2.out.same fun k hk => HL2.out.block k (H2.out.lt k hk).2.1) (H4.out.same fun k hk => HL2.out.block k (H4.out.lt k hk).2.1) hm).mono ?_
    rintro e w3 ⟨rfl, hb3⟩
    have HL3 := Lib.hid (HL2.out.trans hb3)
    clear hb3
    go_wp2_with fail
    go_ret
    exact ⟨rfl, HL3.out⟩
  · go_enter Try.func18, Try.ntmps18
    go_wp2_with fail
    have HLA := Lib.hid (((Later.refl w).alloc (Obj.cells #[.bool true, .bool false, .bool false, .int .i64 fr, .int .i64 at_, .int .i64 steps, .slice cA caps.length cc, .slice eA events.length ec] TR)).alloc (Obj.cells #[.bool true, .bool false, .bool false, .int .i64 fr, .int .i64 at_, .int .i64 steps, .slice cA' caps.length cc', .slice eA' events.length ec'] TR))
    refine (eqCaptureS_any caps _ _ _ b1 b2 (H1.out.same fun k hk => HLA.out.block k (H1.out.lt k hk).2.1) (H3.out.same fun k hk => HLA.out.block k (H3.out.lt k hk).2.1) hn).mono ?_
    rintro e w2 ⟨rfl, hb2⟩
    have hr1 := Later.has hb2 (((Later.refl _).alloc _).has (heap_alloc_new w _))
    have hr2 := Later.has hb2 (heap_alloc_new _ _)
    simp only [World.size_alloc] at hr2
    have HL2 := Lib.hid (HLA.out.trans hb2)
    obtain ⟨r0, r1, r2, r3, r4, r5, r6, r7⟩ := cells_r hr1
    obtain ⟨s0, s1, s2, s3, s4, s5, s6, s7⟩ := cells_r hr2
    clear hb2 hr1 hr2 HLA
    go_wp2_with fail
    refine (eqCaptureS_any events _ _ _ b1 b2 (H2.out.same fun k hk => HL2.out.block k (H2.out.lt k hk).2.1) (H4.out.same fun k hk => HL2.out.block k (H4.out.lt k hk).2.1) hm).mono ?_
    rintro e w3 ⟨rfl, hb3⟩
    have HL3 := Lib.hid (HL2.out.trans hb3)
    clear hb3
    go_wp2_with fail
    go_ret
    exact ⟨rfl, HL3.out⟩
  · go_enter Try.func18, Try.ntmps18
    go_wp2_with fail
    have HLA := Lib.hid (((Later.refl w).alloc (Obj.cells #[.bool true, .bool false, .bool true, .int .i64 fr, .int .i64 at_, .int .i64 steps, .slice cA caps.length cc, .slice eA events.length ec] TR)).alloc (Obj.cells #[.bool true, .bool false, .bool true, .int .i64 fr, .int .i64 at_, .int .i64 steps, .slice cA' caps.length cc', .slice eA' events.length ec'] TR))
    refine (eqCaptureS_any caps _ _ _ b1 b2 (H1.out.same fun k hk => HLA.out.block k (H1.out.lt k hk).2.1) (H3.out.same fun k hk => HLA.out.block k (H3.out.lt k hk).2.1) hn).mono ?_
    rintro e w2 ⟨rfl, hb2⟩
    have hr1 := Later.has hb2 (((Later.refl _).alloc _).has (heap_alloc_new w _))
    have hr2 := Later.has hb2 (heap_alloc_new _ _)
    simp only [World.size_alloc] at hr2
    have HL2 := Lib.hid (HLA.out.trans hb2)
    obtain ⟨r0, r1, r2, r3, r4, r5, r6, r7⟩ := cells_r hr1
    obtain ⟨s0, s1, s2, s3, s4, s5, s6, s7⟩ := cells_r hr2
    clear hb2 hr1 hr2 HLA
    go_wp2_with fail
    refine (eqCaptureS_any events _ _ _ b1 b2 (H2.out.same fun k hk => HL2.out.block k (H2.out.lt k hk).2.1) (H4.out.same fun k hk => HL2.out.block k (H4.out.lt k hk).2.1) hm).mono ?_
    rintro e w3 ⟨rfl, hb3⟩
    have HL3 := Lib.hid (HL2.out.trans hb3)
    clear hb3
    go_wp2_with fail
    go_ret
    exact ⟨rfl, HL3.out⟩
  · go_enter Try.func18, Try.ntmps18
    go_wp2_with fail
    have HLA := Lib.hid (((Later.refl w).alloc (Obj.cells #[.bool true, .bool true, .bool false, .int .i64 fr, .int .i64 at_, .int .i64 steps, .slice cA caps.length cc, .slice eA events.length ec] TR)).alloc (Obj.cells #[.bool true, .bool true, .bool false, .int .i64 fr, .int .i64 at_, .int .i64 steps, .slice cA' caps.length cc', .slice eA' events.length ec'] TR))
    refine (eqCaptureS_any caps _ _ _ b1 b2 (H1.out.same fun k hk => HLA.out.block k (H1.out.lt k hk).2.1) (H3.out.same fun k hk => HLA.out.block k (H3.out.lt k hk).2.1) hn).mono ?_
    rintro e w2 ⟨rfl, hb2⟩
    have hr1 := Later.has hb2 (((Later.refl _).alloc _).has (heap_alloc_new w _))
    have hr2 := Later.has hb2 (heap_alloc_new _ _)
    simp only [World.size_alloc] at hr2
    have HL2 := Lib.hid (HLA.out.trans hb2)
    obtain ⟨r0, r1, r2, r3, r4, r5, r6, r7⟩ := cells_r hr1
    obtain ⟨s0, s1, s2, s3, s4, s5, s6, s7⟩ := cells_r hr2
    clear hb2 hr1 hr2 HLA
    go_wp2_with fail
    refine (eqCaptureS_any events _ _ _ b1 b2 (H2.out.same fun k hk => HL2.out.block k (H2.out.lt k hk).2.1) (H4.out.same fun k hk => HL2.out.block k (H4.out.lt k hk).2.1) hm).mono ?_
    rintro e w3 ⟨rfl, hb3⟩
    have HL3 := Lib.hid (HL2.out.trans hb3)
    clear hb3
    go_wp2_with fail
    go_ret
    exact ⟨rfl, HL3.out⟩
  · go_enter Try.func18, Try.ntmps18
    go_wp2_with fail
    have HLA := Lib.hid (((Later.refl w).alloc (Obj.cells #[.bool true, .bool true, .bool true, .int .i64 fr, .int .i64 at_, .int .i64 steps, .slice cA caps.length cc, .slice eA events.length ec] TR)).alloc (Obj.cells #[.bool true, .bool true, .bool true, .int .i64 fr, .int .i64 at_, .int .i64 steps, .slice cA' caps.length cc', .slice eA' events.length ec'] TR))
    refine (eqCaptureS_any caps _ _ _ b1 b2 (H1.out.same fun k hk => HLA.out.block k (H1.out.lt k hk).2.1) (H3.out.same fun k hk => HLA.out.block k (H3.out.lt k hk).2.1) hn).mono ?_
    rintro e w2 ⟨rfl, hb2⟩
    have hr1 := Later.has hb2 (((Later.refl _).alloc _).has (heap_alloc_new w _))
    have hr2 := Later.has hb2 (heap_alloc_new _ _)
    simp only [World.size_alloc] at hr2
    have HL2 := Lib.hid (HLA.out.trans hb2)
    obtain ⟨r0, r1, r2, r3, r4, r5, r6, r7⟩ := cells_r hr1
    obtain ⟨s0, s1, s2, s3, s4, s5, s6, s7⟩ := cells_r hr2
    clear hb2 hr1 hr2 HLA
    go_wp2_with fail
    refine (eqCaptureS_any events _ _ _ b1 b2 (H2.out.same fun k hk => HL2.out.block k (H2.out.lt k hk).2.1) (H4.out.same fun k hk => HL2.out.block k (H4.out.lt k hk).2.1) hm).mono ?_
    rintro e w3 ⟨rfl, hb3⟩
    have HL3 := Lib.hid (HL2.out.trans hb3)
    clear hb3
    go_wp2_with fail
    go_ret
    exact ⟨rfl, HL3.out⟩

set_option maxRecDepth 100000 in
set_option maxHeartbeats 1000000 in
theorem eqS_of (ps : List Pat) (A B : Option Addr) (c d : Nat) (w : World) (hn : ps.length ≤ 2097152) (hr : RowIn w A 0 ps) (hq : RowIn w B 0 ps)
    (ih : ∀ (j : Nat) (h : j < ps.length) (kv kv' : Value) (x : World), KidsIn x ps[j] kv → KidsIn x ps[j] kv' →
      Calls Try.prog 20 #[ps[j].v kv, ps[j].v kv'] x fun e w' => e = .returned (.bool true) ∧ Below x.heap.size x w') :
    Calls Try.prog 19 #[.slice A ps.length c, .slice B ps.length d] w fun e w' => e = .returned (.bool true) ∧ Below w.heap.size w w' := by
  have IH := Lib.hid ih
  have HR := Lib.hid hr
  have HQ := Lib.hid hq
  clear ih hr hq
  have hb1 : (ps.length : Int) ≤ 2097152 := by omega
  go_enter Try.func19, Try.ntmps19
  go_wp2_with fail
  go_loopw [5] (fun i wr => ∃ j : Nat, j ≤ ps.length ∧ i = .int .i64 j ∧ Below w.heap.size w wr) (fun i _ => ps.length - (intOf i).toNat)
  case atStart => exact ⟨0, Nat.zero_le _, rfl, Below.refl _ _⟩
  case round =>
    obtain ⟨j, hj, rfl, hbel⟩ := hrel
    have hsz := hbel.size
    by_cases hlt : j < ps.length
    · have hlt' : (j : Int) < ps.length := by omega
      obtain ⟨g1, kv1, hA, hg1, he1, hk1⟩ := rowOf _ ps (RowIn.later hbel A 0 ps HR.out) hlt
      obtain ⟨g2, kv2, hB, hg2, he2, hk2⟩ := rowOf _ ps (RowIn.later hbel B 0 ps HQ.out) hlt
      obtain ⟨k1A, k1c, rfl, _, _⟩ := hk1.form
      obtain ⟨k2A, k2c, rfl, _, _⟩ := hk2.form
      subst hA hB
      have HE1 := Lib.hid he1
      have HE2 := Lib.hid he2
      have HK1 := Lib.hid hk1
      have HK2 := Lib.hid hk2
      clear he1 he2 hk1 hk2
      go_wp2_with fail
      -- region 6: 10 operations, the last [8, 9]
      refine wpU_begin [8, 9] [] (by kernel_rfl) (fun w3 hw3 => ?_)
      have hl3 := drew_later hw3
      have HE1' := Lib.hid (HE1.out.below hl3)
      have HE2' := Lib.hid (HE2.out.below hl3)
      have HK1' := Lib.hid (KidsIn.later hl3 _ _ HK1.out)
      have HK2' := Lib.hid (KidsIn.later hl3 _ _ HK2.out)
      have HL3 := Lib.hid (Below.trans hbel (Below.mono hl3 hsz))
      clear hw3 hl3
      refine wpU_take 0 (some 17) (v := ?_) rfl rfl (by kernel_rfl) (fun _ _ _ h => h) rfl (fun x hx => ?_) ?_
      rotate_left 1
      · go_simp; first | done | with_reducible rfl | rw [if_neg (by omega)] | rw [if_pos (by omega)]
      simp only [Act.put, List.setIfInBounds_toArray, List.set_cons_zero, List.set_cons_succ]
      refine wpU_take 1 (some 18) (v := ?_) rfl rfl (by kernel_rfl) (fun _ _ _ h => h) rfl (fun x hx => ?_) ?_
      rotate_left 1
      · go_simp; first | done | with_reducible rfl | rw [if_neg (by omega)] | rw [if_pos (by omega)]
      simp only [Act.put, List.setIfInBounds_toArray, List.set_cons_zero, List.set_cons_succ]
      refine wpU_take 2 (some 19) (v := ?_) rfl rfl (by kernel_rfl) (fun _ _ _ h => h) rfl (fun x hx => ?_) ?_
      rotate_left 1
      · go_simp; first | done | with_reducible rfl | rw [if_neg (by omega)] | rw [if_pos (by omega)]
      simp only [Act.put, List.setIfInBounds_toArray, List.set_cons_zero, List.set_cons_succ]
      refine wpU_take 3 (some 20) (v := ?_) rfl rfl (by kernel_rfl) (fun _ _ _ h => h) rfl (fun x hx => ?_) ?_
      rotate_left 1
      · obtain ⟨a0, a1, a2, a3, a4, a5⟩ := HE1'.out.below hx; obtain ⟨d0, d1, d2, d3, d4, d5⟩ := HE2'.out.below hx; go_simp; first | done | with_reducible rfl | rw [if_neg (by omega)] | rw [if_pos (by omega)]
      simp only [Act.put, List.setIfInBounds_toArray, List.set_cons_zero, List.set_cons_succ]
      refine wpU_take 4 (some 21) (v := ?_) rfl rfl (by kernel_rfl) (fun _ _ _ h => h) rfl (fun x hx => ?_) ?_
      rotate_left 1
      · go_simp; first | done | with_reducible rfl | rw [if_neg (by omega)] | rw [if_pos (by omega)]
      simp only [Act.put, List.setIfInBounds_toArray, List.set_cons_zero, List.set_cons_succ]
      refine wpU_take 5 (some 22) (v := ?_) rfl rfl (by kernel_rfl) (fun _ _ _ h => h) rfl (fun x hx => ?_) ?_
      rotate_left 1
      · go_simp; first | done | with_reducible rfl | rw [if_neg (by omega)] | rw [if_pos (by omega)]
      simp only [Act.put, List.setIfInBounds_toArray, List.set_cons_zero, List.set_cons_succ]
      refine wpU_take 6 (some 23) (v := ?_) rfl rfl (by kernel_rfl) (fun _ _ _ h => h) rfl (fun x hx => ?_) ?_
      rotate_left 1
      · go_simp; first | done | with_reducible rfl | rw [if_neg (by omega)] | rw [if_pos (by omega)]
      simp only [Act.put, List.setIfInBounds_toArray, List.set_cons_zero, List.set_cons_succ]
      refine wpU_take 7 (some 24) (v := ?_) rfl rfl (by kernel_rfl) (fun _ _ _ h => h) rfl (fun x hx => ?_) ?_
      rotate_left 1
      · obtain ⟨a0, a1, a2, a3, a4, a5⟩ := HE1'.out.below hx; obtain ⟨d0, d1, d2, d3, d4, d5⟩ := HE2'.out.below hx; go_simp; first | done | with_reducible rfl | rw [if_neg (by omega)] | rw [if_pos (by omega)]
      simp only [Act.put, List.setIfInBounds_toArray, List.set_cons_zero, List.set_cons_succ]
      refine wpU_last [_, _] (by kernel_rfl) rfl rfl ?_
      simp only [List.getElem_toArray, List.getElem_cons_succ, List.getElem_cons_zero]
      go_wp2_with fail
      refine (IH.out j hlt _ _ _ HK1'.out HK2'.out).mono ?_
      rintro e w4 ⟨rfl, hb4⟩
      have hb5 : Below w.heap.size w w4 := HL3.out.trans (Below.mono hb4 HL3.out.size)
      clear hb4
      go_wp2_with fail
      go_roundw
      case rel => exact ⟨j + 1, by omega, by go_num, hb5⟩
      case measure => simp [intOf]; omega
    · go_wp2_with fail
      go_ret
      exact ⟨rfl, hbel⟩

set_option maxRecDepth 100000 in
set_option maxHeartbeats 1000000 in
theorem eq_any (k : Nat) : ∀ (p : Pat) (kv kv' : Value) (w : World), count p ≤ k → k ≤ 2097152 → KidsIn w p kv → KidsIn w p kv' →
    Calls Try.prog 20 #[p.v kv, p.v kv'] w fun e w' => e = .returned (.bool true) ∧ Below w.heap.size w w' := by
  induction k with
  | zero => intro p kv kv' w h; have := count_pos p; omega
  | succ k ih =>
    intro p kv kv' w hcnt hk hin hin'
    obtain ⟨A, c, rfl, _, hrow⟩ := hin.form
    obtain ⟨B, d, rfl, _, hrow'⟩ := hin'.form
    have hlen : p.kids.length ≤ 2097152 := by have h1 := count_eq p; have h2 := countAll_len p.kids; omega
    have IH := Lib.hid ih
    have HR := Lib.hid hrow
    have HQ := Lib.hid hrow'
    have HC := Lib.hid hcnt
    clear ih hin hin' hrow hrow' hcnt
    go_enter Try.func20, Try.ntmps20
    go_wp2_with fail
    have HLA := Lib.hid (((Later.refl w).alloc (Obj.cells #[.int .i64 p.op, .string p.text, .int .i64 p.num, .int .i64 p.lo, .int .i64 p.hi, .slice A p.kids.length c] TP)).alloc (Obj.cells #[.int .i64 p.op, .string p.text, .int .i64 p.num, .int .i64 p.lo, .int .i64 p.hi, .slice B p.kids.length d] TP))
    refine (eqCset_any _ _ _).mono ?_
    rintro e w2 ⟨rfl, hb2⟩
    have hr1 := Later.has hb2 (((Later.refl _).alloc _).has (heap_alloc_new w _))
    have hr2 := Later.has hb2 (heap_alloc_new _ _)
    simp only [World.size_alloc] at hr2
    have HL2 := Lib.hid (HLA.out.trans hb2)
    obtain ⟨r0, r1, r2, r3, r4, r5⟩ := cells_p hr1
    obtain ⟨s0, s1, s2, s3, s4, s5⟩ := cells_p hr2
    clear hb2 hr1 hr2 HLA
    go_wp2_with fail
    refine (eqS_of p.kids A B c d _ hlen (RowIn.later HL2.out _ _ _ HR.out) (RowIn.later HL2.out _ _ _ HQ.out) (fun j hj kv kv' x h h' => IH.out _ kv kv' x (by have := count_kid_lt p j hj; have := HC.out; omega) (by omega) h h')).mono ?_
    rintro e w3 ⟨rfl, hb3⟩
    have HL3 := Lib.hid (HL2.out.trans hb3)
    clear hb3
    go_wp2_with fail
    go_ret
    exact ⟨rfl, HL3.out⟩

end Go.Proofs.Ytndefbecoahfhaa

/- markCaptureS, heldCaptureS, markMatch, heldMatch: what is marked is held. -/
namespace Go.Proofs.Ytndefbecoahfhaa
open Go.RowKit

/-- The row v of n captures bears the marks from k on. -/
def Held (w : World) (v : Value) (n : Nat) (k : Int) : Prop :=
  ∃ A c, v = .slice A n c ∧ (0 < n → ∃ g, A = some ⟨g, 0, none⟩ ∧ g < w.heap.size ∧ ∀ i, i < n → w.cell? ⟨g, i * 3, none⟩ = some (.int .i64 (k + 3 * i)) ∧ w.cell? ⟨g, i * 3 + 1, none⟩ = some (.int .i64 (k + 3 * i + 1)) ∧ w.cell? ⟨g, i * 3 + 2, none⟩ = some (.int .i64 (k + 3 * i + 2)))
theorem Held.same {w x : World} {v : Value} {n : Nat} {k : Int} (h : Held w v n k) (hs : w.heap.size ≤ x.heap.size) (hb : ∀ b, v.ownBlock = some b → x.heap[b]? = w.heap[b]?) : Held x v n k := by
  obtain ⟨A, c, rfl, h⟩ := h
  refine ⟨A, c, rfl, fun hn => ?_⟩
  obtain ⟨g, rfl, hg, h⟩ := h hn
  have hg' := hb g rfl
  have at_ : ∀ o, x.cell? ⟨g, o, none⟩ = w.cell? ⟨g, o, none⟩ := fun o => by simp only [World.cell?, hg']
  refine ⟨g, rfl, by omega, fun i hi => ?_⟩
  rw [at_, at_, at_]
  exact h i hi
theorem Held.later {w x : World} {v : Value} {n : Nat} {k : Int} (h : Held w v n k) (hl : Later w x) : Held x v n k := by
  by_cases hn : 0 < n
  · refine h.same hl.size fun b hb => ?_
    obtain ⟨A, c, rfl, h⟩ := h
    obtain ⟨g, rfl, hg, _⟩ := h hn
    simp [Value.ownBlock] at hb
    subst hb
    exact hl.block g hg
  · obtain ⟨A, c, rfl, _⟩ := h
    exact ⟨A, c, rfl, fun h => absurd h hn⟩

set_option maxRecDepth 100000 in
set_option maxHeartbeats 1000000 in
theorem heldCaptureS_any (v : Value) (n : Nat) (k : Int) (w : World) (h : Held w v n k) (hk : 0 ≤ k) (hk1 : k ≤ 1099511627776) (hn : n ≤ 1000000) :
    Calls Try.prog 47 #[v, .int .i64 k] w fun e w' => e = .returned (.int .i64 (k + 3 * n)) ∧ w = w' := by
  obtain ⟨A, c, rfl, h⟩ := h
  have HH := Lib.hid h
  clear h
  have hn1 : (n : Int) ≤ 1000000 := by omega
  go_enter Try.func47, Try.ntmps47
  go_wp2_with fail
  go_loop [1, 5] (fun kv i => ∃ j : Nat, j ≤ n ∧ i = .int .i64 j ∧ kv = .int .i64 (k + 3 * j)) (fun _ i => n - (intOf i).toNat)
  case atStart => exact ⟨0, Nat.zero_le _, rfl, by simp⟩
  case round =>
    obtain ⟨j, hj, rfl, rfl⟩ := hrel
    have hj1 : (j : Int) ≤ 1000000 := by omega
    by_cases hlt : j < n
    · obtain ⟨g, rfl, _, hc⟩ := HH.out (by omega)
      obtain ⟨c0, c1, c2⟩ := hc j hlt
      have hlt' : (j : Int) < n := by omega
      clear hc
      obtain ⟨z, hz⟩ : ∃ z : Int, k + 3 * j = z := ⟨_, rfl⟩
      have hz0 : 0 ≤ z := by omega
      have hz1 : z ≤ 1099520000000 := by omega
      rw [hz] at c0 c1 c2 ⊢
      have HZ := Lib.hid hz
      clear hz
      have a1 : z + 1 + 1 = z + 2 := by omega
      go_wp2_with fail
      go_round
      case rel => exact ⟨j + 1, by omega, by go_num, by have := HZ.out; congr 1; push_cast; omega⟩
      case measure => simp [intOf]; omega
    · obtain rfl : j = n := by omega
      go_wp2_with fail
      go_ret
      exact ⟨rfl, rfl⟩

/-- The head of markCaptureS' loop. -/
def MarkRel (w : World) (base g n : Nat) (k : Int) (j : Nat) (wr : World) : Prop :=
  ∃ cur, wr.heap[g]? = some (.cells cur TK (0, 0)) ∧ n * 3 ≤ cur.size ∧ OnlyAt g w wr ∧ base ≤ g ∧ wr.heap.size = w.heap.size ∧
    ∀ i, i < j → cur[i * 3]? = some (.int .i64 (k + 3 * i)) ∧ cur[i * 3 + 1]? = some (.int .i64 (k + 3 * i + 1)) ∧ cur[i * 3 + 2]? = some (.int .i64 (k + 3 * i + 2))
theorem markRel_next {w x : World} {base g n : Nat} {k : Int} {j : Nat} (h : MarkRel w base g n k j x) (hj : j < n) :
    MarkRel w base g n k (j + 1) (((x.setCell ⟨g, j * 3, none⟩ (.int .i64 (k + 3 * j))).setCell ⟨g, j * 3 + 1, none⟩ (.int .i64 (k + 3 * j + 1))).setCell ⟨g, j * 3 + 2, none⟩ (.int .i64 (k + 3 * j + 2))) := by
  obtain ⟨cur, hB, hsz, ho, hb, hhs, hall⟩ := h
  have h1 := heap_set_own (o := j * 3) hB (.int .i64 (k + 3 * j))
  have h2 := heap_set_own (o := j * 3 + 1) h1 (.int .i64 (k + 3 * j + 1))
  have h3 := heap_set_own (o := j * 3 + 2) h2 (.int .i64 (k + 3 * j + 2))
  refine ⟨_, h3, by simpa using hsz, ((ho.set _ _).set _ _).set _ _, hb, by simpa using hhs, fun i hi => ?_⟩
  by_cases e : i = j
  · subst e
    refine ⟨?_, ?_, ?_⟩
    · rw [Array.getElem?_setIfInBounds_ne (by omega), Array.getElem?_setIfInBounds_ne (by omega), Array.getElem?_setIfInBounds_self_of_lt (by omega)]
    · rw [Array.getElem?_setIfInBounds_ne (by omega), Array.getElem?_setIfInBounds_self_of_lt (by simp; omega)]
    · rw [Array.getElem?_setIfInBounds_self_of_lt (by simp; omega)]
  · obtain ⟨a, b, c⟩ := hall i (by omega)
    refine ⟨?_, ?_, ?_⟩
    · rw [Array.getElem?_setIfInBounds_ne (by omega), Array.getElem?_setIfInBounds_ne (by omega), Array.getElem?_setIfInBounds_ne (by omega)]; exact a
    · rw [Array.getElem?_setIfInBounds_ne (by omega), Array.getElem?_setIfInBounds_ne (by omega), Array.getElem?_setIfInBounds_ne (by omega)]; exact b
    · rw [Array.getElem?_setIfInBounds_ne (by omega), Array.getElem?_setIfInBounds_ne (by omega), Array.getElem?_setIfInBounds_ne (by omega)]; exact c

set_option maxRecDepth 100000 in
set_option maxHeartbeats 1000000 in
theorem markCaptureS_any (v : Value) (n base : Nat) (xs : List Value) (k : Int) (w : World) (h : HasRow w base TK 3 v n xs) (hk : 0 ≤ k) (hk1 : k ≤ 1099511627776) (hn : n ≤ 1000000) :
    Calls Try.prog 46 #[v, .int .i64 k] w fun e w' => e = .returned (.int .i64 (k + 3 * n)) ∧ Held w' v n k ∧ w'.heap.size = w.heap.size ∧ (∀ b, v.ownBlock ≠ some b → w'.heap[b]? = w.heap[b]?) ∧ Below base w w' := by
  have hn1 : (n : Int) ≤ 1000000 := by omega
  by_cases h0 : n = 0
  · subst h0
    obtain ⟨A, c, rfl, _, _⟩ := h.form
    clear h
    go_enter Try.func46, Try.ntmps46
    go_wp2_with fail
    refine wp_loop_rounds 1 ?_
    rw [rounds_succ]
    go_wp2_with fail
    go_ret
    exact ⟨by simp, ⟨A, c, rfl, fun h => (by omega)⟩, rfl, fun _ _ => rfl, Below.refl _ _⟩
  · rcases h.2 with ⟨_, e⟩ | ⟨g, cap, cur, rfl, hb, hg, hc1, hc2, hc3, _⟩
    · omega
    · have HS : Hid (MarkRel w base g n k 0 w) := Lib.hid ⟨cur, hg, by omega, OnlyAt.refl _ _, hb, rfl, fun i hi => (by omega)⟩
      clear h hg hc3
      go_enter Try.func46, Try.ntmps46
      go_wp2_with fail
      go_loopw [1, 5] (fun kv i wr => ∃ j : Nat, j ≤ n ∧ i = .int .i64 j ∧ kv = .int .i64 (k + 3 * j) ∧ MarkRel w base g n k j wr) (fun _ i _ => n - (intOf i).toNat)
      case atStart => exact ⟨0, Nat.zero_le _, rfl, by simp, HS.out⟩
      case round =>
        obtain ⟨j, hj, rfl, rfl, hrel⟩ := hrel
        have hj1 : (j : Int) ≤ 1000000 := by omega
        have HT := Lib.hid hrel
        obtain ⟨cur', hB, hsz, _, _, _, _⟩ := hrel
        by_cases hlt : j < n
        · have hlt' : (j : Int) < n := by omega
          have HN := Lib.hid (markRel_next HT.out hlt)
          have cell_ : ∀ o, o < 3 → ∃ u, wr.cell? ⟨g, j * 3 + o, none⟩ = some u := fun o ho => by
            rw [cell_of_row _ _ _ _ _ _ hB]
            exact ⟨_, Array.getElem?_eq_getElem (by omega)⟩
          obtain ⟨u0, c0⟩ := cell_ 0 (by omega)
          obtain ⟨u1, c1⟩ := cell_ 1 (by omega)
          obtain ⟨u2, c2⟩ := cell_ 2 (by omega)
          simp only [Nat.add_zero] at c0
          have f0 := frozen_of_row wr g (j * 3) _ _ hB
          have f1 := frozen_of_row wr g (j * 3 + 1) _ _ hB
          have f2 := frozen_of_row wr g (j * 3 + 2) _ _ hB
          clear cell_ hB hsz
          obtain ⟨z, hz⟩ : ∃ z : Int, k + 3 * j = z := ⟨_, rfl⟩
          have hz0 : 0 ≤ z := by omega
          have hz1 : z ≤ 1099520000000 := by omega
          rw [hz] at HN ⊢
          have HZ := Lib.hid hz
          clear hz
          have a1 : z + 1 + 1 = z + 2 := by omega
          go_wp2_with fail
          go_roundw
          case rel => exact ⟨j + 1, by omega, by go_num, by have := HZ.out; congr 1; push_cast; omega, HN.out⟩
          case measure => simp [intOf]; omega
        · obtain rfl : j = n := by omega
          clear hB hsz
          go_wp2_with fail
          go_ret
          obtain ⟨cur2, h1, h2, h3, h4, h5, h6⟩ := HT.out
          refine ⟨rfl, ⟨some ⟨g, 0, none⟩, cap, rfl, fun _ => ⟨g, rfl, has_lt h1, fun i hi => ?_⟩⟩, h5, fun b hb' => h3.2 b (fun e => hb' (by simp [Value.ownBlock, e])), h3.1.mono h4⟩
          obtain ⟨a, b, c⟩ := h6 i hi
          exact ⟨(cell_of_row _ _ _ _ _ _ h1).trans a, (cell_of_row _ _ _ _ _ _ h1).trans b, (cell_of_row _ _ _ _ _ _ h1).trans c⟩

set_option maxRecDepth 100000 in
set_option maxHeartbeats 1000000 in
theorem markMatch_any (r : Res) (fr : Int) (cv ev : Value) (base : Nat) (w : World) (h1 : HasRow w base TK 3 cv r.caps.length (capCells r.caps)) (h2 : HasRow w base TK 3 ev r.events.length (capCells r.events)) (ha : cv.ownBlock = none ∨ cv.ownBlock ≠ ev.ownBlock) (hb : base ≤ w.heap.size) (hn : r.caps.length ≤ 1000000) (hm : r.events.length ≤ 1000000) :
    Calls Try.prog 23 #[matchV r fr cv ev, .int .i64 1] w fun e w' => e = .returned (.int .i64 (1 + 3 * r.caps.length + 3 * r.events.length)) ∧ Held w' cv r.caps.length 1 ∧ Held w' ev r.events.length (1 + 3 * r.caps.length) ∧ (∀ b, b < w.heap.size → cv.ownBlock ≠ some b → ev.ownBlock ≠ some b → w'.heap[b]? = w.heap[b]?) ∧ Below base w w' := by
  obtain ⟨cA, cc, rfl, _, _⟩ := h1.form
  obtain ⟨eA, ec, rfl, _, _⟩ := h2.form
  have H1 := Lib.hid h1
  have H2 := Lib.hid h2
  have HA := Lib.hid ha
  clear h1 h2 ha
  have hn1 : (r.caps.length : Int) ≤ 1000000 := by omega
  go_enter Try.func23, Try.ntmps23
  go_wp2_with fail
  have HLA := Lib.hid ((Later.refl w).alloc (Obj.cells #[.bool r.found, .bool r.stopped, .bool r.exhausted, .int .i64 fr, .int .i64 r.at_, .int .i64 r.steps, .slice cA r.caps.length cc, .slice eA r.events.length ec] TR))
  have HB1 := Lib.hid (heap_alloc_new w (Obj.cells #[.bool r.found, .bool r.stopped, .bool r.exhausted, .int .i64 fr, .int .i64 r.at_, .int .i64 r.steps, .slice cA r.caps.length cc, .slice eA r.events.length ec] TR))
  have HC1 := Lib.hid (H1.out.same fun k hk => HLA.out.block k (H1.out.lt k hk).2.1)
  have HC2 := Lib.hid (H2.out.same fun k hk => HLA.out.block k (H2.out.lt k hk).2.1)
  refine (markCaptureS_any _ r.caps.length base _ 1 _ HC1.out (by omega) (by omega) hn).mono ?_
  rintro e w2 ⟨rfl, hh2, hs2, hk2, hb2⟩
  have hr2 := (hk2 w.heap.size (fun e => by have := (H1.out.lt _ e).2.1; omega)).trans HB1.out
  obtain ⟨r0, r1, r2, r3, r4, r5, r6, r7⟩ := cells_r hr2
  have HC3 := Lib.hid (HC2.out.same fun b hb => hk2 b (fun e => by
    rcases HA.out with h | h
    · rw [h] at e; cases e
    · exact h (e.trans hb.symm)))
  have HH2 := Lib.hid hh2
  have HK2 := Lib.hid hk2
  have HS2 := Lib.hid hs2
  have hB2 : Below base w w2 := ((Below.refl _ _).alloc hb _).trans hb2
  clear hh2 hk2 hs2 hb2 hr2
  obtain ⟨z, hz⟩ : ∃ z : Int, 1 + 3 * (r.caps.length : Int) = z := ⟨_, rfl⟩
  have hz0 : 0 ≤ z := by omega
  have hz1 : z ≤ 10000000 := by omega
  rw [hz]
  have HZ := Lib.hid hz
  clear hz
  go_wp2_with fail
  refine (markCaptureS_any _ r.events.length base _ z _ HC3.out hz0 (by omega) hm).mono ?_
  rintro e w3 ⟨rfl, hh3, hs3, hk3, hb3⟩
  have hB3 : Below base w w3 := hB2.trans hb3
  have HH3 := Lib.hid hh3
  have HH4 := Lib.hid (HH2.out.same (by omega) (fun b hb => hk3 b (fun e => by
    rcases HA.out with h | h
    · rw [h] at hb; cases hb
    · exact h (hb.trans e.symm))))
  have HK3 := Lib.hid hk3
  clear hh3 hk3 hs3 hb3
  go_wp2_with fail
  go_ret
  obtain rfl := HZ.out
  exact ⟨rfl, HH4.out, HH3.out, fun b hlt h1 h2 => ((HK3.out b h2).trans (HK2.out b h1)).trans (HLA.out.block b hlt), hB3⟩

set_option maxRecDepth 100000 in
set_option maxHeartbeats 1000000 in
theorem heldMatch_any (r : Res) (fr : Int) (cv ev : Value) (w : World) (h1 : Held w cv r.caps.length 1) (h2 : Held w ev r.events.length (1 + 3 * r.caps.length)) (hn : r.caps.length ≤ 1000000) (hm : r.events.length ≤ 1000000) :
    Calls Try.prog 24 #[matchV r fr cv ev, .int .i64 1] w fun e w' => e = .returned (.int .i64 (1 + 3 * r.caps.length + 3 * r.events.length)) ∧ Below w.heap.size w w' := by
  obtain ⟨cA, cc, rfl, _⟩ := id h1
  obtain ⟨eA, ec, rfl, _⟩ := id h2
  have H1 := Lib.hid h1
  have H2 := Lib.hid h2
  clear h1 h2
  have hn1 : (r.caps.length : Int) ≤ 1000000 := by omega
  have hm1 : (r.events.length : Int) ≤ 1000000 := by omega
  obtain ⟨z, hz⟩ : ∃ z : Int, 1 + 3 * (r.caps.length : Int) = z := ⟨_, rfl⟩
  have hz0 : 0 ≤ z := by omega
  have hz1 : z ≤ 10000000 := by omega
  have tz : decide (z < 0) = false := by simp; omega
  rw [hz] at H2 ⊢
  have HZ := Lib.hid hz
  clear hz
  go_enter Try.func24, Try.ntmps24
  go_wp2_with fail
  refine (heldCaptureS_any _ r.caps.length 1 _ (H1.out.later ((Later.refl w).alloc _)) (by omega) (by omega) hn).mono ?_
  rw [HZ.out]
  rintro e w2 ⟨rfl, rfl⟩
  go_wp2_with fail
  refine (heldCaptureS_any _ r.events.length z _ (H2.out.later ((Later.refl w).alloc _)) hz0 (by omega) hm).mono ?_
  rintro e w3 ⟨rfl, rfl⟩
  obtain ⟨y, hy⟩ : ∃ y : Int, z + 3 * (r.events.length : Int) = y := ⟨_, rfl⟩
  have ty : decide (y < 0) = false := by simp; omega
  rw [hy]
  have HY := Lib.hid hy
  clear hy
  go_wp2_with fail
  go_ret
  exact ⟨ret_int HY.out.symm, (Below.refl _ _).alloc (Nat.le_refl _) _⟩

end Go.Proofs.Ytndefbecoahfhaa

/- markText, markPatternS, markPattern: they write into patterns' own cells alone. -/
namespace Go.Proofs.Ytndefbecoahfhaa
open Go.RowKit

theorem one_conv (x : Int) (h0 : 0 ≤ x) (h1 : x < 256) (w : World) : ∃ s : ByteArray, s.size = 1 ∧ (convert 22 9 (.slice (some ⟨w.heap.size, 0, none⟩) 1 1)).run Try.prog (w.alloc (.cells #[.int .u8 x] 5)) = .ok (.string s) (w.alloc (.cells #[.int .u8 x] 5)) := by
  have hx : (((UInt8.ofNat x.toNat).toNat : Nat) : Int) = x := by
    rw [UInt8.toNat_ofNat', Nat.mod_eq_of_lt (by omega)]; omega
  refine ⟨⟨[UInt8.ofNat x.toNat].toArray⟩, rfl, ?_⟩
  exact run_convert_bytes_back (w.alloc (.cells #[.int .u8 x] 5)) 22 9 5 ⟨w.heap.size, 0, none⟩ 1 [UInt8.ofNat x.toNat] Try.underlying22 Try.underlying5 Try.underlying9 (fun j hj => by
    obtain rfl : j = 0 := by simp at hj; omega
    simp [Addr.add]
    omega)

set_option maxRecDepth 100000 in
set_option maxHeartbeats 1000000 in
theorem markText_any (k : Int) (w : World) (hk : 1 ≤ k) (hk1 : k ≤ 1099511627776) :
    Calls Try.prog 45 #[.int .i64 k] w fun e w' => (∃ t, e = .returned (.string t)) ∧ Below w.heap.size w w' := by
  have t1 : decide (k ≤ 0) = false := by simp; omega
  go_enter Try.func45, Try.ntmps45
  go_wp2_with fail
  go_loopw [0, 3] (fun kv out wr => ∃ (z : Int) (t : ByteArray), kv = .int .i64 z ∧ out = .string t ∧ 0 ≤ z ∧ (t.size : Int) + z ≤ k ∧ Below w.heap.size w wr) (fun kv _ _ => (intOf kv).toNat)
  case atStart => exact ⟨k, ⟨#[]⟩, rfl, rfl, by omega, by show ((0 : Nat) : Int) + k ≤ k; omega, Below.refl _ _⟩
  case round =>
    obtain ⟨z, t, rfl, rfl, hz, ht, hbel⟩ := hrel
    have hsz := hbel.size
    by_cases hlt : 0 < z
    · obtain ⟨s, hs, hcv⟩ := one_conv (48 + z % 10) (by omega) (by omega) wr
      have HS := Lib.hid hs
      have hcat : ¬ (9223372036854775807 : Int) < (s.size : Int) + (t.size : Int) := by omega
      clear hs
      go_wp2_with fail
      go_roundw
      case rel => exact ⟨z / 10, s ++ t, rfl, rfl, by omega, by rw [ByteArray.size_append, HS.out]; omega, hbel.alloc hsz _⟩
      case measure => simp [intOf]; omega
    · have hcat : ¬ (9223372036854775807 : Int) < 1 + (t.size : Int) := by omega
      go_wp2_with fail
      go_ret
      exact ⟨⟨_, rfl⟩, hbel⟩

/-! ### Marked patterns -/
structure Marked (base top : Nat) (w x : World) : Prop where
  below : Below base w x
  keep : ∀ T, TP ≠ T → KeepT T w x
  pats : ∀ (g : Nat) (cur : Array Value), w.heap[g]? = some (.cells cur TP (0, 0)) → ∃ cur' : Array Value, x.heap[g]? = some (.cells cur' TP (0, 0)) ∧ cur'.size = cur.size ∧ ∀ i : Nat, cur'[i * 6 + 5]? = cur[i * 6 + 5]?
  size : w.heap.size ≤ x.heap.size
  rest : ∀ b, top ≤ b → b < w.heap.size → x.heap[b]? = w.heap[b]?
theorem Marked.refl (base top : Nat) (w : World) : Marked base top w w := ⟨Below.refl _ _, fun _ _ => KeepT.refl _ _, fun _ cur h => ⟨cur, h, rfl, fun _ => rfl⟩, Nat.le_refl _, fun _ _ _ => rfl⟩
theorem Marked.trans {base top : Nat} {a b c : World} (h : Marked base top a b) (k : Marked base top b c) : Marked base top a c :=
  ⟨h.below.trans k.below, fun T hT => (h.keep T hT).trans (k.keep T hT), fun g cur hg => by
    obtain ⟨c1, e1, s1, f1⟩ := h.pats g cur hg
    obtain ⟨c2, e2, s2, f2⟩ := k.pats g c1 e1
    exact ⟨c2, e2, by omega, fun i => (f2 i).trans (f1 i)⟩, Nat.le_trans h.size k.size, fun b ht hb => (k.rest b ht (Nat.lt_of_lt_of_le hb h.size)).trans (h.rest b ht hb)⟩
theorem Marked.later {base top : Nat} {w x : World} (hl : Later w x) (hb : base ≤ w.heap.size) : Marked base top w x :=
  ⟨Below.mono hl hb, fun _ _ => KeepT.later hl, fun _ cur hg => ⟨cur, hl.has hg, rfl, fun _ => rfl⟩, hl.size, fun b _ hb => hl.block b hb⟩
theorem Marked.set {base top : Nat} {w : World} {g o : Nat} {cur : Array Value} (hg : w.heap[g]? = some (.cells cur TP (0, 0))) (hb : base ≤ g) (ht : g < top) (ho : o % 6 ≠ 5) (u : Value) : Marked base top w (w.setCell ⟨g, o, none⟩ u) :=
  ⟨(Below.refl _ _).setCell hb u, fun _ hT => KeepT.set (a := ⟨g, o, none⟩) hg hT u, fun g' cur' hg' => by
    by_cases e : g' = g
    · subst e
      rw [hg] at hg'
      cases hg'
      exact ⟨_, heap_set_own hg u, by simp, fun i => by rw [Array.getElem?_setIfInBounds_ne (by omega)]⟩
    · exact ⟨cur', heap_set_other hg' e, rfl, fun _ => rfl⟩, by simp, fun b hb _ => Below.heap_setCell _ _ _ _ (by show b ≠ g; omega)⟩

mutual
/-- The value kv is a slice of as many patterns as p has kids, from base on. -/
def SKids (base top : Nat) (w : World) : Pat → Value → Prop
  | .mk _ _ _ _ _ kids, kv => ∃ A c, kv = .slice A kids.length c ∧ kids.length ≤ c ∧ SRow base top w A 0 kids
def SRow (base top : Nat) (w : World) (A : Option Addr) : Nat → List Pat → Prop
  | _, [] => True
  | j, p :: ps => (∃ (g : Nat) (kv : Value) (cur : Array Value), A = some ⟨g, 0, none⟩ ∧ base ≤ g ∧ g < top ∧ w.heap[g]? = some (.cells cur TP (0, 0)) ∧ j * 6 + 5 < cur.size ∧ cur[j * 6 + 5]? = some kv ∧ SKids base top w p kv) ∧ SRow base top w A (j + 1) ps
end
mutual
theorem SKids.of {base : Nat} {w : World} : ∀ (p : Pat) (kv : Value), KidsB base w p kv → SKids base w.heap.size w p kv
  | .mk _ _ _ _ _ kids, kv, h => by
    simp only [KidsB] at h
    simp only [SKids]
    obtain ⟨A, c, e, hc, hr⟩ := h
    exact ⟨A, c, e, hc, SRow.of A 0 kids hr⟩
theorem SRow.of {base : Nat} {w : World} (A : Option Addr) : ∀ (j : Nat) (ps : List Pat), RowB base w A j ps → SRow base w.heap.size w A j ps
  | _, [], _ => by simp only [SRow]
  | j, p :: ps, h => by
    simp only [RowB] at h
    simp only [SRow]
    obtain ⟨⟨g, kv, cur, e, hb, hg, he, hk⟩, hr⟩ := h
    have h5 := (cell_of_row _ _ _ _ _ _ hg).symm.trans he.2.2.2.2.2
    exact ⟨⟨g, kv, cur, e, hb, has_lt hg, hg, (Array.getElem?_eq_some_iff.1 h5).1, h5, SKids.of p kv hk⟩, SRow.of A (j + 1) ps hr⟩
end
mutual
theorem SKids.marked {base top base' top' : Nat} {w x : World} (hm : Marked base' top' w x) : ∀ (p : Pat) (kv : Value), SKids base top w p kv → SKids base top x p kv
  | .mk _ _ _ _ _ kids, kv, h => by
    simp only [SKids] at h ⊢
    obtain ⟨A, c, e, hc, hr⟩ := h
    exact ⟨A, c, e, hc, SRow.marked hm A 0 kids hr⟩
theorem SRow.marked {base top base' top' : Nat} {w x : World} (hm : Marked base' top' w x) (A : Option Addr) : ∀ (j : Nat) (ps : List Pat), SRow base top w A j ps → SRow base top x A j ps
  | _, [], _ => by simp only [SRow]
  | j, p :: ps, h => by
    simp only [SRow] at h ⊢
    obtain ⟨⟨g, kv, cur, e, hb, ht, hg, hs, h5, hk⟩, hr⟩ := h
    obtain ⟨c', e', s', f'⟩ := hm.pats g cur hg
    exact ⟨⟨g, kv, c', e, hb, ht, e', by omega, (f' j).trans h5, SKids.marked hm p kv hk⟩, SRow.marked hm A (j + 1) ps hr⟩
end
theorem SRow.at_ {base top : Nat} {w : World} {A : Option Addr} : ∀ (ps : List Pat) (j i : Nat) (hi : i < ps.length), SRow base top w A j ps → ∃ (g : Nat) (kv : Value) (cur : Array Value), A = some ⟨g, 0, none⟩ ∧ base ≤ g ∧ g < top ∧ w.heap[g]? = some (.cells cur TP (0, 0)) ∧ (j + i) * 6 + 5 < cur.size ∧ cur[(j + i) * 6 + 5]? = some kv ∧ SKids base top w ps[i] kv
  | [], _, i, hi, _ => by simp at hi
  | p :: ps, j, 0, _, h => by
    simp only [SRow] at h
    exact h.1
  | p :: ps, j, i + 1, hi, h => by
    simp only [SRow] at h
    have := SRow.at_ ps (j + 1) i (by simpa using hi) h.2
    rw [show j + 1 + i = j + (i + 1) by omega] at this
    simpa using this
theorem SKids.form {base top : Nat} {w : World} {p : Pat} {kv : Value} (h : SKids base top w p kv) : ∃ A c, kv = .slice A p.kids.length c ∧ p.kids.length ≤ c ∧ SRow base top w A 0 p.kids := by
  obtain ⟨op, text, num, lo, hi, kids⟩ := p
  simp only [SKids] at h
  exact h

set_option maxRecDepth 100000 in
set_option maxHeartbeats 1000000 in
theorem markS_any (base top : Nat) (k : Nat) : ∀ (ps : List Pat) (A : Option Addr) (c : Nat) (w : World) (z : Int), countAll ps ≤ k → k ≤ 2097152 → 1 ≤ z → z + 5 * countAll ps ≤ 1000000000 → base ≤ w.heap.size → SRow base top w A 0 ps →
    Calls Try.prog 21 #[.slice A ps.length c, .int .i64 z] w fun e w' => e = .returned (.int .i64 (z + 5 * countAll ps)) ∧ Marked base top w w' := by
  induction k with
  | zero =>
    intro ps A c w z hc _ _ _ _ _
    have h0 := countAll_len ps
    obtain rfl : ps = [] := List.eq_nil_of_length_eq_zero (by omega)
    go_enter Try.func21, Try.ntmps21
    go_wp2_with fail
    refine wp_loop_rounds 1 ?_
    rw [rounds_succ]
    go_wp2_with fail
    go_ret
    exact ⟨by simp [countAll], Marked.refl _ _ _⟩
  | succ k ih =>
    intro ps A c w z hcnt hk hz hzb hbase hrow
    have hlen : ps.length ≤ 2097152 := by have h2 := countAll_len ps; omega
    have hlen1 : (ps.length : Int) ≤ 2097152 := by omega
    have IH := Lib.hid ih
    have HR := Lib.hid hrow
    have HC := Lib.hid hcnt
    have HZB := Lib.hid hzb
    clear ih hrow hcnt hzb
    go_enter Try.func21, Try.ntmps21
    go_wp2_with fail
    go_loopw [1, 5] (fun kv i wr => ∃ j : Nat, j ≤ ps.length ∧ i = .int .i64 j ∧ kv = .int .i64 (z + 5 * countAll (ps.take j)) ∧ Marked base top w wr) (fun _ i _ => ps.length - (intOf i).toNat)
    case atStart => exact ⟨0, Nat.zero_le _, rfl, by simp [countAll], Marked.refl _ _ _⟩
    case round =>
      obtain ⟨j, hj, rfl, rfl, hm⟩ := hrel
      have HM := Lib.hid hm
      clear hm
      have hle := countAll_take_le ps j
      obtain ⟨y, hy⟩ : ∃ y : Int, z + 5 * countAll (ps.take j) = y := ⟨_, rfl⟩
      have hy1 : 1 ≤ y := by omega
      have hy2 : y ≤ 1000000000 := by have := HZB.out; omega
      rw [hy]
      have HY := Lib.hid hy
      clear hy hle
      by_cases hlt : j < ps.length
      · have hlt' : (j : Int) < ps.length := by omega
        have hr1 := SRow.marked HM.out A 0 ps HR.out
        obtain ⟨g, kv, cur, rfl, hbg, htg, hg, hs5, h5, hkid⟩ := SRow.at_ ps 0 j hlt hr1
        simp only [Nat.zero_add] at hs5 h5
        have cell_ : ∀ o, o < 6 → ∃ u, wr.cell? ⟨g, j * 6 + o, none⟩ = some u := fun o ho => by
          rw [cell_of_row _ _ _ _ _ _ hg]
          exact ⟨_, Array.getElem?_eq_getElem (by omega)⟩
        obtain ⟨u0, c0⟩ := cell_ 0 (by omega)
        simp only [Nat.add_zero] at c0
        have f0 := frozen_of_row wr g (j * 6) _ _ hg
        have HM1 := Lib.hid (Marked.set (o := j * 6) hg hbg htg (by omega) (.int .i64 y))
        have hbw := Nat.le_trans hbase HM.out.size
        have HG := Lib.hid hg
        have HK := Lib.hid hkid
        have HS5 := Lib.hid hs5
        have H5 := Lib.hid h5
        clear hr1 cell_ hkid hg hs5 h5
        have e1 : y + 1 + 1 = y + 2 := by omega
        have e2 : y + 2 + 1 = y + 3 := by omega
        have e3 : y + 3 + 1 = y + 4 := by omega
        have e4 : y + 4 + 1 = y + 5 := by omega
        go_wp2_with fail
        clear c0 f0
        refine (markText_any (y + 1) _ (by omega) (by omega)).mono ?_
        rintro e w2 ⟨⟨t, rfl⟩, hb2⟩
        have HM2 := Lib.hid (HM1.out.trans (Marked.later hb2 (by simpa using hbw)))
        clear hb2
        obtain ⟨cur2, hg2, hs2, h52⟩ := HM2.out.pats g cur HG.out
        have hsz2 : j * 6 + 5 < cur2.size := by have := HS5.out; omega
        have cell_ : ∀ o, o < 6 → ∃ u, w2.cell? ⟨g, j * 6 + o, none⟩ = some u := fun o ho => by
          rw [cell_of_row _ _ _ _ _ _ hg2]
          exact ⟨_, Array.getElem?_eq_getElem (by omega)⟩
        obtain ⟨u1, c1⟩ := cell_ 1 (by omega)
        obtain ⟨u2, c2⟩ := cell_ 2 (by omega)
        obtain ⟨u3, c3⟩ := cell_ 3 (by omega)
        obtain ⟨u4, c4⟩ := cell_ 4 (by omega)
        obtain ⟨kA, kc, rfl, _, hrk⟩ := HK.out.form
        have c5 : w2.cell? ⟨g, j * 6 + 5, none⟩ = some (.slice kA ps[j].kids.length kc) := (cell_of_row _ _ _ _ _ _ hg2).trans ((h52 j).trans H5.out)
        have f1 := frozen_of_row w2 g (j * 6 + 1) _ _ hg2
        have f2 := frozen_of_row w2 g (j * 6 + 2) _ _ hg2
        have f3 := frozen_of_row w2 g (j * 6 + 3) _ _ hg2
        have f4 := frozen_of_row w2 g (j * 6 + 4) _ _ hg2
        have s1 := Marked.set (base := base) (o := j * 6 + 1) hg2 hbg htg (by omega) (.string t)
        obtain ⟨d1, hd1, _, _⟩ := s1.pats g cur2 hg2
        have s2 := Marked.set (base := base) (o := j * 6 + 2) hd1 hbg htg (by omega) (.int .i64 (y + 2))
        obtain ⟨d2, hd2, _, _⟩ := s2.pats g d1 hd1
        have s3 := Marked.set (base := base) (o := j * 6 + 3) hd2 hbg htg (by omega) (.int .i64 (y + 3))
        obtain ⟨d3, hd3, _, _⟩ := s3.pats g d2 hd2
        have s4 := Marked.set (base := base) (o := j * 6 + 4) hd3 hbg htg (by omega) (.int .i64 (y + 4))
        have HM3 := Lib.hid (HM2.out.trans (((s1.trans s2).trans s3).trans s4))
        have HRK := Lib.hid (SRow.marked HM3.out kA 0 _ hrk)
        have HCK := Lib.hid (count_eq ps[j])
        have HCT := Lib.hid (countAll_take_succ ps j hlt)
        have HCL := Lib.hid (countAll_take_le ps (j + 1))
        clear cell_ hg2 hs2 h52 hsz2 hrk s1 s2 s3 s4 hd1 hd2 hd3
        go_wp2_with fail
        clear c1 c2 c3 c4 c5 f1 f2 f3 f4
        refine (IH.out ps[j].kids kA kc _ (y + 5) (by have := HCK.out; have := HCT.out; have := HCL.out; have := HC.out; omega) (by omega) (by omega) (by have := HCK.out; have := HCT.out; have := HCL.out; have := HZB.out; have := HY.out; omega) (Nat.le_trans hbw HM3.out.size) HRK.out).mono ?_
        rintro e w5 ⟨rfl, hm5⟩
        have HM5 := Lib.hid ((HM.out.trans HM3.out).trans hm5)
        clear hm5
        go_wp2_with fail
        go_roundw
        case rel => exact ⟨j + 1, by omega, by go_num, by have := HCK.out; have := HCT.out; have := HY.out; congr 1; omega, HM5.out⟩
        case measure => simp [intOf]; omega
      · obtain rfl : j = ps.length := by omega
        go_wp2_with fail
        go_ret
        refine ⟨ret_int ?_, HM.out⟩
        have := HY.out
        rw [List.take_length] at this
        exact this.symm

set_option maxRecDepth 100000 in
set_option maxHeartbeats 1000000 in
theorem mark_any (base top : Nat) (p : Pat) (kv : Value) (w : World) (z : Int) (hc : count p ≤ 2097152) (hz : 1 ≤ z) (hzb : z + 5 * count p ≤ 1000000000) (hbase : base ≤ w.heap.size) (hk : SKids base top w p kv) :
    Calls Try.prog 22 #[p.v kv, .int .i64 z] w fun e w' => e = .returned (.int .i64 (z + 5 * countAll p.kids)) ∧ Marked base top w w' := by
  obtain ⟨A, c, rfl, _, hrow⟩ := hk.form
  have HE := Lib.hid (count_eq p)
  have HR := Lib.hid hrow
  have HC := Lib.hid hc
  clear hk hrow hc
  go_enter Try.func22, Try.ntmps22
  go_wp2_with fail
  have HML := Lib.hid (Marked.later (base := base) (top := top) ((Later.refl w).alloc (Obj.cells #[.int .i64 p.op, .string p.text, .int .i64 p.num, .int .i64 p.lo, .int .i64 p.hi, .slice A p.kids.length c] TP)) hbase)
  refine (markS_any base top (countAll p.kids) p.kids A c _ z (Nat.le_refl _) (by have := HE.out; have := HC.out; omega) hz (by have := HE.out; omega) (Nat.le_trans hbase HML.out.size) (SRow.marked HML.out A 0 _ HR.out)).mono ?_
  rintro e w2 ⟨rfl, hm⟩
  have HM := Lib.hid (HML.out.trans hm)
  clear hm
  go_wp2_with fail
  go_ret
  exact ⟨rfl, HM.out⟩

end Go.Proofs.Ytndefbecoahfhaa

/- The walk of a drawn region, where either of two operations may come next. -/
namespace Go.Proofs.Ytndefbecoahfhaa
open Go.RowKit

section
variable {P : Program} {ops : Array Oper} {Q : Exit → Act → World → Prop}
/-- One operation of those that may come next, taken now. -/
theorem wpU_now {i : Nat} {L U : List Nat} {o : Oper} {fuel : Nat} {listed : Array Bool} {a : Act} {w : World} (hu : U.contains i = false) (ho : ops[i]? = some o)
    (h : wpList P ops (StepQ Q w (fun a' w' => wpU P ops Q L U fuel (listed.setIfInBounds i true) a' w')) [o] a w) :
    wpOp P ops Q i (fun a' w' => ((tlOf L U i = false → Later w w') ∧ (puOf U i = true → w' = w)) ∧ wpAnyU P .any ops Q (tlOf L U) (puOf U) (Later w) fuel (listed.setIfInBounds i true) a' w') a w := by
  unfold wpList at h
  unfold wpOp
  rw [ho]
  have hK : ∀ a' w', wpList P ops (StepQ Q w (fun a' w' => wpU P ops Q L U fuel (listed.setIfInBounds i true) a' w')) [] a' w' →
      (((tlOf L U i = false → Later w w') ∧ (puOf U i = true → w' = w)) ∧ wpAnyU P .any ops Q (tlOf L U) (puOf U) (Later w) fuel (listed.setIfInBounds i true) a' w') := fun a' w' h' =>
    ⟨⟨fun _ => h'.1, fun h0 => (by unfold puOf at h0; rw [hu] at h0; cases h0)⟩, wpAnyU_mono (fun x hx => h'.1.trans hx) _ _ _ _ h'.2⟩
  have hup : o.wp P a w (wpList P ops (StepQ Q w (fun a' w' => wpU P ops Q L U fuel (listed.setIfInBounds i true) a' w')) []) (StepQ Q w (fun a' w' => wpU P ops Q L U fuel (listed.setIfInBounds i true) a' w')) →
      o.wp P a w (wpList P ops (StepQ Q w (fun a' w' => wpU P ops Q L U fuel (listed.setIfInBounds i true) a' w')) []) Q := fun h' => by
    unfold Oper.wp at *
    generalize (execOp a.eval o).run P w = r at *
    cases r with
    | ok n w' => cases n <;> exact h'
    | halt x w' => cases x <;> exact h'
  show if Region.wanted o (yielded ops a.tmps) = true then _ else _
  split
  · rename_i hw
    rw [if_pos hw] at h
    rcases h with h | ⟨h1, h2⟩
    · exact .inl (Oper.wp_mono hK (hup h))
    · exact .inr ⟨h1, h2⟩
  · rename_i hw
    rw [if_neg hw] at h
    exact hK _ _ h
/-- Either of two comes next. -/
theorem wpU_two (i j : Nat) {L U : List Nat} {oi oj : Oper} {fuel : Nat} {listed : Array Bool} {a : Act} {w : World} (hr : Region.ready .any ops listed = [i, j]) (hui : U.contains i = false) (huj : U.contains j = false) (hoi : ops[i]? = some oi) (hoj : ops[j]? = some oj)
    (h1 : wpList P ops (StepQ Q w (fun a' w' => wpU P ops Q L U fuel (listed.setIfInBounds i true) a' w')) [oi] a w)
    (h2 : wpList P ops (StepQ Q w (fun a' w' => wpU P ops Q L U fuel (listed.setIfInBounds j true) a' w')) [oj] a w) : wpU P ops Q L U (fuel + 1) listed a w := by
  refine ⟨fun h0 => (by rw [hr] at h0; cases h0), fun k hk => ?_⟩
  rw [hr] at hk
  simp only [List.mem_cons, List.not_mem_nil, or_false] at hk
  rcases hk with rfl | rfl
  · exact wpU_now hui hoi h1
  · exact wpU_now huj hoj h2
end
end Go.Proofs.Ytndefbecoahfhaa

/- What the laws' walks are said with. No walk in sight. -/
namespace Go.Proofs.Ytndefbecoahfhaa
open Go.RowKit

/-! ### How long an answer can be -/
theorem play_len {defs : List Pat} {s : ByteArray} (hd : DefsOk defs) (hs : s.size ≤ 120) : ∀ (k n : Nat) (gs : List Goal) (m : Mst), Ok defs s n gs m → (play defs s k n gs m).caps.length ≤ n + k ∧ (play defs s k n gs m).events.length ≤ n + k
  | k, n, [], m, h => by
    rw [play_nil]
    have h1 := h.ncap
    have h2 := h.nev
    exact ⟨by show m.caps.length ≤ _; omega, by show m.events.length ≤ _; omega⟩
  | 0, n, g :: gs, m, h => by
    rw [play_zero]
    have h2 := h.nev
    exact ⟨Nat.zero_le _, by show m.events.length ≤ _; omega⟩
  | k + 1, n, g :: gs, m, h => by
    have h2 := h.nev
    cases hst : step defs s g gs m with
    | go gs' m' =>
      rw [play_go hst]
      have := play_len hd hs k (n + 1) gs' m' (step_ok hd hs h hst)
      omega
    | stop =>
      rw [play_stop hst]
      exact ⟨Nat.zero_le _, by show m.events.length ≤ _; omega⟩
    | fail =>
      rcases List.eq_nil_or_concat m.choices with hc | ⟨cs, c, hc⟩
      · rw [play_none hst hc]
        exact ⟨Nat.zero_le _, by show m.events.length ≤ _; omega⟩
      · rw [List.concat_eq_append] at hc
        rw [play_last hst hc]
        by_cases hst' : c.stop = true
        · rw [if_pos hst']
          exact ⟨Nat.zero_le _, by show m.events.length ≤ _; omega⟩
        · rw [if_neg hst']
          have := play_len hd hs k (n + 1) c.goals _ (h.pop hc)
          omega
theorem matchRes_len {defs : List Pat} {p : Pat} {s : ByteArray} {fr fuel : Int} (hs : Smalls defs) (hp : Small p) : (matchRes defs p s fr fuel).caps.length ≤ 4000 ∧ (matchRes defs p s fr fuel).events.length ≤ 4000 := by
  unfold matchRes
  cases ha : answers defs p s fr fuel with
  | false => exact ⟨Nat.zero_le _, Nat.zero_le _⟩
  | true =>
    obtain ⟨h1, h2, h3, h4, h5, h6⟩ := answers_parts ha
    obtain ⟨hd, hv⟩ := validD_defs h1 hs
    have := play_len hd h2 fuel.toNat 0 [⟨0, p, 0⟩] (.start fr.toNat) (ok_start hv hp (by omega))
    exact ⟨by show (play _ _ _ _ _ _).caps.length ≤ _; omega, by show (play _ _ _ _ _ _).events.length ≤ _; omega⟩

/-! ### The helpers at every row -/
theorem szP_mem (ps : List Pat) (j : Nat) (h : j < ps.length) : szP ps[j] ≤ szAll ps := by
  have h1 := szAll_take_succ ps j h
  have h2 := szAll_take_le ps (j + 1)
  omega
theorem szS_any (ps : List Pat) (A : Option Addr) (c : Nat) (w : World) (l : Int) (hl0 : 0 ≤ l) (hl1 : l ≤ 1048576) (hc : ps.length ≤ c) (hcm : c ≤ maxLen) (hr : LRow w A 0 ps) :
    Calls Try.prog 14 #[.slice A ps.length c, .int .i64 l] w fun e w' => e = .returned (.int .i64 (leftOf (ps.length + szAll ps) l)) ∧ Below w.heap.size w w' :=
  szS_of ps A c w l hl0 hl1 hc hcm hr (fun j _ kv x l h0 h1 hk => sz_any (count ps[j]) _ kv x l (Nat.le_refl _) h0 h1 hk)
theorem toS_any (ps : List Pat) (A : Option Addr) (c : Nat) (w : World) (hn : ps.length + szAll ps ≤ 1048576) (hr : LRow w A 0 ps) :
    Calls Try.prog 16 #[.slice A ps.length c] w fun e w' => ∃ A' c', e = .returned (.slice A' ps.length c') ∧ ps.length ≤ c' ∧ RowB w.heap.size w' A' 0 ps ∧ Below w.heap.size w w' :=
  toS_of ps A c w (by omega) hr (fun j h kv x hk => to_any (count ps[j]) _ kv x (Nat.le_refl _) (by have := count_sz ps[j]; have := szP_mem ps j h; omega) hk)
theorem toP_any (p : Pat) (kv : Value) (w : World) (hn : szP p ≤ 1048576) (hk : LKids w p kv) :
    Calls Try.prog 17 #[p.v kv] w fun e w' => ∃ kv', e = .returned (p.v kv') ∧ KidsB w.heap.size w' p kv' ∧ Below w.heap.size w w' :=
  to_any (count p) p kv w (Nat.le_refl _) (by have := count_sz p; omega) hk
theorem eqS_any (ps : List Pat) (A B : Option Addr) (c d : Nat) (w : World) (hn : ps.length + szAll ps ≤ 1048576) (hr : RowIn w A 0 ps) (hq : RowIn w B 0 ps) :
    Calls Try.prog 19 #[.slice A ps.length c, .slice B ps.length d] w fun e w' => e = .returned (.bool true) ∧ Below w.heap.size w w' :=
  eqS_of ps A B c d w (by omega) hr hq (fun j h kv kv' x h1 h2 => eq_any (count ps[j]) _ kv kv' x (Nat.le_refl _) (by have := count_sz ps[j]; have := szP_mem ps j h; omega) h1 h2)
theorem eqP_any (p : Pat) (kv kv' : Value) (w : World) (hn : szP p ≤ 1048576) (h1 : KidsIn w p kv) (h2 : KidsIn w p kv') :
    Calls Try.prog 20 #[p.v kv, p.v kv'] w fun e w' => e = .returned (.bool true) ∧ Below w.heap.size w w' :=
  eq_any (count p) p kv kv' w (Nat.le_refl _) (by have := count_sz p; omega) h1 h2
theorem smalls_of (ps : List Pat) (hn : ps.length + szAll ps ≤ 1048576) : Smalls ps := fun j h => by have := count_sz ps[j]; have := szP_mem ps j h; unfold Small; omega
theorem small_of (p : Pat) (hn : szP p ≤ 1048576) : Small p := by have := count_sz p; unfold Small; omega

/-! ### A match in a variable -/
structure MAt (w : World) (b lo : Nat) (r : Res) (fr : Int) (cv ev : Value) : Prop where
  blk : w.heap[b]? = some (.cells #[.bool r.found, .bool r.stopped, .bool r.exhausted, .int .i64 fr, .int .i64 r.at_, .int .i64 r.steps, cv, ev] TR (0, 0))
  caps : HasRow w lo TK 3 cv r.caps.length (capCells r.caps)
  evs : HasRow w lo TK 3 ev r.events.length (capCells r.events)
  apart : cv.ownBlock = none ∨ cv.ownBlock ≠ ev.ownBlock
section
variable {w x : World} {b lo : Nat} {r : Res} {fr : Int} {cv ev : Value}
theorem row_keep {w x : World} {base : Nat} {e : TypeId} {size : Nat} {v : Value} {n : Nat} {xs : List Value} (h : HasRow w base e size v n xs) (hk : KeepT e w x) : HasRow x base e size v n xs :=
  h.same fun k hb => by obtain ⟨_, _, c, hc⟩ := h.lt k hb; rw [hk k c hc, hc]
theorem MAt.keep (h : MAt w b lo r fr cv ev) (h1 : KeepT TR w x) (h2 : KeepT TK w x) : MAt x b lo r fr cv ev := ⟨h1 b _ h.blk, row_keep h.caps h2, row_keep h.evs h2, h.apart⟩
theorem MAt.later (h : MAt w b lo r fr cv ev) (hl : Later w x) : MAt x b lo r fr cv ev := h.keep (KeepT.later hl) (KeepT.later hl)
theorem MAt.marked {base top : Nat} (h : MAt w b lo r fr cv ev) (hm : Marked base top w x) : MAt x b lo r fr cv ev := h.keep (hm.keep TR (by decide)) (hm.keep TK (by decide))
/-- A match is put into a variable. -/
theorem MAt.made {w0 w : World} (h1 : HasRow w w0.heap.size TK 3 cv r.caps.length (capCells r.caps)) (h2 : HasRow w w0.heap.size TK 3 ev r.events.length (capCells r.events)) (ha : cv.ownBlock = none ∨ cv.ownBlock ≠ ev.ownBlock) :
    MAt (w.alloc (.cells #[.bool r.found, .bool r.stopped, .bool r.exhausted, .int .i64 fr, .int .i64 r.at_, .int .i64 r.steps, cv, ev] TR)) w.heap.size w0.heap.size r fr cv ev :=
  ⟨heap_alloc_new w _, row_keep h1 (KeepT.alloc _ _), row_keep h2 (KeepT.alloc _ _), ha⟩
theorem MAt.stored {w0 w : World} {RB : Nat} (h1 : HasRow w w0.heap.size TK 3 cv r.caps.length (capCells r.caps)) (h2 : HasRow w w0.heap.size TK 3 ev r.events.length (capCells r.events)) (ha : cv.ownBlock = none ∨ cv.ownBlock ≠ ev.ownBlock) (hz : w.heap[RB]? = some (.cells zeroM TR (0, 0))) :
    MAt ((((((((w.setCell ⟨RB, 0, none⟩ (.bool r.found)).setCell ⟨RB, 1, none⟩ (.bool r.stopped)).setCell ⟨RB, 2, none⟩ (.bool r.exhausted)).setCell ⟨RB, 3, none⟩ (.int .i64 fr)).setCell ⟨RB, 4, none⟩ (.int .i64 r.at_)).setCell ⟨RB, 5, none⟩ (.int .i64 r.steps)).setCell ⟨RB, 6, none⟩ cv).setCell ⟨RB, 7, none⟩ ev) RB w0.heap.size r fr cv ev := by
  have h0_ := heap_set_own (o := 0) hz (.bool r.found)
  have o0_ := OnlyAt.set (OnlyAt.refl RB w) 0 (.bool r.found)
  have h1_ := heap_set_own (o := 1) h0_ (.bool r.stopped)
  have o1_ := OnlyAt.set o0_ 1 (.bool r.stopped)
  have h2_ := heap_set_own (o := 2) h1_ (.bool r.exhausted)
  have o2_ := OnlyAt.set o1_ 2 (.bool r.exhausted)
  have h3_ := heap_set_own (o := 3) h2_ (.int .i64 fr)
  have o3_ := OnlyAt.set o2_ 3 (.int .i64 fr)
  have h4_ := heap_set_own (o := 4) h3_ (.int .i64 r.at_)
  have o4_ := OnlyAt.set o3_ 4 (.int .i64 r.at_)
  have h5_ := heap_set_own (o := 5) h4_ (.int .i64 r.steps)
  have o5_ := OnlyAt.set o4_ 5 (.int .i64 r.steps)
  have h6_ := heap_set_own (o := 6) h5_ cv
  have o6_ := OnlyAt.set o5_ 6 cv
  have h7_ := heap_set_own (o := 7) h6_ ev
  have o7_ := OnlyAt.set o6_ 7 ev
  simp only [List.setIfInBounds_toArray, List.set_cons_zero, List.set_cons_succ] at h7_
  exact ⟨h7_, o7_.row h1 hz (by decide), o7_.row h2 hz (by decide), ha⟩
/-- Behind a region that makes a match. -/
def CutM (w : World) (R : Res) (FR : Int) (s : Value) (x : World) : Prop :=
  ∃ B lo cv ev, s = .pointer (some ⟨B, 0, none⟩) ∧ MAt x B lo R FR cv ev ∧ Later w x ∧ w.heap.size ≤ lo
theorem Later.trans_set {w x y : World} {b : Nat} (h : Later w x) (ho : OnlyAt b x y) (hb : w.heap.size ≤ b) : Later w y := Below.trans h (ho.1.mono hb)
/-- The marks of one match leave another alone that was there before. -/
theorem MAt.apart_from {lo' : Nat} {cv' ev' : Value} {r' : Res} {fr' : Int} {b' top : Nat} (h : MAt w b lo r fr cv ev) (h' : MAt w b' lo' r' fr' cv' ev') (hb : b < top) (hcv : ∀ k, cv.ownBlock = some k → k < lo') (hev : ∀ k, ev.ownBlock = some k → k < lo') (hsz : top ≤ w.heap.size)
    (hk : ∀ k, k < w.heap.size → cv'.ownBlock ≠ some k → ev'.ownBlock ≠ some k → x.heap[k]? = w.heap[k]?) : MAt x b lo r fr cv ev := by
  have n1 : ∀ k, k < lo' → cv'.ownBlock ≠ some k := fun k hlt e => by have := (h'.caps.lt k e).1; omega
  have n2 : ∀ k, k < lo' → ev'.ownBlock ≠ some k := fun k hlt e => by have := (h'.evs.lt k e).1; omega
  refine ⟨?_, h.caps.same fun k hk' => hk k (h.caps.lt k hk').2.1 (n1 k (hcv k hk')) (n2 k (hcv k hk')), h.evs.same fun k hk' => hk k (h.evs.lt k hk').2.1 (n1 k (hev k hk')) (n2 k (hev k hk')), h.apart⟩
  rw [hk b (by omega) (row_ne_blk h'.caps h.blk (by decide)) (row_ne_blk h'.evs h.blk (by decide))]
  exact h.blk
end
end Go.Proofs.Ytndefbecoahfhaa
