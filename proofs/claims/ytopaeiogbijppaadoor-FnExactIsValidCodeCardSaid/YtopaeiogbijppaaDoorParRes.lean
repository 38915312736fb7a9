/- More plain facts on reading an instruction. No walk in sight. -/
import Derived.Test.YtopaeiogbijppaaDoorParCut
namespace Go.Proofs.YtopaeiogbijppaaDoor
open Go

/-! ### Numbers -/
theorem numI_some {most : Nat} {s : List UInt8} {n : Nat} (h : numI most s = some n) : n ≤ most := by
  unfold numI at h
  split at h
  · cases h
  · split at h
    · split at h
      · cases h
      · cases h; omega
    · cases h
theorem parI_bound {s : List UInt8} {n : Int} (h : parI s = some n) : -999999999999 ≤ n ∧ n ≤ 999999999999 := by
  unfold parI at h
  split at h
  · cases hn : numI 999999999999 (s.drop 1) with
    | none => rw [hn] at h; cases h
    | some k => rw [hn] at h; cases h; have := numI_some hn; constructor <;> dsimp only <;> omega
  · cases hn : numI 999999999999 s with
    | none => rw [hn] at h; cases h
    | some k => rw [hn] at h; cases h; have := numI_some hn; constructor <;> dsimp only <;> omega
/-- The loop over the digits: what is read so far. -/
theorem val_take (s : List UInt8) (k : Nat) (h : k < s.length) : val (s.take (k + 1)) = val (s.take k) * 10 + (s[k].toNat - 48) := by
  rw [List.take_succ_eq_append_getElem h, val_snoc]
theorem all_take (s : List UInt8) (k : Nat) (h : k < s.length) (ha : (s.take k).all isDig = true) (hk : isDig s[k] = true) : (s.take (k + 1)).all isDig = true := by
  rw [List.take_succ_eq_append_getElem h, List.all_append, ha]; simp [hk]
theorem not_all (s : List UInt8) (k : Nat) (h : k < s.length) (hk : isDig s[k] = false) : s.all isDig = false := by
  cases hb : s.all isDig with
  | false => rfl
  | true => rw [List.all_eq_true] at hb; have := hb s[k] (List.getElem_mem h); rw [hk] at this; cases this
theorem val_take_lt (s : List UInt8) (k : Nat) (hk : k ≤ s.length) (h12 : s.length ≤ 12) (ha : (s.take k).all isDig = true) : val (s.take k) < 1000000000000 := by
  have h1 := val_lt _ ha
  have h2 : (s.take k).length ≤ 12 := by rw [List.length_take]; omega
  have h3 : 10 ^ (s.take k).length ≤ 10 ^ 12 := Nat.pow_le_pow_right (by decide) h2
  omega
/-! ### Quoted texts -/
theorem unq_len (st : Bool) (q : UInt8) : ∀ (n : Nat) (m l : List UInt8), unq st q n m = some l → l.length ≤ m.length
  | 0, m, l, h => by simp [unq] at h
  | n + 1, [], l, h => by simp [unq] at h; subst h; simp
  | n + 1, b :: r, l, h => by
    have ih := fun m l => unq_len st q n m l
    have one : ∀ (x : UInt8) (m : List UInt8), (unq st q n m).map (x :: ·) = some l → l.length ≤ m.length + 1 := fun x m h => by
      cases hm : unq st q n m with
      | none => rw [hm] at h; cases h
      | some l' => rw [hm] at h; cases h; have := ih m l' hm; simp; omega
    simp only [unq] at h
    split at h
    · split at h
      · cases h
      · have := one _ _ h; simpa using this
    · match r, h with
      | [], h => cases h
      | e :: r', h =>
        simp only at h
        split at h
        · have := one _ _ h; simp; omega
        split at h
        · have := one _ _ h; simp; omega
        split at h
        · have := one _ _ h; simp; omega
        split at h
        · match r', h with
          | [], h => cases h
          | [x], h => cases h
          | x :: y :: r'', h =>
            simp only at h
            split at h
            · have := one _ _ h; simp; omega
            · cases h
        · cases h
theorem unqT_len {q : UInt8} {s l : List UInt8} (h : unqT q s = some l) : l.length ≤ s.length := by
  cases s with
  | nil => cases h
  | cons c t =>
    simp only [unqT] at h
    split at h
    · have := unq_len _ _ _ _ _ h
      rw [List.length_dropLast] at this
      simp; omega
    · cases h
/-- One step of the reading, by the bytes ahead (n: more than there are). -/
theorem unq_plain {st : Bool} {q b : UInt8} {n : Nat} {r : List UInt8} (h : b ≠ 92) (hc : (st && (decide (b.toNat < 32) || decide (126 < b.toNat) || b == q)) = false) : unq st q (n + 1) (b :: r) = (unq st q n r).map (b :: ·) := by
  simp only [unq, if_pos h, hc, Bool.false_eq_true, if_false]
theorem unq_bad {st : Bool} {q b : UInt8} {n : Nat} {r : List UInt8} (h : b ≠ 92) (hc : (st && (decide (b.toNat < 32) || decide (126 < b.toNat) || b == q)) = true) : unq st q (n + 1) (b :: r) = none := by
  simp only [unq, if_pos h, hc, if_true]
theorem unq_alone {st : Bool} {q : UInt8} {n : Nat} : unq st q (n + 1) [92] = none := by simp [unq]
theorem unq_n {st : Bool} {q : UInt8} {n : Nat} {r : List UInt8} : unq st q (n + 1) (92 :: 110 :: r) = (unq st q n r).map (10 :: ·) := by simp [unq]
theorem unq_t {st : Bool} {q : UInt8} {n : Nat} {r : List UInt8} : unq st q (n + 1) (92 :: 116 :: r) = (unq st q n r).map (9 :: ·) := by simp [unq]
theorem unq_self {st : Bool} {q e : UInt8} {n : Nat} {r : List UInt8} (h : e = 92 ∨ e = 34 ∨ e = 39) : unq st q (n + 1) (92 :: e :: r) = (unq st q n r).map (e :: ·) := by
  rcases h with rfl | rfl | rfl <;> simp [unq]
theorem unq_hex {st : Bool} {q x y : UInt8} {n : Nat} {r : List UInt8} (h : 0 ≤ hexV x ∧ 0 ≤ hexV y) : unq st q (n + 1) (92 :: 120 :: x :: y :: r) = (unq st q n r).map (hexB x y :: ·) := by simp [unq, h]
theorem unq_nohex {st : Bool} {q x y : UInt8} {n : Nat} {r : List UInt8} (h : ¬ (0 ≤ hexV x ∧ 0 ≤ hexV y)) : unq st q (n + 1) (92 :: 120 :: x :: y :: r) = none := by simp [unq, h]
theorem unq_short {st : Bool} {q : UInt8} {n : Nat} {r : List UInt8} (h : r.length < 2) : unq st q (n + 1) (92 :: 120 :: r) = none := by
  match r, h with
  | [], _ => simp [unq]
  | [x], _ => simp [unq]
theorem unq_other {st : Bool} {q e : UInt8} {n : Nat} {r : List UInt8} (h : ¬ (e = 110 ∨ e = 116 ∨ e = 92 ∨ e = 34 ∨ e = 39 ∨ e = 120)) : unq st q (n + 1) (92 :: e :: r) = none := by
  simp only [not_or] at h
  simp [unq, h]
/-! ### Names -/
/-- The place of a word among names, from 1 on; 0: it is none of them. -/
def placeOf (names : List (List UInt8)) (w : List UInt8) : Nat := if w ∈ names then names.idxOf w + 1 else 0
/-- What is known behind k of the names. -/
def placeIn (names : List (List UInt8)) (w : List UInt8) (k : Nat) : Nat := if w ∈ names.take k then names.idxOf w + 1 else 0
theorem placeIn_zero (names : List (List UInt8)) (w : List UInt8) : placeIn names w 0 = 0 := by simp [placeIn]
theorem placeIn_hit {names : List (List UInt8)} (hn : names.Nodup) {w : List UInt8} {k : Nat} (hk : k < names.length) (h : names[k] = w) : placeIn names w (k + 1) = k + 1 := by
  have h1 : w ∈ names.take (k + 1) := by rw [List.take_succ_eq_append_getElem hk, h]; simp
  rw [placeIn, if_pos h1, ← h, hn.idxOf_getElem]
theorem placeIn_miss {names : List (List UInt8)} {w : List UInt8} {k : Nat} (hk : k < names.length) (h : names[k] ≠ w) : placeIn names w (k + 1) = placeIn names w k := by
  have h1 : w ∈ names.take (k + 1) ↔ w ∈ names.take k := by
    rw [List.take_succ_eq_append_getElem hk, List.mem_append, List.mem_singleton]
    exact ⟨fun h2 => h2.elim id (fun h3 => absurd h3.symm h), .inl⟩
  simp only [placeIn, h1]
theorem placeIn_all (names : List (List UInt8)) (w : List UInt8) : placeIn names w names.length = placeOf names w := by simp [placeIn, placeOf]
/-! ### Cutting -/
/-- The pieces found so far and what is ahead: the text from the last cut on. -/
theorem spl_at {s : List UInt8} {fr i : Nat} (hfi : fr ≤ i) (hi : i < s.length) (hw : ∀ k, fr ≤ k → (h : k < s.length) → k < i → s[k] ≠ 32) (h32 : s[i] = 32) : spl (s.drop fr) = (s.drop fr).take (i - fr) :: spl (s.drop (i + 1)) := by
  have e : s.drop fr = (s.drop fr).take (i - fr) ++ 32 :: s.drop (i + 1) := by
    conv => lhs; rw [← List.take_append_drop (i - fr) (s.drop fr)]
    rw [List.drop_drop, show fr + (i - fr) = i by omega, List.drop_eq_getElem_cons hi, h32]
  have hno : ∀ c ∈ (s.drop fr).take (i - fr), c ≠ 32 := fun c hc => by
    obtain ⟨k, hk, rfl⟩ := List.getElem_of_mem hc
    rw [List.length_take, List.length_drop] at hk
    rw [List.getElem_take, List.getElem_drop]
    exact hw (fr + k) (by omega) (by omega) (by omega)
  conv => lhs; rw [e]
  exact spl_word _ _ hno
theorem spl_end {s : List UInt8} {fr : Nat} (hw : ∀ k, fr ≤ k → (h : k < s.length) → s[k] ≠ 32) : spl (s.drop fr) = [s.drop fr] := by
  refine spl_last _ fun c hc => ?_
  obtain ⟨k, hk, rfl⟩ := List.getElem_of_mem hc
  rw [List.length_drop] at hk
  rw [List.getElem_drop]
  exact hw (fr + k) (by omega) (by omega)
end Go.Proofs.YtopaeiogbijppaaDoor
