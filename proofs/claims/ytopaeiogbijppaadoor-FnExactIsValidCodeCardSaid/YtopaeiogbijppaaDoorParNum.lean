/- Reading an integer as a plain function: two ways, one answer. No walk in sight. -/
import Derived.Test.YtopaeiogbijppaaDoorBytes
namespace Go.Proofs.YtopaeiogbijppaaDoor
open Go

theorem snoc_rec {P : List UInt8 → Prop} (nil : P []) (append_singleton : ∀ l c, P l → P (l ++ [c])) : ∀ l, P l := fun l => by
  have h : ∀ r : List UInt8, P r.reverse := fun r => by
    induction r with
    | nil => exact nil
    | cons c r ih => rw [List.reverse_cons]; exact append_singleton _ _ ih
  have := h l.reverse
  rwa [List.reverse_reverse] at this
def isDig (c : UInt8) : Bool := decide (48 ≤ c.toNat) && decide (c.toNat ≤ 57)
/-- The number that digits say. -/
def val (l : List UInt8) : Nat := l.foldl (fun n c => n * 10 + (c.toNat - 48)) 0
theorem val_snoc (l : List UInt8) (c : UInt8) : val (l ++ [c]) = val l * 10 + (c.toNat - 48) := by simp [val]
theorem val_nil : val [] = 0 := rfl
theorem val_lt : ∀ (l : List UInt8), l.all isDig = true → val l < 10 ^ l.length := by
  intro l
  induction l using snoc_rec with
  | nil => intro _; simp [val]
  | append_singleton l c ih =>
    intro h
    simp only [List.all_append, List.all_cons, List.all_nil, Bool.and_true, Bool.and_eq_true] at h
    have := ih h.1
    have hc := h.2
    simp only [isDig, Bool.and_eq_true, decide_eq_true_eq] at hc
    rw [val_snoc, List.length_append, List.length_singleton, Nat.pow_succ]
    omega
theorem val_cons_zero (l : List UInt8) : val (48 :: l) = val l := by simp [val]
theorem val_pos : ∀ (l : List UInt8) (c : UInt8), isDig c = true → c ≠ 48 → 0 < val (c :: l) := by
  intro l
  induction l using snoc_rec with
  | nil =>
    intro c hc h
    simp only [isDig, Bool.and_eq_true, decide_eq_true_eq] at hc
    have : c.toNat ≠ 48 := fun e => h (UInt8.toNat_inj.1 (by simpa using e))
    simp [val]
    omega
  | append_singleton l d ih =>
    intro c hc h
    rw [← List.cons_append, val_snoc]
    have := ih c hc h
    omega
/-- Digits that do not begin with 0 are the numeral of their number. -/
theorem dg_val : ∀ (l : List UInt8) (c : UInt8), isDig c = true → c ≠ 48 → l.all isDig = true → dg (val (c :: l)) = c :: l := by
  intro l
  induction l using snoc_rec with
  | nil =>
    intro c hc h _
    have hp := val_pos [] c hc h
    simp only [isDig, Bool.and_eq_true, decide_eq_true_eq] at hc
    have hv : val [c] = c.toNat - 48 := by simp [val]
    rw [dg_step _ (by omega), hv, show (c.toNat - 48) / 10 = 0 by omega, dg_zero, List.nil_append, show 48 + (c.toNat - 48) % 10 = c.toNat by omega, UInt8.ofNat_toNat]
  | append_singleton l d ih =>
    intro c hc h hl
    simp only [List.all_append, List.all_cons, List.all_nil, Bool.and_true, Bool.and_eq_true] at hl
    have hp := val_pos l c hc h
    have hd := hl.2
    simp only [isDig, Bool.and_eq_true, decide_eq_true_eq] at hd
    have ih' := ih c hc h hl.1
    have hv := val_snoc (c :: l) d
    rw [List.cons_append] at hv
    rw [dg_step _ (by omega), hv, show (val (c :: l) * 10 + (d.toNat - 48)) / 10 = val (c :: l) by omega, ih', show 48 + (val (c :: l) * 10 + (d.toNat - 48)) % 10 = d.toNat by omega, UInt8.ofNat_toNat, List.cons_append]
/-- Digits that begin with 0 are not, unless they are 0. -/
theorem itoa_zero_ne (l : List UInt8) (hl : l.all isDig = true) (h : l ≠ []) : Lib.itoa (val (48 :: l) : Nat) ≠ 48 :: l := by
  intro e
  have hlt := val_lt l hl
  rw [val_cons_zero] at e
  by_cases h0 : val l = 0
  · rw [h0] at e
    have : Lib.itoa ((0 : Nat) : Int) = [48] := itoa_zero
    rw [this] at e
    cases l with
    | nil => exact h rfl
    | cons => simp at e
  · rw [itoa_of_dg _ (by omega), if_neg (by omega), Int.natAbs_natCast] at e
    have := dg_length_le l.length (val l) hlt
    rw [e] at this
    simp at this
    omega
theorem itoa_val (l : List UInt8) (c : UInt8) (hc : isDig c = true) (h : c ≠ 48) (hl : l.all isDig = true) : Lib.itoa (val (c :: l) : Nat) = c :: l := by
  have hp := val_pos l c hc h
  rw [itoa_of_dg _ (by omega), if_neg (by omega), Int.natAbs_natCast, dg_val l c hc h hl]
theorem itoa_neg (l : List UInt8) (c : UInt8) (hc : isDig c = true) (h : c ≠ 48) (hl : l.all isDig = true) : Lib.itoa (-(val (c :: l) : Nat) : Int) = 45 :: c :: l := by
  have hp := val_pos l c hc h
  rw [itoa_of_dg _ (by omega), if_pos (by omega), Int.natAbs_neg, Int.natAbs_natCast, dg_val l c hc h hl]
theorem itoa_neg_zero (l : List UInt8) (hl : l.all isDig = true) : Lib.itoa (-(val (48 :: l) : Nat) : Int) ≠ 45 :: 48 :: l := by
  intro e
  have hlt := val_lt l hl
  rw [val_cons_zero] at e
  by_cases h0 : val l = 0
  · rw [h0] at e
    have : Lib.itoa (-((0 : Nat) : Int)) = [48] := itoa_zero
    rw [this] at e
    simp at e
  · rw [itoa_of_dg _ (by omega), if_pos (by omega), Int.natAbs_neg, Int.natAbs_natCast] at e
    have := dg_length_le l.length (val l) hlt
    have h2 : dg (val l) = 48 :: l := by simpa using e
    rw [h2] at this
    simp at this
    omega

/-- impl's numberIn. -/
def numI (most : Nat) (s : List UInt8) : Option Nat :=
  if s.length = 0 ∨ s.length > 12 ∨ (s.length > 1 ∧ s.head? = some 48) then none else if s.all isDig then (if most < val s then none else some (val s)) else none
/-- impl's ParseInt. -/
def parI (s : List UInt8) : Option Int :=
  if s.length > 1 ∧ s.head? = some 45 ∧ s[1]? ≠ some 48 then Option.map (fun n : Nat => -(n : Int)) (numI 999999999999 (s.drop 1)) else Option.map (fun n : Nat => (n : Int)) (numI 999999999999 s)
/-- spec's l1Read. -/
def parS (most : Nat) (s : List UInt8) : Option Int :=
  let t := if s.head? = some 45 then s.drop 1 else s
  if t.length < 1 ∨ most < t.length then none else if t.all isDig then
    let n : Int := if s.head? = some 45 then -(val t : Nat) else (val t : Nat)
    if Lib.itoa n = s then some n else none
  else none
theorem isDig_45 : isDig 45 = false := by decide
theorem numI_digits (t : List UInt8) (h1 : 1 ≤ t.length) (h2 : t.length ≤ 12) (hd : t.all isDig = true) : numI 999999999999 t = if t.length > 1 ∧ t.head? = some 48 then none else some (val t) := by
  have hlt := val_lt t hd
  have : 10 ^ t.length ≤ 10 ^ 12 := Nat.pow_le_pow_right (by decide) h2
  unfold numI
  by_cases h : t.length > 1 ∧ t.head? = some 48
  · rw [if_pos (.inr (.inr h)), if_pos h]
  · rw [if_neg (by rintro (h3 | h3 | h3) <;> first | omega | exact h h3), if_pos hd, if_neg h, if_neg (by omega)]
theorem par_eq (s : List UInt8) : parI s = parS 12 s := by
  unfold parI parS
  by_cases h45 : s.head? = some 45
  · obtain ⟨t, rfl⟩ : ∃ t, s = 45 :: t := by
      cases s with
      | nil => cases h45
      | cons c t => simp at h45; subst h45; exact ⟨t, rfl⟩
    simp only [List.head?_cons, if_true, List.drop_succ_cons, List.drop_zero, List.length_cons, true_and]
    have hno : numI 999999999999 (45 :: t) = none := by
      unfold numI
      split
      · rfl
      · rw [if_neg (by simp [isDig_45])]
    cases t with
    | nil => simp [hno]
    | cons c t =>
      by_cases hl : (c :: t).length > 12
      · rw [if_pos (show (c :: t).length < 1 ∨ 12 < (c :: t).length from .inr hl)]
        split
        · unfold numI
          rw [if_pos (.inr (.inl hl))]; rfl
        · rw [hno]; rfl
      rw [if_neg (show ¬ ((c :: t).length < 1 ∨ 12 < (c :: t).length) by simp at hl ⊢; omega)]
      by_cases hd : (c :: t).all isDig = true
      · rw [if_pos hd]
        have hd' := hd
        simp only [List.all_cons, Bool.and_eq_true] at hd'
        by_cases hc : c = 48
        · subst hc
          rw [if_neg (by simp), hno, if_neg (itoa_neg_zero t hd'.2)]; rfl
        · rw [if_pos (by simp [hc]), numI_digits _ (by simp) (by omega) hd, if_neg (by simp [hc]), if_pos (itoa_neg t c hd'.1 hc hd'.2)]; rfl
      · rw [if_neg hd]
        split
        · unfold numI
          split
          · rfl
          · first | rfl | (rw [if_neg hd]; rfl)
        · rw [hno]; rfl
  · rw [if_neg (fun h => h45 h.2.1)]
    simp only [h45, if_false]
    by_cases hl : s.length < 1 ∨ 12 < s.length
    · rw [if_pos hl]
      unfold numI
      rw [if_pos (by omega)]; rfl
    rw [if_neg hl]
    by_cases hd : s.all isDig = true
    · rw [if_pos hd, numI_digits s (by omega) (by omega) hd]
      cases s with
      | nil => simp at hl
      | cons c t =>
        have hd' := hd
        simp only [List.all_cons, Bool.and_eq_true] at hd'
        by_cases hc : c = 48
        · subst hc
          cases t with
          | nil =>
            rw [if_neg (by simp)]
            have : Lib.itoa ((val [48] : Nat) : Int) = [48] := itoa_zero
            rw [if_pos this]; rfl
          | cons d t => rw [if_pos (by simp), if_neg (itoa_zero_ne (d :: t) hd'.2 (by simp))]; rfl
        · rw [if_neg (by simp [hc]), if_pos (itoa_val t c hd'.1 hc hd'.2)]; rfl
    · rw [if_neg hd]
      unfold numI
      split
      · rfl
      · first | rfl | (rw [if_neg hd]; rfl)
end Go.Proofs.YtopaeiogbijppaaDoor
