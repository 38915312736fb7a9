/- Plain facts on decimal numerals and on quoted texts; no program in sight. -/
import Derived.Lib.ItoaMem
import Derived.Lib.ItoaLen
import Derived.Below
namespace Go.Proofs.YtopaeiogbijppaaDoor
open Go

/-- The decimal digits of u, none for 0. -/
def dg (u : Nat) : List UInt8 := if u = 0 then [] else Lib.decDigits u

theorem dg_zero : dg 0 = [] := rfl

theorem dg_step (u : Nat) (h : u ≠ 0) : dg u = dg (u / 10) ++ [UInt8.ofNat (48 + u % 10)] := by
  unfold dg
  rw [if_neg h, Lib.decDigits]
  by_cases h10 : u < 10
  · rw [dif_pos h10, if_pos (by omega)]
    simp [Nat.mod_eq_of_lt h10]
  · rw [dif_neg h10, if_neg (by omega)]

/-- The digit's byte as spec's FormatInt makes it. -/
theorem itoa_of_dg (n : Int) (h : n ≠ 0) : Lib.itoa n = if n < 0 then 45 :: dg n.natAbs else dg n.natAbs := by
  unfold Lib.itoa dg
  have h0 : n.natAbs ≠ 0 := by omega
  rw [if_neg h0]
  by_cases hn : n < 0
  · rw [if_pos hn, if_pos hn]
  · rw [if_neg hn, if_neg hn]
    have : n.toNat = n.natAbs := by omega
    rw [this]

theorem itoa_zero : Lib.itoa 0 = [48] := by
  unfold Lib.itoa
  rw [if_neg (by omega), Lib.decDigits, dif_pos (by decide)]
  rfl

theorem dg_length_le (k : Nat) : ∀ u, u < 10 ^ k → (dg u).length ≤ k := by
  induction k with
  | zero => intro u hu; have : u = 0 := by omega
            subst this; simp [dg]
  | succ k ih =>
    intro u hu
    by_cases h0 : u = 0
    · subst h0; simp [dg]
    · rw [dg_step u h0]
      have : u / 10 < 10 ^ k := by rw [Nat.pow_succ] at hu; omega
      have := ih _ this
      simp; omega

theorem dg_len (n : Int) (h0 : -9223372036854775808 ≤ n) (h1 : n ≤ 9223372036854775807) : (dg n.natAbs).length ≤ 20 :=
  dg_length_le 20 _ (by omega)

theorem itoa_len (n : Int) (h0 : -9223372036854775808 ≤ n) (h1 : n ≤ 9223372036854775807) : (Lib.itoa n).length ≤ 21 := by
  by_cases h : n = 0
  · subst h; rw [itoa_zero]; decide
  · rw [itoa_of_dg n h]
    have := dg_len n h0 h1
    split <;> simp <;> omega

/-- One round of the loop that reckons a numeral. -/
theorem dg_round (N : Nat) (m : Int) (s : List UInt8) (hm : m ≠ 0) (h : dg N = dg m.natAbs ++ s) :
    dg N = dg (m.tdiv 10).natAbs ++ (UInt8.ofNat (48 + m.natAbs % 10) :: s) := by
  rw [h, dg_step m.natAbs (by omega)]
  have : (m.tdiv 10).natAbs = m.natAbs / 10 := by rw [Int.natAbs_tdiv]; rfl
  rw [this]
  simp

/-- A hexadecimal digit's byte. -/
def hexI (x : Int) : Int := if x < 10 then 48 + x else 87 + x
theorem hexI_bd (x : Int) (h0 : 0 ≤ x) (h1 : x < 16) : 48 ≤ hexI x ∧ hexI x < 103 := by unfold hexI; split <;> omega

/-- What one byte c becomes inside quotes q. -/
def qb (q c : Int) : List Int :=
  if c = q ∨ c = 92 then [92, c]
  else if c = 10 then [92, 110]
  else if c = 9 then [92, 116]
  else if c < 32 ∨ 126 < c then [92, 120, hexI (c / 16), hexI (c % 16)]
  else [c]

theorem qb_esc (q c : Int) (h : c = q ∨ c = 92) : qb q c = [92, c] := by unfold qb; rw [if_pos h]
theorem qb_n (q c : Int) (h : ¬ (c = q ∨ c = 92)) (h1 : c = 10) : qb q c = [92, 110] := by unfold qb; rw [if_neg h, if_pos h1]
theorem qb_t (q c : Int) (h : ¬ (c = q ∨ c = 92)) (h1 : c = 9) : qb q c = [92, 116] := by
  unfold qb; rw [if_neg h, if_neg (by omega), if_pos h1]
theorem qb_x (q c : Int) (h : ¬ (c = q ∨ c = 92)) (h1 : c ≠ 10) (h2 : c ≠ 9) (h3 : c < 32 ∨ 126 < c) : qb q c = [92, 120, hexI (c / 16), hexI (c % 16)] := by
  unfold qb; rw [if_neg h, if_neg h1, if_neg h2, if_pos h3]
theorem qb_p (q c : Int) (h : ¬ (c = q ∨ c = 92)) (h1 : c ≠ 10) (h2 : c ≠ 9) (h3 : ¬ (c < 32 ∨ 126 < c)) : qb q c = [c] := by
  unfold qb; rw [if_neg h, if_neg h1, if_neg h2, if_neg h3]
theorem qb_len (q c : Int) : (qb q c).length ≤ 4 := by
  unfold qb; repeat' split
  all_goals simp

/-- The bytes of a text as integers. -/
def ints (l : List UInt8) : List Int := l.map fun b => (b.toNat : Int)
theorem ints_append (a b : List UInt8) : ints (a ++ b) = ints a ++ ints b := by simp [ints]

/-- The opening quote and the first bytes quoted. -/
def qpre (q : Int) (l : List Int) : List Int := q :: l.flatMap (qb q)
/-- The text in quotes. -/
def quoted (q : Int) (l : List Int) : List Int := qpre q l ++ [q]

theorem qpre_snoc (q : Int) (l : List Int) (c : Int) : qpre q (l ++ [c]) = qpre q l ++ qb q c := by simp [qpre]
theorem qpre_len (q : Int) (l : List Int) : (qpre q l).length ≤ 4 * l.length + 1 := by
  unfold qpre
  induction l with
  | nil => simp
  | cons a l ih => have := qb_len q a; simp at ih ⊢; omega
theorem quoted_len (q : Int) (l : List Int) : (quoted q l).length ≤ 4 * l.length + 2 := by
  have := qpre_len q l; unfold quoted; simp; omega

/-- The string that a list of byte values makes. -/
def strOf (ns : List Int) : ByteArray := ⟨(ns.map fun n => UInt8.ofNat n.toNat).toArray⟩

theorem foldl_push (ns : List Int) (r : ByteArray) : ns.foldl (fun r n => r.push (UInt8.ofNat n.toNat)) r = ⟨r.data ++ (ns.map fun n => UInt8.ofNat n.toNat).toArray⟩ := by
  induction ns generalizing r with
  | nil => simp
  | cons a l ih =>
    simp only [List.foldl_cons, ih]
    congr 1
    simp [ByteArray.push]

theorem foldl_strOf (ns : List Int) : ns.foldl (fun r n => r.push (UInt8.ofNat n.toNat)) ByteArray.empty = strOf ns := by
  rw [foldl_push]
  show (⟨#[] ++ _⟩ : ByteArray) = _
  unfold strOf; congr 1; simp

theorem strOf_size (ns : List Int) : (strOf ns).size = ns.length := by simp [strOf, ByteArray.size]

end Go.Proofs.YtopaeiogbijppaaDoor
