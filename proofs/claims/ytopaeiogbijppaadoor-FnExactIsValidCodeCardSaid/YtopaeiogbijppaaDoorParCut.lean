/- A text cut at its spaces, as a plain function. No walk in sight. -/
import Derived.Test.YtopaeiogbijppaaDoorParUnq
import Derived.Lib.Split
namespace Go.Proofs.YtopaeiogbijppaaDoor
open Go

/-- The pieces between the spaces. -/
def spl : List UInt8 → List (List UInt8)
  | [] => [[]]
  | c :: r => if c = 32 then [] :: spl r else match spl r with
    | [] => [[c]]
    | p :: ps => (c :: p) :: ps
/-- The pieces with spaces between them. -/
def jn : List (List UInt8) → List UInt8
  | [] => []
  | [p] => p
  | p :: q :: ps => p ++ 32 :: jn (q :: ps)
theorem spl_ne (l : List UInt8) : spl l ≠ [] := by
  cases l with
  | nil => simp [spl]
  | cons c r =>
    simp only [spl]
    split
    · simp
    · split <;> simp
theorem spl_space (r : List UInt8) : spl (32 :: r) = [] :: spl r := by simp [spl]
theorem spl_other (c : UInt8) (r : List UInt8) (h : c ≠ 32) : ∃ p ps, spl r = p :: ps ∧ spl (c :: r) = (c :: p) :: ps := by
  cases hr : spl r with
  | nil => exact absurd hr (spl_ne r)
  | cons p ps => exact ⟨p, ps, rfl, by simp [spl, h, hr]⟩
theorem jn_cons (p : List UInt8) (ps : List (List UInt8)) (h : ps ≠ []) : jn (p :: ps) = p ++ 32 :: jn ps := by
  cases ps with
  | nil => exact absurd rfl h
  | cons q ps => rfl
theorem jn_spl : ∀ (l : List UInt8), jn (spl l) = l
  | [] => rfl
  | c :: r => by
    by_cases h : c = 32
    · subst h
      rw [spl_space, jn_cons _ _ (spl_ne r), jn_spl r]; rfl
    · obtain ⟨p, ps, h1, h2⟩ := spl_other c r h
      have ih := jn_spl r
      rw [h1] at ih
      rw [h2]
      cases ps with
      | nil => simp only [jn] at ih ⊢; rw [ih]
      | cons q ps => simp only [jn] at ih ⊢; rw [List.cons_append, ih]
/-- A piece without a space, at the text's head. -/
theorem spl_word : ∀ (w r : List UInt8), (∀ c ∈ w, c ≠ 32) → spl (w ++ 32 :: r) = w :: spl r
  | [], r, _ => spl_space r
  | c :: w, r, h => by
    have ih := spl_word w r (fun d hd => h d (List.mem_cons_of_mem _ hd))
    obtain ⟨p, ps, h1, h2⟩ := spl_other c (w ++ 32 :: r) (h c List.mem_cons_self)
    rw [ih] at h1
    cases h1
    rw [List.cons_append, h2]
theorem spl_last : ∀ (w : List UInt8), (∀ c ∈ w, c ≠ 32) → spl w = [w]
  | [], _ => rfl
  | c :: w, h => by
    have ih := spl_last w (fun d hd => h d (List.mem_cons_of_mem _ hd))
    obtain ⟨p, ps, h1, h2⟩ := spl_other c w (h c List.mem_cons_self)
    rw [ih] at h1
    cases h1
    rw [h2]
theorem index_space : ∀ (l : List UInt8), (Lib.index l [32] = -1 → spl l = [l]) ∧ (∀ i : Nat, Lib.index l [32] = i → i < l.length ∧ spl l = l.take i :: spl (l.drop (i + 1)))
  | [] => by
    refine ⟨fun _ => rfl, fun i h => ?_⟩
    simp [Lib.index] at h
  | c :: r => by
    have ih := index_space r
    by_cases h : c = 32
    · subst h
      have h0 : Lib.index (32 :: r) [32] = 0 := by simp [Lib.index, List.isPrefixOf]
      rw [h0]
      refine ⟨fun e => by omega, fun i e => ?_⟩
      obtain rfl : i = 0 := by omega
      exact ⟨by simp, by simp [spl_space]⟩
    · have hp : List.isPrefixOf [32] (c :: r) = false := by simp [List.isPrefixOf, Ne.symm h]
      obtain ⟨p, ps, h1, h2⟩ := spl_other c r h
      simp only [Lib.index, hp, Bool.false_eq_true, if_false]
      by_cases hm : Lib.index r [32] = -1
      · rw [if_pos (by simp [hm])]
        refine ⟨fun _ => ?_, fun i e => by omega⟩
        have := ih.1 hm
        rw [this] at h1
        cases h1
        exact h2
      · rw [if_neg (by simpa using hm)]
        have hge := Lib.index_ge r [32]
        refine ⟨fun e => by omega, fun i e => ?_⟩
        obtain ⟨j, rfl⟩ : ∃ j, i = j + 1 := ⟨i - 1, by omega⟩
        obtain ⟨h3, h4⟩ := ih.2 j (by omega)
        rw [h4] at h1
        cases h1
        exact ⟨by simpa using h3, by rw [h2]; simp⟩
/-- strings.SplitN's pieces. -/
theorem splitK_spl : ∀ (k : Nat) (l : List UInt8), Lib.splitK [32] 0 k l = if (spl l).length ≤ k + 1 then spl l else (spl l).take k ++ [jn ((spl l).drop k)]
  | 0, l => by
    simp only [Lib.splitK]
    split
    · rename_i h
      have hj := jn_spl l
      cases hs : spl l with
      | nil => exact absurd hs (spl_ne l)
      | cons p ps =>
        rw [hs] at h hj
        cases ps with
        | nil => simp only [jn] at hj; rw [hj]
        | cons => simp at h
    · simp [jn_spl]
  | k + 1, l => by
    simp only [Lib.splitK]
    by_cases hm : Lib.index l [32] = -1
    · rw [if_pos (by simp [hm]), (index_space l).1 hm, if_pos (by simp)]
    · rw [if_neg (by simpa using hm)]
      have hge := Lib.index_ge l [32]
      obtain ⟨i, hi⟩ : ∃ i : Nat, Lib.index l [32] = i := ⟨(Lib.index l [32]).toNat, by omega⟩
      obtain ⟨h1, h2⟩ := (index_space l).2 i hi
      rw [hi, Int.toNat_natCast, h2]
      have ih := splitK_spl k (l.drop (i + 1))
      simp only [List.length_singleton, Nat.add_zero]
      rw [ih]
      by_cases hl : (spl (l.drop (i + 1))).length ≤ k + 1
      · rw [if_pos hl, if_pos (by simpa using hl)]
      · rw [if_neg hl, if_neg (by simpa using hl)]
        simp
theorem spl_length (l : List UInt8) : (spl l).length ≤ l.length + 1 := by
  induction l with
  | nil => simp [spl]
  | cons c r ih =>
    by_cases h : c = 32
    · subst h; rw [spl_space]; simp; omega
    · obtain ⟨p, ps, h1, h2⟩ := spl_other c r h
      rw [h2]
      rw [h1] at ih
      simp at ih ⊢
      omega
/-- Five pieces at most, or fewer than five. -/
theorem splitN_five (l : List UInt8) : Lib.splitK [32] 0 (min 5 (l.length + 1) - 1) l = if (spl l).length < 5 then spl l else (spl l).take 4 ++ [jn ((spl l).drop 4)] := by
  have hl := spl_length l
  rw [splitK_spl]
  by_cases h : l.length < 4
  · rw [if_pos (by omega), if_pos (by omega)]
  · rw [show min 5 (l.length + 1) - 1 = 4 by omega]
    by_cases h5 : (spl l).length < 5
    · rw [if_pos (by omega), if_pos h5]
    · by_cases h6 : (spl l).length = 5
      · rw [if_pos (by omega), if_neg h5]
        have : ((spl l).drop 4).length = 1 := by rw [List.length_drop]; omega
        obtain ⟨p, hp⟩ := List.length_eq_one_iff.1 this
        rw [hp]
        simp only [jn]
        rw [← hp, List.take_append_drop]
      · rw [if_neg (by omega), if_neg h5]
end Go.Proofs.YtopaeiogbijppaaDoor
