/- The steps of reading a quoted text, by places. No walk in sight. -/
import Derived.Test.YtopaeiogbijppaaDoorParRes
namespace Go.Proofs.YtopaeiogbijppaaDoor
open Go

section
variable {st : Bool} {q : UInt8} {M : List UInt8} {N k : Nat}
/-- What is read from place k on. -/
def unqAt (st : Bool) (q : UInt8) (M : List UInt8) (k : Nat) : Option (List UInt8) := unq st q (M.length + 1) (M.drop k)
theorem unqAt_of (h : M.length - k < N) : unq st q N (M.drop k) = unqAt st q M k := by
  unfold unqAt
  exact unq_fuel st q (M.length + 2) _ _ _ (by rw [List.length_drop]; omega) (by rw [List.length_drop]; omega) (by rw [List.length_drop]; omega)
theorem unqAt_end (h : M.length ≤ k) : unqAt st q M k = some [] := by
  unfold unqAt
  rw [List.drop_eq_nil_of_le h]; rfl
theorem drop1 (hk : k < M.length) : M.drop k = M[k] :: M.drop (k + 1) := List.drop_eq_getElem_cons hk
theorem unqAt_plain (hk : k < M.length) (h : M[k] ≠ 92) (hc : (st && (decide (M[k].toNat < 32) || decide (126 < M[k].toNat) || M[k] == q)) = false) : unqAt st q M k = (unqAt st q M (k + 1)).map (M[k] :: ·) := by
  rw [unqAt, drop1 hk, unq_plain h hc, unqAt_of (by omega)]
theorem unqAt_bad (hk : k < M.length) (h : M[k] ≠ 92) (hc : (st && (decide (M[k].toNat < 32) || decide (126 < M[k].toNat) || M[k] == q)) = true) : unqAt st q M k = none := by
  rw [unqAt, drop1 hk, unq_bad h hc]
theorem unqAt_alone (hk : k + 1 = M.length) (h : M[k] = 92) : unqAt st q M k = none := by
  rw [unqAt, drop1 (by omega), h, List.drop_eq_nil_of_le (by omega), unq_alone]
theorem unqAt_n (hk : k + 1 < M.length) (h : M[k] = 92) (he : M[k + 1] = 110) : unqAt st q M k = (unqAt st q M (k + 2)).map (10 :: ·) := by
  rw [unqAt, drop1 (by omega), drop1 hk, h, he, unq_n, unqAt_of (by omega)]
theorem unqAt_t (hk : k + 1 < M.length) (h : M[k] = 92) (he : M[k + 1] = 116) : unqAt st q M k = (unqAt st q M (k + 2)).map (9 :: ·) := by
  rw [unqAt, drop1 (by omega), drop1 hk, h, he, unq_t, unqAt_of (by omega)]
theorem unqAt_self (hk : k + 1 < M.length) (h : M[k] = 92) (he : M[k + 1] = 92 ∨ M[k + 1] = 34 ∨ M[k + 1] = 39) : unqAt st q M k = (unqAt st q M (k + 2)).map (M[k + 1] :: ·) := by
  rw [unqAt, drop1 (by omega), drop1 hk, h, unq_self he, unqAt_of (by omega)]
theorem unqAt_short (hk : k + 1 < M.length) (hs : M.length ≤ k + 3) (h : M[k] = 92) (he : M[k + 1] = 120) : unqAt st q M k = none := by
  rw [unqAt, drop1 (by omega), drop1 hk, h, he, unq_short (by rw [List.length_drop]; omega)]
theorem unqAt_hex (hk : k + 3 < M.length) (h : M[k] = 92) (he : M[k + 1] = 120) (hx : 0 ≤ hexV M[k + 2] ∧ 0 ≤ hexV M[k + 3]) : unqAt st q M k = (unqAt st q M (k + 4)).map (hexB M[k + 2] M[k + 3] :: ·) := by
  rw [unqAt, drop1 (by omega), drop1 (by omega), drop1 (k := k + 1 + 1) (by omega), drop1 (k := k + 1 + 1 + 1) hk, h, he, unq_hex hx, unqAt_of (by omega)]
theorem unqAt_nohex (hk : k + 3 < M.length) (h : M[k] = 92) (he : M[k + 1] = 120) (hx : ¬ (0 ≤ hexV M[k + 2] ∧ 0 ≤ hexV M[k + 3])) : unqAt st q M k = none := by
  rw [unqAt, drop1 (by omega), drop1 (by omega), drop1 (k := k + 1 + 1) (by omega), drop1 (k := k + 1 + 1 + 1) hk, h, he, unq_nohex hx]
theorem unqAt_other (hk : k + 1 < M.length) (h : M[k] = 92) (he : ¬ (M[k + 1] = 110 ∨ M[k + 1] = 116 ∨ M[k + 1] = 92 ∨ M[k + 1] = 34 ∨ M[k + 1] = 39 ∨ M[k + 1] = 120)) : unqAt st q M k = none := by
  rw [unqAt, drop1 (by omega), drop1 hk, h, unq_other he]
end
/-- The whole, from place 1 on: M is the text without its last byte. -/
theorem last_of {c d : UInt8} {t : List UInt8} : (d :: t).getLast? = (c :: d :: t)[(c :: d :: t).length - 1]? := by
  rw [List.getLast?_eq_getElem?]
  simp
theorem unqT_at {q : UInt8} {s : List UInt8} (h2 : 2 ≤ s.length) (h0 : s[0]? = some q) (hl : s[s.length - 1]? = some q) : unqT q s = unqAt true q (s.take (s.length - 1)) 1 := by
  match s, h2 with
  | c :: d :: t, _ =>
    have hc : c = q := by simpa using h0
    rw [unqT, if_pos ⟨hc, by rw [last_of (c := c)]; exact hl⟩]
    have e : (d :: t).dropLast = ((c :: d :: t).take ((c :: d :: t).length - 1)).drop 1 := by
      rw [List.dropLast_eq_take]
      simp
    rw [e, unqAt_of (by simp; omega)]
theorem unqT_none {q : UInt8} {s : List UInt8} (h : s.length < 2 ∨ s[0]? ≠ some q ∨ s[s.length - 1]? ≠ some q) : unqT q s = none := by
  match s, h with
  | [], _ => rfl
  | [c], _ => simp [unqT]
  | c :: d :: t, h =>
    rcases h with h | h | h
    · simp at h; omega
    · have h : c ≠ q := by simpa using h
      simp [unqT, h]
    · rw [unqT, if_neg]
      rintro ⟨_, h'⟩
      rw [last_of (c := c)] at h'
      exact h h'
/-- spec's way, by places: the scan from place k on. -/
def scanAt (q : UInt8) (s : List UInt8) (k : Nat) : Bool := scan q (s.length + 1) (s.drop k)
theorem scan_fuel (q : UInt8) : ∀ (n n' : Nat) (m : List UInt8), m.length < n → m.length < n' → scan q n m = scan q n' m
  | 0, _, m, h, _ => by omega
  | n + 1, 0, m, _, h => by omega
  | n + 1, n' + 1, [], _, _ => rfl
  | n + 1, n' + 1, b :: r, h, h' => by
    have h1 : r.length < n := by simpa using h
    have h2 : r.length < n' := by simpa using h'
    simp only [scan]
    rw [scan_fuel q n n' r h1 h2, scan_fuel q n n' (r.drop 1) (by rw [List.length_drop]; omega) (by rw [List.length_drop]; omega)]
theorem scanAt_step {q : UInt8} {s : List UInt8} {k : Nat} (hk : k < s.length) : scanAt q s k = if s[k] = q then decide (k + 1 = s.length) else if s[k].toNat < 32 ∨ 126 < s[k].toNat then false else if s[k] = 92 then scanAt q s (k + 2) else scanAt q s (k + 1) := by
  have e1 : scan q s.length (s.drop (k + 1)) = scanAt q s (k + 1) := scan_fuel q _ _ _ (by rw [List.length_drop]; omega) (by rw [List.length_drop]; omega)
  have e2 : scan q s.length ((s.drop (k + 1)).drop 1) = scanAt q s (k + 2) := by
    rw [List.drop_drop]
    exact scan_fuel q _ _ _ (by rw [List.length_drop]; omega) (by rw [List.length_drop]; omega)
  unfold scanAt at e1 e2 ⊢
  rw [drop1 hk, scan_cons, e1, e2]
  have e3 : (s.drop (k + 1)).isEmpty = decide (k + 1 = s.length) := by
    cases h : s.drop (k + 1) with
    | nil =>
      have := congrArg List.length h
      rw [List.length_drop] at this
      simp at this
      simp; omega
    | cons a b =>
      have := congrArg List.length h
      rw [List.length_drop] at this
      simp at this
      simp; omega
  rw [e3]
theorem scanAt_end {q : UInt8} {s : List UInt8} {k : Nat} (hk : s.length ≤ k) : scanAt q s k = false := by
  unfold scanAt
  rw [List.drop_eq_nil_of_le hk]; rfl
theorem unqS_at {q : UInt8} (hq : q = 34 ∨ q = 39) {s : List UInt8} (h2 : 2 ≤ s.length) (h0 : s[0]? = some q) : unqT q s = if scanAt q s 1 then unqAt false q (s.take (s.length - 1)) 1 else none := by
  rw [← unq_eq q hq]
  match s, h2 with
  | c :: d :: t, _ =>
    have hc : c = q := by simpa using h0
    have e : (d :: t).dropLast = ((c :: d :: t).take ((c :: d :: t).length - 1)).drop 1 := by
      rw [List.dropLast_eq_take]
      simp
    have e4 : scan q ((d :: t).length + 1) (d :: t) = scanAt q (c :: d :: t) 1 := scan_fuel q _ _ _ (by simp) (by simp)
    rw [unqS, e4]
    by_cases h : scanAt q (c :: d :: t) 1 = true
    · rw [if_pos ⟨hc, by simp, h⟩, if_pos h, e, unqAt_of (by simp; omega)]
    · rw [if_neg (fun h' => h h'.2.2), if_neg h]
end Go.Proofs.YtopaeiogbijppaaDoor
