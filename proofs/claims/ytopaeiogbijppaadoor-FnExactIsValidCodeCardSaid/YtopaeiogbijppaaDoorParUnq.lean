/- Reading a quoted text as a plain function: two ways, one answer. No walk in sight. -/
import Derived.Test.YtopaeiogbijppaaDoorParNum
namespace Go.Proofs.YtopaeiogbijppaaDoor
open Go

/-- A hexadecimal digit's value, or -1. -/
def hexV (c : UInt8) : Int := if 48 ≤ c.toNat ∧ c.toNat ≤ 57 then (c.toNat : Int) - 48 else if 97 ≤ c.toNat ∧ c.toNat ≤ 102 then (c.toNat : Int) - 97 + 10 else -1
def hexB (a b : UInt8) : UInt8 := UInt8.ofNat ((hexV a).toNat * 16 + (hexV b).toNat)
/-- The text between the quotes, read. strict: bytes that do not print are refused. -/
def unq (strict : Bool) (q : UInt8) : Nat → List UInt8 → Option (List UInt8)
  | 0, _ => none
  | _ + 1, [] => some []
  | n + 1, b :: r =>
    if b ≠ 92 then (if strict && (decide (b.toNat < 32) || decide (126 < b.toNat) || b == q) then none else (unq strict q n r).map (b :: ·))
    else match r with
      | [] => none
      | e :: r' =>
        if e = 110 then (unq strict q n r').map (10 :: ·)
        else if e = 116 then (unq strict q n r').map (9 :: ·)
        else if e = 92 ∨ e = 34 ∨ e = 39 then (unq strict q n r').map (e :: ·)
        else if e = 120 then match r' with
          | h1 :: h2 :: r'' => if 0 ≤ hexV h1 ∧ 0 ≤ hexV h2 then (unq strict q n r'').map (hexB h1 h2 :: ·) else none
          | _ => none
        else none
/-- spec's l4End: the first quote that is not escaped is the last byte. -/
def scan (q : UInt8) : Nat → List UInt8 → Bool
  | 0, _ => false
  | _ + 1, [] => false
  | n + 1, b :: r => if b = q then r.isEmpty else if b.toNat < 32 ∨ 126 < b.toNat then false else if b = 92 then scan q n (r.drop 1) else scan q n r
theorem scan_cons {q : UInt8} {n : Nat} {b : UInt8} {r : List UInt8} : scan q (n + 1) (b :: r) = if b = q then r.isEmpty else if b.toNat < 32 ∨ 126 < b.toNat then false else if b = 92 then scan q n (r.drop 1) else scan q n r := rfl
theorem hexV_plain {c : UInt8} (h : 0 ≤ hexV c) : c ≠ 34 ∧ c ≠ 39 ∧ c ≠ 92 ∧ ¬ (c.toNat < 32 ∨ 126 < c.toNat) := by
  have hb : (48 ≤ c.toNat ∧ c.toNat ≤ 57) ∨ (97 ≤ c.toNat ∧ c.toNat ≤ 102) := by
    unfold hexV at h
    split at h
    · exact .inl ‹_›
    · split at h
      · exact .inr ‹_›
      · omega
  refine ⟨?_, ?_, ?_, by omega⟩ <;> (rintro rfl; simp at hb)
/-- Both ways of reading agree. -/
theorem scan_unq (q : UInt8) (hq : q = 34 ∨ q = 39) (z : UInt8) : ∀ (k : Nat) (m : List UInt8) (n n' : Nat), m.length < k → m.length < n → m.length + 1 < n' → (scan q n' (m ++ [z]) = true → z = q ∧ unq false q n m = unq true q n m) ∧ (scan q n' (m ++ [z]) = false → z = q → unq true q n m = none)
  | 0, m, _, _, h, _, _ => by omega
  | k + 1, m, 0, _, _, h, _ => by omega
  | k + 1, m, n + 1, 0, _, _, h => by omega
  | k + 1, [], n + 1, n' + 1, _, _, _ => by
    have hq92 : q ≠ 92 := by rcases hq with rfl | rfl <;> decide
    simp only [List.nil_append, scan_cons, List.isEmpty_nil]
    by_cases hz : z = q
    · simp [hz, unq]
    · simp only [hz, if_false]
      constructor
      · intro h
        exfalso
        split at h
        · cases h
        · split at h <;> cases n' <;> simp [scan] at h
      · intro _ h; exact absurd h (by simp)
  | k + 1, b :: m, n + 1, n' + 1, hk, hm, hn' => by
    have hk' : m.length < k := by simpa using hk
    have hm' : m.length < n := by simpa using hm
    have hn2 : m.length + 1 < n' := by simpa using hn'
    have hq92 : q ≠ 92 := by rcases hq with rfl | rfl <;> decide
    rw [List.cons_append, scan_cons]
    by_cases hbq : b = q
    · subst hbq
      rw [if_pos rfl]
      have hb92 : b ≠ 92 := hq92
      simp [unq, hb92]
    rw [if_neg hbq]
    by_cases hctl : b.toNat < 32 ∨ 126 < b.toNat
    · rw [if_pos hctl]
      have hb92 : b ≠ 92 := by rintro rfl; simp at hctl
      refine ⟨fun h => (by cases h), fun _ _ => ?_⟩
      simp only [unq, if_pos hb92]
      rw [if_pos (by simp; omega)]
    rw [if_neg hctl]
    by_cases hb : b = 92
    · subst hb
      rw [if_pos rfl]
      cases m with
      | nil =>
        refine ⟨fun h => ?_, fun _ _ => by simp [unq]⟩
        exfalso
        cases n' <;> simp [scan] at h
      | cons e m =>
        rw [List.cons_append, List.drop_succ_cons, List.drop_zero]
        have ih := scan_unq q hq z k m n n' (by simp at hk'; omega) (by simp at hm'; omega) (by simp at hn2; omega)
        have cell : ∀ (x : UInt8), (scan q n' (m ++ [z]) = true → z = q ∧ (unq false q n m).map (x :: ·) = (unq true q n m).map (x :: ·)) ∧ (scan q n' (m ++ [z]) = false → z = q → (unq true q n m).map (x :: ·) = none) := fun x =>
          ⟨fun h => ⟨(ih.1 h).1, by rw [(ih.1 h).2]⟩, fun h hz => by rw [ih.2 h hz]; rfl⟩
        simp only [unq, show ¬ ((92 : UInt8) ≠ 92) from fun h => h rfl, if_false]
        by_cases h1 : e = 110
        · simp only [h1, if_true]; exact cell 10
        simp only [h1, if_false]
        by_cases h2 : e = 116
        · simp only [h2, if_true]; exact cell 9
        simp only [h2, if_false]
        by_cases h3 : e = 92 ∨ e = 34 ∨ e = 39
        · simp only [h3, if_true]; exact cell e
        simp only [h3, if_false]
        by_cases h4 : e = 120
        · simp only [h4, if_true]
          match m, hm', hn2, hk', ih with
          | [], _, _, _, ih =>
            refine ⟨fun h => ⟨(ih.1 h).1, rfl⟩, fun _ _ => rfl⟩
          | [x], _, _, _, ih => exact ⟨fun h => ⟨(ih.1 h).1, rfl⟩, fun _ _ => rfl⟩
          | x :: y :: r, hm', hn2, hk', ih =>
            simp only
            by_cases hx : 0 ≤ hexV x ∧ 0 ≤ hexV y
            · simp only [if_pos hx]
              obtain ⟨n2, rfl⟩ : ∃ n2, n' = n2 + 2 := ⟨n' - 2, by simp at hn2; omega⟩
              have px := hexV_plain hx.1
              have py := hexV_plain hx.2
              have qx : x ≠ q := by rcases hq with rfl | rfl; exact px.1; exact px.2.1
              have qy : y ≠ q := by rcases hq with rfl | rfl; exact py.1; exact py.2.1
              have e1 : scan q (n2 + 2) (x :: y :: r ++ [z]) = scan q n2 (r ++ [z]) := by
                rw [List.cons_append, scan_cons, if_neg qx, if_neg px.2.2.2, if_neg px.2.2.1, List.cons_append, scan_cons, if_neg qy, if_neg py.2.2.2, if_neg py.2.2.1]
              rw [e1]
              have ih2 := scan_unq q hq z k r n n2 (by simp at hk'; omega) (by simp at hm'; omega) (by simp at hn2; omega)
              exact ⟨fun h => ⟨(ih2.1 h).1, by rw [(ih2.1 h).2]⟩, fun h hz => by rw [ih2.2 h hz]; rfl⟩
            · simp only [if_neg hx]
              exact ⟨fun h => ⟨(ih.1 h).1, trivial⟩, fun _ _ => trivial⟩
        · simp only [h4, if_false]
          exact ⟨fun h => ⟨(ih.1 h).1, trivial⟩, fun _ _ => trivial⟩
    · rw [if_neg hb]
      have ih := scan_unq q hq z k m n n' hk' hm' hn2
      simp only [unq, if_pos (show b ≠ 92 from hb)]
      have hc : (true && (decide (b.toNat < 32) || decide (126 < b.toNat) || b == q)) = false := by simp [hbq]; omega
      rw [hc]
      simp only [Bool.false_and, Bool.false_eq_true, if_false]
      exact ⟨fun h => ⟨(ih.1 h).1, by rw [(ih.1 h).2]⟩, fun h hz => by rw [ih.2 h hz]; rfl⟩
/-- The fuel does not matter. -/
theorem unq_fuel (st : Bool) (q : UInt8) : ∀ (k : Nat) (m : List UInt8) (n n' : Nat), m.length < k → m.length < n → m.length < n' → unq st q n m = unq st q n' m
  | 0, m, _, _, h, _, _ => by omega
  | k + 1, m, 0, _, _, h, _ => by omega
  | k + 1, m, n + 1, 0, _, _, h => by omega
  | k + 1, [], n + 1, n' + 1, _, _, _ => rfl
  | k + 1, b :: m, n + 1, n' + 1, hk, hm, hn => by
    have hk' : m.length < k := by simpa using hk
    have hm' : m.length < n := by simpa using hm
    have hn' : m.length < n' := by simpa using hn
    have ih := fun m h1 h2 h3 => unq_fuel st q k m n n' h1 h2 h3
    simp only [unq]
    split
    · rw [ih m hk' hm' hn']
    · match m, hk', hm', hn' with
      | [], _, _, _ => rfl
      | e :: m, hk', hm', hn' =>
        have e1 := ih m (by simp at hk'; omega) (by simp at hm'; omega) (by simp at hn'; omega)
        simp only [e1]
        match m, hk', hm', hn' with
        | [], _, _, _ => rfl
        | [x], _, _, _ => rfl
        | x :: y :: r, hk', hm', hn' =>
          have e2 := ih r (by simp at hk'; omega) (by simp at hm'; omega) (by simp at hn'; omega)
          simp only [e2]
/-- The text of a literal; none: it is none. -/
def unqT (q : UInt8) (s : List UInt8) : Option (List UInt8) :=
  match s with
  | [] => none
  | c :: t => if c = q ∧ t.getLast? = some q then unq true q (t.length + 1) t.dropLast else none
/-- spec's way. -/
def unqS (q : UInt8) (s : List UInt8) : Option (List UInt8) :=
  match s with
  | [] => none
  | c :: t => if c = q ∧ t ≠ [] ∧ scan q (t.length + 1) t = true then unq false q (t.length + 1) t.dropLast else none
theorem unq_eq (q : UInt8) (hq : q = 34 ∨ q = 39) (s : List UInt8) : unqS q s = unqT q s := by
  cases s with
  | nil => rfl
  | cons c t =>
    simp only [unqS, unqT]
    by_cases hc : c = q
    · subst hc
      rcases List.eq_nil_or_concat t with rfl | ⟨m, z, rfl⟩
      · simp
      · rw [List.concat_eq_append]
        have h := scan_unq c hq z (m.length + 1) m (m.length + 2) (m.length + 2) (by omega) (by omega) (by omega)
        simp only [List.length_append, List.length_singleton, List.dropLast_concat, List.getLast?_concat, true_and]
        have e1 : (m ++ [z] ≠ []) := by simp
        by_cases hs : scan c (m.length + 1 + 1) (m ++ [z]) = true
        · have h1 := h.1 hs
          rw [if_pos ⟨e1, hs⟩, if_pos (by rw [h1.1]), h1.2]
        · have hs' : scan c (m.length + 1 + 1) (m ++ [z]) = false := by simpa using hs
          rw [if_neg (fun h => hs h.2)]
          by_cases hz : z = c
          · rw [if_pos (by rw [hz]), h.2 hs' hz]
          · rw [if_neg (by simpa using hz)]
    · rw [if_neg (fun h => hc h.1), if_neg (fun h => hc h.1)]
end Go.Proofs.YtopaeiogbijppaaDoor
