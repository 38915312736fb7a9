/- IsName, both sides. Printed by gen_names.py. -/
import Derived.Test.YtopaeiogbijppaaDoorNmWord
namespace Go.Proofs.YtopaeiogbijppaaDoor
open Go.RowKit

theorem let_not_dgt {x : UInt8} (h : isLet x = true) : isDgt x = false := by
  unfold isLet at h
  unfold isDgt
  simp at h ⊢
  omega
/-- Whether it is a name. -/
def isNm (s : ByteArray) : Bool := decide (1 ≤ s.size) && decide (s.size ≤ 12) && !((bl s).head?.any isDgt) && !isRes s && (bl s).all fun x => isLet x || isDgt x
theorem bl_size (s : ByteArray) : (bl s).length = s.size := by simp [bl]
theorem bl_at (s : ByteArray) (j : Nat) (h : j < s.size) : (bl s)[j]'(by rw [bl_size]; exact h) = s[j] := rfl
theorem nm_head_at {s : ByteArray} (hp : 0 < s.size) : (bl s).head? = some s[0] := by
  rw [List.head?_eq_getElem?, List.getElem?_eq_getElem (by rw [bl_size]; exact hp), bl_at]
theorem isNm_short {s : ByteArray} (h : s.size < 1) : isNm s = false := by
  unfold isNm; rw [show decide (1 ≤ s.size) = false from decide_eq_false (by omega)]; rfl
theorem isNm_long {s : ByteArray} (h : 12 < s.size) : isNm s = false := by
  unfold isNm; rw [show decide (s.size ≤ 12) = false from decide_eq_false (by omega), Bool.and_false]; rfl
theorem isNm_dig {s : ByteArray} (hp : 0 < s.size) (h : isDgt s[0] = true) : isNm s = false := by
  unfold isNm; rw [nm_head_at hp]; simp [h]
theorem isNm_res {s : ByteArray} (h : isRes s = true) : isNm s = false := by
  unfold isNm; rw [h]; simp
theorem isNm_at {s : ByteArray} {j : Nat} (hj : j < s.size) (h : (isLet s[j] || isDgt s[j]) = false) : isNm s = false := by
  unfold isNm
  have : (bl s).all (fun x => isLet x || isDgt x) = false := by
    rw [List.all_eq_false]
    exact ⟨s[j], by rw [← bl_at s j hj]; exact List.getElem_mem _, by rw [h]; decide⟩
  rw [this, Bool.and_false]
theorem isNm_first {s : ByteArray} (hp : 0 < s.size) (h : isLet s[0] = false) : isNm s = false := by
  cases hd : isDgt s[0] with
  | true => exact isNm_dig hp hd
  | false => exact isNm_at hp (by rw [h, hd]; rfl)
theorem isNm_yes {s : ByteArray} (h1 : 1 ≤ s.size) (h2 : s.size ≤ 12) (h3 : (∃ hp : 0 < s.size, isDgt s[0] = false) ∨ (∃ hp : 0 < s.size, isLet s[0] = true)) (h4 : isRes s = false) (h5 : ∀ k (h : k < s.size), (isLet s[k] || isDgt s[k]) = true) : isNm s = true := by
  have hd : isDgt s[0] = false := by
    rcases h3 with ⟨_, h⟩ | ⟨_, h⟩
    · exact h
    · exact let_not_dgt h
  unfold isNm
  rw [nm_head_at h1, h4]
  simp only [Option.any_some, hd, h1, h2, decide_true, Bool.not_false, Bool.and_true, Bool.true_and]
  rw [List.all_eq_true]
  intro x hx
  obtain ⟨k, hk, rfl⟩ := List.getElem_of_mem hx
  rw [bl_size] at hk
  rw [bl_at s k hk]
  exact h5 k hk
set_option maxRecDepth 100000 in
set_option maxHeartbeats 2000000 in
theorem implIsName_any (s : ByteArray) (w : World) (hs : s.size ≤ maxLen) (ht : Spc w) : Calls Tryd.prog 40 #[.string s] w fun e w' => e = .returned (.bool (isNm s)) ∧ Below w.heap.size w w' := by
  unfold maxLen at hs
  obtain ⟨R, hR⟩ : ∃ R, isNm s = R := ⟨_, rfl⟩
  rw [hR]
  have HR := Lib.hid hR
  clear hR
  have HX := Lib.hid (implIsReserved_any s w ht)
  clear ht
  by_cases h1 : s.size < 1
  · have hR0 : R = false := by rw [← HR.out, isNm_short h1]
    have t1 : decide ((s.size : Int) < 1) = true := decide_eq_true (by omega)
    subst hR0
    go_enter Tryd.func40, Tryd.ntmps40
    go_wp2_with fail
    go_ret
    exact ⟨rfl, Below.refl _ _⟩
  have t1 : decide ((s.size : Int) < 1) = false := decide_eq_false (by omega)
  by_cases h12 : 12 < s.size
  · have hR0 : R = false := by rw [← HR.out, isNm_long h12]
    have t2 : decide ((12 : Int) < s.size) = true := decide_eq_true (by omega)
    subst hR0
    go_enter Tryd.func40, Tryd.ntmps40
    go_wp2_with fail
    go_ret
    exact ⟨rfl, Below.refl _ _⟩
  have t2 : decide ((12 : Int) < s.size) = false := decide_eq_false (by omega)
  have hp : 0 < s.size := by omega
  have hp' : (0 : Int) < s.size := by omega
  obtain ⟨c0, hc0⟩ : ∃ c : Int, (s[0].toNat : Int) = c := ⟨_, rfl⟩
  have HF := Lib.hid (fun w => isDigit_any s[0] c0 hc0 w)
  go_enter Tryd.func40, Tryd.ntmps40
  go_wp2_with fail
  refine (HF.out _).mono ?_
  rintro e w' ⟨rfl, hw⟩
  obtain rfl := hw.symm
  by_cases hf : isDgt s[0] = true
  · have hR0 : R = false := by rw [← HR.out, isNm_dig hp hf]
    rw [hf]
    subst hR0
    go_wp2_with fail
    go_ret
    exact ⟨rfl, Below.refl _ _⟩
  have hf2 : isDgt s[0] = false := by simpa using hf
  rw [hf2]
  have HF2 := Lib.hid hf2
  clear hf hf2 HF
  go_wp2_with fail
  refine HX.out.mono ?_
  rintro e w1 ⟨rfl, hb1⟩
  by_cases hx : isRes s = true
  · have hR0 : R = false := by rw [← HR.out, isNm_res hx]
    rw [hx]
    subst hR0
    go_wp2_with fail
    go_ret
    exact ⟨rfl, hb1⟩
  have hx2 : isRes s = false := by simpa using hx
  rw [hx2]
  have HX2 := Lib.hid hx2
  clear hx hx2 HX
  go_wp2_with fail
  go_loopw [3] (fun i wr => ∃ j : Nat, i = .int .i64 j ∧ j ≤ s.size ∧ Hid (∀ k (h : k < s.size), k < j → (isLet s[k] || isDgt s[k]) = true) ∧ wr = w1) (fun i _ => s.size - (intOf i).toNat)
  case atStart => exact ⟨0, rfl, Nat.zero_le _, Lib.hid (fun k _ h => by omega), rfl⟩
  case round =>
    obtain ⟨j, rfl, hj, HD, hw⟩ := hrel
    obtain rfl : w1 = wr := hw.symm
    by_cases hlt : j < s.size
    · have t3 : decide ((j : Int) < s.size) = true := decide_eq_true (by omega)
      obtain ⟨c, hc⟩ : ∃ c : Int, (s[j].toNat : Int) = c := ⟨_, rfl⟩
      have HL := Lib.hid (fun w => isLetter_any s[j] c hc w)
      have HG := Lib.hid (fun w => isDigit_any s[j] c hc w)
      have HJ := Lib.hid (fun h => isNm_at (s := s) hlt h)
      have HD2 := Lib.hid (fun (h : (isLet s[j] || isDgt s[j]) = true) => show ∀ k (h : k < s.size), k < j + 1 → (isLet s[k] || isDgt s[k]) = true from fun k hk h1 => by
        rcases Nat.lt_or_ge k j with h2 | h2
        · exact HD.out k hk h2
        · obtain rfl : k = j := by omega
          exact h)
      go_wp2_with fail
      refine (HL.out _).mono ?_
      rintro e w' ⟨rfl, hw⟩
      obtain rfl := hw.symm
      by_cases hl : isLet s[j] = true
      · rw [hl]
        have HD3 := Lib.hid (HD2.out (by rw [hl]; rfl))
        clear HD2 HJ HG HL hl
        go_wp2_with fail
        go_roundw
        case rel => exact ⟨j + 1, by go_num, by omega, HD3, trivial⟩
        case measure => simp [intOf]; omega
      · have hl2 : isLet s[j] = false := by simpa using hl
        rw [hl2]
        have HL2 := Lib.hid hl2
        clear hl hl2 HL
        go_wp2_with fail
        refine (HG.out _).mono ?_
        rintro e w' ⟨rfl, hw⟩
        obtain rfl := hw.symm
        by_cases hg : isDgt s[j] = true
        · rw [hg]
          have HD3 := Lib.hid (HD2.out (by rw [hg]; simp))
          clear HD2 HJ HG hg HL2
          go_wp2_with fail
          go_roundw
          case rel => exact ⟨j + 1, by go_num, by omega, HD3, trivial⟩
          case measure => simp [intOf]; omega
        · have hg2 : isDgt s[j] = false := by simpa using hg
          have hR0 : R = false := by rw [← HR.out, HJ.out (by rw [HL2.out, hg2]; rfl)]
          rw [hg2]
          subst hR0
          clear hg hg2 HG HJ HD2
          go_wp2_with fail
          go_ret
          exact ⟨rfl, hb1⟩
    · have t3 : decide ((j : Int) < s.size) = false := decide_eq_false (by omega)
      have hR0 : R = true := by rw [← HR.out, isNm_yes (by omega) (by omega) (.inl ⟨hp, HF2.out⟩) HX2.out (fun k hk => HD.out k hk (by omega))]
      subst hR0
      go_wp2_with fail
      go_ret
      exact ⟨rfl, hb1⟩
set_option maxRecDepth 100000 in
set_option maxHeartbeats 2000000 in
theorem specIsName_any (s : ByteArray) (w : World) (hs : s.size ≤ maxLen) : Calls Tryd.prog 31 #[.string s] w fun e w' => e = .returned (.bool (isNm s)) ∧ Below w.heap.size w w' := by
  unfold maxLen at hs
  obtain ⟨R, hR⟩ : ∃ R, isNm s = R := ⟨_, rfl⟩
  rw [hR]
  have HR := Lib.hid hR
  clear hR
  have HX := Lib.hid (specIsReserved_any s w)
  skip
  by_cases h1 : s.size < 1
  · have hR0 : R = false := by rw [← HR.out, isNm_short h1]
    have t1 : decide ((s.size : Int) < 1) = true := decide_eq_true (by omega)
    subst hR0
    go_enter Tryd.func31, Tryd.ntmps31
    go_wp2_with fail
    go_ret
    exact ⟨rfl, Below.refl _ _⟩
  have t1 : decide ((s.size : Int) < 1) = false := decide_eq_false (by omega)
  by_cases h12 : 12 < s.size
  · have hR0 : R = false := by rw [← HR.out, isNm_long h12]
    have t2 : decide ((12 : Int) < s.size) = true := decide_eq_true (by omega)
    subst hR0
    go_enter Tryd.func31, Tryd.ntmps31
    go_wp2_with fail
    go_ret
    exact ⟨rfl, Below.refl _ _⟩
  have t2 : decide ((12 : Int) < s.size) = false := decide_eq_false (by omega)
  have hp : 0 < s.size := by omega
  have hp' : (0 : Int) < s.size := by omega
  obtain ⟨c0, hc0⟩ : ∃ c : Int, (s[0].toNat : Int) = c := ⟨_, rfl⟩
  have HF := Lib.hid (fun w => l5Letter_any s[0] c0 hc0 w)
  go_enter Tryd.func31, Tryd.ntmps31
  go_wp2_with fail
  refine (HF.out _).mono ?_
  rintro e w' ⟨rfl, hw⟩
  obtain rfl := hw.symm
  by_cases hf : isLet s[0] = false
  · have hR0 : R = false := by rw [← HR.out, isNm_first hp hf]
    rw [hf]
    subst hR0
    go_wp2_with fail
    go_ret
    exact ⟨rfl, Below.refl _ _⟩
  have hf2 : isLet s[0] = true := by simpa using hf
  rw [hf2]
  have HF2 := Lib.hid hf2
  clear hf hf2 HF
  go_wp2_with fail
  refine HX.out.mono ?_
  rintro e w1 ⟨rfl, hb1⟩
  by_cases hx : isRes s = true
  · have hR0 : R = false := by rw [← HR.out, isNm_res hx]
    rw [hx]
    subst hR0
    go_wp2_with fail
    go_ret
    exact ⟨rfl, hb1⟩
  have hx2 : isRes s = false := by simpa using hx
  rw [hx2]
  have HX2 := Lib.hid hx2
  clear hx hx2 HX
  go_wp2_with fail
  go_loopw [3] (fun i wr => ∃ j : Nat, i = .int .i64 j ∧ j ≤ s.size ∧ Hid (∀ k (h : k < s.size), k < j → (isLet s[k] || isDgt s[k]) = true) ∧ wr = w1) (fun i _ => s.size - (intOf i).toNat)
  case atStart => exact ⟨0, rfl, Nat.zero_le _, Lib.hid (fun k _ h => by omega), rfl⟩
  case round =>
    obtain ⟨j, rfl, hj, HD, hw⟩ := hrel
    obtain rfl : w1 = wr := hw.symm
    by_cases hlt : j < s.size
    · have t3 : decide ((j : Int) < s.size) = true := decide_eq_true (by omega)
      obtain ⟨c, hc⟩ : ∃ c : Int, (s[j].toNat : Int) = c := ⟨_, rfl⟩
      have HL := Lib.hid (fun w => l5Letter_any s[j] c hc w)
      have HG := Lib.hid (fun w => l5Digit_any s[j] c hc w)
      have HJ := Lib.hid (fun h => isNm_at (s := s) hlt h)
      have HD2 := Lib.hid (fun (h : (isLet s[j] || isDgt s[j]) = true) => show ∀ k (h : k < s.size), k < j + 1 → (isLet s[k] || isDgt s[k]) = true from fun k hk h1 => by
        rcases Nat.lt_or_ge k j with h2 | h2
        · exact HD.out k hk h2
        · obtain rfl : k = j := by omega
          exact h)
      go_wp2_with fail
      refine (HL.out _).mono ?_
      rintro e w' ⟨rfl, hw⟩
      obtain rfl := hw.symm
      by_cases hl : isLet s[j] = true
      · rw [hl]
        have HD3 := Lib.hid (HD2.out (by rw [hl]; rfl))
        clear HD2 HJ HG HL hl
        go_wp2_with fail
        go_roundw
        case rel => exact ⟨j + 1, by go_num, by omega, HD3, trivial⟩
        case measure => simp [intOf]; omega
      · have hl2 : isLet s[j] = false := by simpa using hl
        rw [hl2]
        have HL2 := Lib.hid hl2
        clear hl hl2 HL
        go_wp2_with fail
        refine (HG.out _).mono ?_
        rintro e w' ⟨rfl, hw⟩
        obtain rfl := hw.symm
        by_cases hg : isDgt s[j] = true
        · rw [hg]
          have HD3 := Lib.hid (HD2.out (by rw [hg]; simp))
          clear HD2 HJ HG hg HL2
          go_wp2_with fail
          go_roundw
          case rel => exact ⟨j + 1, by go_num, by omega, HD3, trivial⟩
          case measure => simp [intOf]; omega
        · have hg2 : isDgt s[j] = false := by simpa using hg
          have hR0 : R = false := by rw [← HR.out, HJ.out (by rw [HL2.out, hg2]; rfl)]
          rw [hg2]
          subst hR0
          clear hg hg2 HG HJ HD2
          go_wp2_with fail
          go_ret
          exact ⟨rfl, hb1⟩
    · have t3 : decide ((j : Int) < s.size) = false := decide_eq_false (by omega)
      have hR0 : R = true := by rw [← HR.out, isNm_yes (by omega) (by omega) (.inr ⟨hp, HF2.out⟩) HX2.out (fun k hk => HD.out k hk (by omega))]
      subst hR0
      go_wp2_with fail
      go_ret
      exact ⟨rfl, hb1⟩
end Go.Proofs.YtopaeiogbijppaaDoor
