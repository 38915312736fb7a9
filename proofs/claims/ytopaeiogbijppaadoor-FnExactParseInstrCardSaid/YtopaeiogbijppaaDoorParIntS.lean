/- ParseInt of both sides at every text. -/
import Derived.Test.YtopaeiogbijppaaDoorParIntI
namespace Go.Proofs.YtopaeiogbijppaaDoor
open Go.RowKit

theorem tail_list (s : ByteArray) : (s.extract 1 s.size).data.toList = s.data.toList.drop 1 := by
  simp only [ByteArray.data_extract, Array.toList_extract]
  rw [List.extract_eq_take_drop]
  apply List.take_of_length_le
  simp
theorem head_at (s : ByteArray) (h : 0 < s.size) : s.data.toList.head? = some s[0] := by
  rw [List.head?_eq_getElem?, List.getElem?_eq_getElem (by simpa using h)]
  simp; rfl
theorem second_at (s : ByteArray) (h : 1 < s.size) : s.data.toList[1]? = some s[1] := by
  rw [List.getElem?_eq_getElem (by simpa using h)]
  simp; rfl
theorem byte_is (b : UInt8) (c : Int) (h : (b.toNat : Int) = c) (k : UInt8) : (b = k) ↔ c = (k.toNat : Int) := by
  rw [← UInt8.toNat_inj]; omega
/-- numberIn, its answer behind a name. -/
theorem numberIn_is (s : ByteArray) (R : Option Nat) (w : World) (hs : s.size ≤ 1048576) (hR : numI 999999999999 s.data.toList = R) :
    Calls Tryd.prog 52 #[.string s, .int .i64 999999999999] w fun e w' => e = .returned (numOut (R.map fun n : Nat => (n : Int))) ∧ w' = w := by
  subst hR
  exact numberIn_any s 999999999999 w hs (Nat.le_refl _)
set_option maxHeartbeats 1000000 in
theorem implParseInt_any (s : ByteArray) (w : World) (hs : s.size ≤ 1048576) :
    Calls Tryd.prog 22 #[.string s] w fun e w' => e = .returned (numOut (parI s.data.toList)) ∧ w' = w := by
  have hlen : s.data.toList.length = s.size := by simp
  have rest : (¬ (s.data.toList.length > 1 ∧ s.data.toList.head? = some 45 ∧ s.data.toList[1]? ≠ some 48)) → parI s.data.toList = (numI 999999999999 s.data.toList).map fun n : Nat => (n : Int) := fun h => by rw [parI, if_neg h]
  obtain ⟨R, hR0⟩ : ∃ R, numI 999999999999 s.data.toList = R := ⟨_, rfl⟩
  have HN := Lib.hid (fun w => numberIn_is s R w hs hR0)
  by_cases h1 : 1 < s.size
  rotate_left 1
  · have hR := rest (fun h => by omega)
    rw [hR, hR0]
    have t1 : decide ((1 : Int) < s.size) = false := decide_eq_false (by omega)
    clear rest hR hR0 hlen
    go_enter Tryd.func22, Tryd.ntmps22
    go_wp2_with fail
    refine (HN.out _).mono ?_
    rintro e w' ⟨rfl, rfl⟩
    cases R
    · simp only [numOut, Option.map]
      go_wp2_with fail
      go_ret2
      exact ⟨rfl, rfl⟩
    · simp only [numOut, Option.map]
      go_wp2_with fail
      go_ret2
      exact ⟨rfl, rfl⟩
  have t1 : decide ((1 : Int) < s.size) = true := decide_eq_true (by omega)
  have h0 : 0 < s.size := by omega
  obtain ⟨c0, hc0⟩ : ∃ c : Int, (s[0].toNat : Int) = c := ⟨_, rfl⟩
  obtain ⟨c1, hc1⟩ : ∃ c : Int, (s[1].toNat : Int) = c := ⟨_, rfl⟩
  have e0 : (s.data.toList.head? = some 45) ↔ c0 = 45 := by rw [head_at s h0, Option.some.injEq, byte_is s[0] c0 hc0]; rfl
  have e1 : (s.data.toList[1]? = some 48) ↔ c1 = 48 := by rw [second_at s h1, Option.some.injEq, byte_is s[1] c1 hc1]; rfl
  by_cases h45 : c0 = 45
  · by_cases h48 : c1 = 48
    · have hR := rest (fun h => h.2.2 (e1.2 h48))
      rw [hR, hR0]
      subst h45 h48
      clear rest hR hR0 hlen e0 e1
      go_enter Tryd.func22, Tryd.ntmps22
      go_wp2_with fail
      refine (HN.out _).mono ?_
      rintro e w' ⟨rfl, rfl⟩
      cases R
      · simp only [numOut, Option.map]
        go_wp2_with fail
        go_ret2
        exact ⟨rfl, rfl⟩
      · simp only [numOut, Option.map]
        go_wp2_with fail
        go_ret2
        exact ⟨rfl, rfl⟩
    · obtain ⟨R1, hR1⟩ : ∃ R, numI 999999999999 (s.extract 1 s.size).data.toList = R := ⟨_, rfl⟩
      have hR : parI s.data.toList = R1.map fun n : Nat => -(n : Int) := by
        rw [parI, if_pos ⟨by omega, e0.2 h45, fun h => h48 (e1.1 h)⟩, ← hR1, tail_list]
      rw [hR]
      have HB := Lib.hid (show ∀ n, R1 = some n → n ≤ 999999999999 from fun n h => numI_some (hR1.trans h))
      have HN1 := Lib.hid (fun w => numberIn_is (s.extract 1 s.size) R1 w (by simp [ByteArray.size_extract]; omega) hR1)
      have t3 : (c1 != 48) = true := by simpa using h48
      have h1' : (1 : Int) ≤ s.size := by omega
      subst h45
      clear rest hR hR0 hR1 hlen e0 e1 HN
      go_enter Tryd.func22, Tryd.ntmps22
      go_wp2_with fail
      refine (HN1.out _).mono ?_
      rintro e w' ⟨rfl, rfl⟩
      cases R1 with
      | none =>
        simp only [numOut, Option.map]
        go_wp2_with fail
        go_ret2
        exact ⟨rfl, rfl⟩
      | some n =>
        have hn9 := HB.out n rfl
        simp only [numOut, Option.map]
        go_wp2_with fail
        go_ret2
        exact ⟨rfl, rfl⟩
  · have hR := rest (fun h => h45 (e0.1 h.2.1))
    rw [hR, hR0]
    have t2 : (c0 == 45) = false := by rw [beq_eq_false_iff_ne]; exact h45
    clear rest hR hR0 hlen e0 e1
    go_enter Tryd.func22, Tryd.ntmps22
    go_wp2_with fail
    refine (HN.out _).mono ?_
    rintro e w' ⟨rfl, rfl⟩
    cases R
    · simp only [numOut, Option.map]
      go_wp2_with fail
      go_ret2
      exact ⟨rfl, rfl⟩
    · simp only [numOut, Option.map]
      go_wp2_with fail
      go_ret2
      exact ⟨rfl, rfl⟩
end Go.Proofs.YtopaeiogbijppaaDoor
