/- impl's numberIn and ParseInt at every text. -/
import Derived.Test.YtopaeiogbijppaaDoorParRes
import Derived.Test.YtopaeiogbijppaaDoorNumbers
namespace Go.Proofs.YtopaeiogbijppaaDoor
open Go.RowKit

/-- A number that was read, or none. -/
def numOut : Option Int → Value
  | some n => .tuple #[.int .i64 n, .bool true]
  | none => .tuple #[.int .i64 0, .bool false]
theorem dig_at (s : ByteArray) (k : Nat) (hk : k < s.size) (c : Int) (hc : (s[k].toNat : Int) = c) : isDig (s.data.toList[k]'(by simpa using hk)) = (decide (48 ≤ c) && decide (c ≤ 57)) := by
  subst hc
  have e : s.data.toList[k]'(by simpa using hk) = s[k] := by simp; rfl
  rw [e]
  simp only [isDig]
  congr 1 <;> (rw [decide_eq_decide]; omega)
theorem sub_at (s : ByteArray) (k : Nat) (hk : k < s.size) (c : Int) (hc : (s[k].toNat : Int) = c) (h : 48 ≤ c) : ((val (s.data.toList.take (k + 1)) : Nat) : Int) = (val (s.data.toList.take k) : Nat) * 10 + (c - 48) := by
  subst hc
  have e : s.data.toList[k]'(by simpa using hk) = s[k] := by simp; rfl
  rw [val_take _ _ (by simpa using hk), e]
  omega
set_option maxHeartbeats 1000000 in
theorem numberIn_any (s : ByteArray) (most : Nat) (w : World) (hs : s.size ≤ 1048576) (hm : most ≤ 999999999999) :
    Calls Tryd.prog 52 #[.string s, .int .i64 most] w fun e w' => e = .returned (numOut ((numI most s.data.toList).map fun n : Nat => (n : Int))) ∧ w' = w := by
  have hlen : s.data.toList.length = s.size := by simp
  obtain ⟨R, hR⟩ : ∃ R, numI most s.data.toList = R := ⟨_, rfl⟩
  rw [hR]
  by_cases h0 : s.size = 0
  · have hR0 : R = none := by rw [← hR]; unfold numI; rw [if_pos (.inl (by omega))]
    subst hR0
    have HR := Lib.hid hR
    have t0 : ((s.size : Int) == 0) = true := by rw [beq_iff_eq]; omega
    clear hR hlen
    go_enter Tryd.func52, Tryd.ntmps52
    go_wp2_with fail
    go_ret2
    exact ⟨rfl, rfl⟩
  have t0 : ((s.size : Int) == 0) = false := by rw [beq_eq_false_iff_ne]; omega
  by_cases h1 : s.size > 12
  · have hR0 : R = none := by rw [← hR]; unfold numI; rw [if_pos (.inr (.inl (by omega)))]
    subst hR0
    have t1 : decide ((12 : Int) < s.size) = true := decide_eq_true (by omega)
    clear hR hlen
    go_enter Tryd.func52, Tryd.ntmps52
    go_wp2_with fail
    go_ret2
    exact ⟨rfl, rfl⟩
  have t1 : decide ((12 : Int) < s.size) = false := decide_eq_false (by omega)
  have hp : 0 < s.size := by omega
  obtain ⟨c0, hc0⟩ : ∃ c : Int, (s[0].toNat : Int) = c := ⟨_, rfl⟩
  have hhd : s.data.toList.head? = some s[0] := by
    rw [List.head?_eq_getElem?, List.getElem?_eq_getElem (by omega)]
    simp; rfl
  by_cases h2 : s.size > 1 ∧ c0 = 48
  · obtain ⟨h2, rfl⟩ := h2
    have e48 : s[0] = 48 := UInt8.toNat_inj.1 (by have : (48 : UInt8).toNat = 48 := rfl; omega)
    have hR0 : R = none := by rw [← hR]; unfold numI; rw [if_pos (.inr (.inr ⟨by omega, by rw [hhd, e48]⟩))]
    subst hR0
    have t2 : decide ((1 : Int) < s.size) = true := decide_eq_true (by omega)
    clear hR hlen hhd e48
    go_enter Tryd.func52, Tryd.ntmps52
    go_wp2_with fail
    go_ret2
    exact ⟨rfl, rfl⟩
  have hR2 : R = if s.data.toList.all isDig then (if most < val s.data.toList then none else some (val s.data.toList)) else none := by
    rw [← hR]
    unfold numI
    rw [if_neg]
    rintro (h | h | ⟨h, h'⟩)
    · omega
    · omega
    · rw [hhd] at h'
      have e : s[0] = 48 := by simpa using h'
      exact h2 ⟨by omega, by rw [← hc0, e]; rfl⟩
  have HR := Lib.hid hR2
  have HLEN := Lib.hid hlen
  clear hR hR2 hlen hhd
  have main : Calls Tryd.prog 52 #[.string s, .int .i64 most] w fun e w' => e = .returned (numOut (R.map fun n : Nat => (n : Int))) ∧ w' = w := by
    have hcase : (s.size = 1) ∨ (1 < s.size ∧ c0 ≠ 48) := by omega
    rcases hcase with h3 | ⟨h3, h4⟩
    all_goals
      first | (have t2 : decide ((1 : Int) < s.size) = true := decide_eq_true (by omega)) | (have t2 : decide ((1 : Int) < s.size) = false := decide_eq_false (by omega))
      first | (have t3 : (c0 == 48) = false := by simpa using h4) | skip
      go_enter Tryd.func52, Tryd.ntmps52
      go_wp2_with fail
      go_loopw [6, 7] (fun n i wr => ∃ (k : Nat) (m : Nat), i = .int .i64 k ∧ n = .int .i64 m ∧ k ≤ s.size ∧ m < 1000000000000 ∧ Hid (m = val (s.data.toList.take k) ∧ (s.data.toList.take k).all isDig = true) ∧ wr = w) (fun _ i _ => s.size - (intOf i).toNat)
      case atStart => exact ⟨0, 0, rfl, rfl, Nat.zero_le _, by omega, Lib.hid ⟨by simp [val], by simp⟩, rfl⟩
      case round =>
        obtain ⟨k, m, rfl, rfl, hk, hm12, HD, hw⟩ := hrel
        obtain rfl : w = wr := hw.symm
        by_cases hlt : k < s.size
        · obtain ⟨c, hc⟩ : ∃ c : Int, (s[k].toNat : Int) = c := ⟨_, rfl⟩
          have hcb : 0 ≤ c ∧ c < 256 := by have := s[k].toNat_lt; omega
          have hlt' : (k : Int) < s.size := by omega
          have HDG := Lib.hid (dig_at s k hlt c hc)
          by_cases hd : 48 ≤ c ∧ c ≤ 57
          · have d1 : decide (c < 48) = false := decide_eq_false (by omega)
            have d2 : decide ((57 : Int) < c) = false := decide_eq_false (by omega)
            have HS := Lib.hid (sub_at s k hlt c hc hd.1)
            have hd0 := hd.1
            have hd1 := hd.2
            clear hd
            go_wp2_with fail
            go_roundw
            case rel =>
              have hall : (s.data.toList.take (k + 1)).all isDig = true := all_take _ _ (by rw [HLEN.out]; exact hlt) HD.out.2 (by rw [HDG.out]; simp; omega)
              have hv := val_take_lt s.data.toList (k + 1) (by rw [HLEN.out]; omega) (by rw [HLEN.out]; omega) hall
              have hsub := HS.out
              rw [← HD.out.1] at hsub
              exact ⟨k + 1, val (s.data.toList.take (k + 1)), by go_num, by rw [hsub], by omega, hv, Lib.hid ⟨rfl, hall⟩, trivial⟩
            case measure => simp [intOf]; omega
          · have hR0 : R = none := by
              rw [HR.out, not_all s.data.toList k (by rw [HLEN.out]; exact hlt) (by rw [HDG.out]; simp; omega)]; rfl
            subst hR0
            have hdn : c < 48 ∨ (48 ≤ c ∧ 57 < c) := by omega
            clear hd
            rcases hdn with hdn | ⟨hdn, hdn'⟩
            · have d1 : decide (c < 48) = true := decide_eq_true (by omega)
              go_wp2_with fail
              go_ret2
              exact ⟨rfl, rfl⟩
            · have d1 : decide (c < 48) = false := decide_eq_false (by omega)
              have d2 : decide ((57 : Int) < c) = true := decide_eq_true (by omega)
              go_wp2_with fail
              go_ret2
              exact ⟨rfl, rfl⟩
        · have hke : k = s.size := by omega
          have htk : s.data.toList.take k = s.data.toList := List.take_of_length_le (by rw [HLEN.out]; omega)
          have hmv : m = val s.data.toList ∧ s.data.toList.all isDig = true := by have := HD.out; rwa [htk] at this
          have hR3 : R = if most < m then none else some m := by rw [HR.out, if_pos hmv.2, hmv.1]
          clear htk hmv
          by_cases hgt : most < m
          · rw [if_pos hgt] at hR3
            subst hR3
            have d3 : decide ((most : Int) < m) = true := decide_eq_true (by omega)
            go_wp2_with fail
            go_ret2
            exact ⟨rfl, rfl⟩
          · rw [if_neg hgt] at hR3
            subst hR3
            have d3 : decide ((most : Int) < m) = false := decide_eq_false (by omega)
            go_wp2_with fail
            go_ret2
            exact ⟨rfl, rfl⟩
  exact main
end Go.Proofs.YtopaeiogbijppaaDoor
