/- What the walk of spec.l18Valid uses. -/
import Derived.Test.YtndefbecoahfhaaValid
namespace Go.Proofs.Ytndefbecoahfhaa
open Go.RowKit
theorem l1In_any (n lo hi : Int) (w : World) : Calls Try.prog 40 #[.int .i64 n, .int .i64 lo, .int .i64 hi] w fun e w' => e = .returned (.bool (decide (lo ≤ n) && decide (n ≤ hi))) ∧ w = w' := by
  by_cases h1 : lo ≤ n
  · by_cases h2 : n ≤ hi
    · go_enter Try.func40, Try.ntmps40
      go_wp2
      go_ret
      exact ⟨ret_bool (by simp [h1, h2]), rfl⟩
    · go_enter Try.func40, Try.ntmps40
      go_wp2
      go_ret
      exact ⟨ret_bool (by simp; omega), rfl⟩
  · have HV : Hid ((decide (lo ≤ n) && decide (n ≤ hi)) = false) := by rw [decide_eq_false h1]; rfl
    go_enter Try.func40, Try.ntmps40
    go_wp2
    go_ret
    exact ⟨ret_bool HV.out.symm, rfl⟩
theorem l1In_is (b : Bool) (n lo hi : Int) (w : World) (h : (decide (lo ≤ n) && decide (n ≤ hi)) = b) : Calls Try.prog 40 #[.int .i64 n, .int .i64 lo, .int .i64 hi] w fun e w' => e = .returned (.bool b) ∧ w = w' := by
  rw [← h]; exact l1In_any n lo hi w
theorem size_of_empty {s : ByteArray} (h : s.toList = []) : (s.size : Int) = 0 := by
  rw [ByteArray.toList_eq] at h
  have : s.data.size = 0 := by rw [← Array.length_toList, h]; rfl
  exact Int.ofNat_eq_zero.2 this
end Go.Proofs.Ytndefbecoahfhaa
