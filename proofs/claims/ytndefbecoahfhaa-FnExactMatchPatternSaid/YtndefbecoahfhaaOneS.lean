/- spec's l19One: the same endings. -/
import Derived.Test.YtndefbecoahfhaaOneC
namespace Go.Proofs.Ytndefbecoahfhaa
open Go.RowKit

/-- spec's word for an ending: -1 where there is none. -/
def endInt (r : Option Nat) : Int := match r with
  | some y => (y : Int)
  | none => -1
theorem ret_int {a b : Int} (h : a = b) : Ending.returned (.int .i64 a) = .returned (.int .i64 b) := by rw [h]

section
variable (text : ByteArray) (num lo hi : Int) (A : Option Addr) (n c : Nat) (s : ByteArray) (p : Nat) (w : World)

set_option maxRecDepth 100000 in
set_option maxHeartbeats 4000000 in
theorem one_12  :
    Calls Try.prog 82 #[patV 12 text num lo hi (.slice A n c), .string s, .int .i64 p] w fun e w' => e = .returned (.int .i64 (endInt (oneEnd 12 text num lo hi s p))) ∧ Below w.heap.size w w' := by
  go_enter Try.func82, Try.ntmps82
  go_wp2_with fail
  go_ret
  exact ⟨rfl, (Below.refl _ _).alloc (Nat.le_refl _) _⟩

set_option maxRecDepth 100000 in
set_option maxHeartbeats 4000000 in
theorem one_22  :
    Calls Try.prog 82 #[patV 22 text num lo hi (.slice A n c), .string s, .int .i64 p] w fun e w' => e = .returned (.int .i64 (endInt (oneEnd 22 text num lo hi s p))) ∧ Below w.heap.size w w' := by
  go_enter Try.func82, Try.ntmps82
  go_wp2_with fail
  go_ret
  exact ⟨rfl, (Below.refl _ _).alloc (Nat.le_refl _) _⟩

set_option maxRecDepth 100000 in
set_option maxHeartbeats 4000000 in
theorem one_23  :
    Calls Try.prog 82 #[patV 23 text num lo hi (.slice A n c), .string s, .int .i64 p] w fun e w' => e = .returned (.int .i64 (endInt (oneEnd 23 text num lo hi s p))) ∧ Below w.heap.size w w' := by
  go_enter Try.func82, Try.ntmps82
  go_wp2_with fail
  go_ret
  exact ⟨rfl, (Below.refl _ _).alloc (Nat.le_refl _) _⟩

set_option maxRecDepth 100000 in
set_option maxHeartbeats 4000000 in
theorem one_2 (hs : s.size ≤ 120) (hp : p ≤ s.size) (h0 : 0 ≤ num) (h1 : num ≤ 120) :
    Calls Try.prog 82 #[patV 2 text num lo hi (.slice A n c), .string s, .int .i64 p] w fun e w' => e = .returned (.int .i64 (endInt (oneEnd 2 text num lo hi s p))) ∧ Below w.heap.size w w' := by
  by_cases hg : (p : Int) + num ≤ s.size
  · have HV := Lib.hid (show oneEnd 2 text num lo hi s p = some (p + num.toNat) from if_pos hg)
    go_enter Try.func82, Try.ntmps82
    go_wp2_with fail
    go_ret
    exact ⟨ret_int (by rw [HV.out]; simp [endInt] <;> omega), (Below.refl _ _).alloc (Nat.le_refl _) _⟩
  · have HV := Lib.hid (show oneEnd 2 text num lo hi s p = none from if_neg hg)
    go_enter Try.func82, Try.ntmps82
    go_wp2_with fail
    go_ret
    exact ⟨ret_int (by rw [HV.out]; rfl), (Below.refl _ _).alloc (Nat.le_refl _) _⟩

set_option maxRecDepth 100000 in
set_option maxHeartbeats 4000000 in
theorem one_3  :
    Calls Try.prog 82 #[patV 3 text num lo hi (.slice A n c), .string s, .int .i64 p] w fun e w' => e = .returned (.int .i64 (endInt (oneEnd 3 text num lo hi s p))) ∧ Below w.heap.size w w' := by
  by_cases hg : num = (p : Int)
  · have HV := Lib.hid (show oneEnd 3 text num lo hi s p = some (p) from if_pos hg)
    have hg1 : (num == (p : Int)) = true := by simpa using hg
    have HG := Lib.hid hg
    clear hg
    go_enter Try.func82, Try.ntmps82
    go_wp2_with fail
    go_ret
    exact ⟨ret_int (by rw [HV.out]; simp [endInt] <;> omega), (Below.refl _ _).alloc (Nat.le_refl _) _⟩
  · have HV := Lib.hid (show oneEnd 3 text num lo hi s p = none from if_neg hg)
    have hg1 : (num == (p : Int)) = false := by simpa using hg
    go_enter Try.func82, Try.ntmps82
    go_wp2_with fail
    go_ret
    exact ⟨ret_int (by rw [HV.out]; rfl), (Below.refl _ _).alloc (Nat.le_refl _) _⟩

set_option maxRecDepth 100000 in
set_option maxHeartbeats 4000000 in
theorem one_4 (hs : s.size ≤ 120) (hp : p ≤ s.size) :
    Calls Try.prog 82 #[patV 4 text num lo hi (.slice A n c), .string s, .int .i64 p] w fun e w' => e = .returned (.int .i64 (endInt (oneEnd 4 text num lo hi s p))) ∧ Below w.heap.size w w' := by
  by_cases hg : num = (s.size : Int) - p
  · have HV := Lib.hid (show oneEnd 4 text num lo hi s p = some (p) from if_pos hg)
    have hg1 : (num == ((s.size : Int) - p)) = true := by simpa using hg
    have HG := Lib.hid hg
    clear hg
    go_enter Try.func82, Try.ntmps82
    go_wp2_with fail
    go_ret
    exact ⟨ret_int (by rw [HV.out]; simp [endInt] <;> omega), (Below.refl _ _).alloc (Nat.le_refl _) _⟩
  · have HV := Lib.hid (show oneEnd 4 text num lo hi s p = none from if_neg hg)
    have hg1 : (num == ((s.size : Int) - p)) = false := by simpa using hg
    go_enter Try.func82, Try.ntmps82
    go_wp2_with fail
    go_ret
    exact ⟨ret_int (by rw [HV.out]; rfl), (Below.refl _ _).alloc (Nat.le_refl _) _⟩

set_option maxRecDepth 100000 in
set_option maxHeartbeats 4000000 in
theorem one_6 (hs : s.size ≤ 120) (hp : p ≤ s.size) (h0 : 0 ≤ num) (h1 : num ≤ 120) :
    Calls Try.prog 82 #[patV 6 text num lo hi (.slice A n c), .string s, .int .i64 p] w fun e w' => e = .returned (.int .i64 (endInt (oneEnd 6 text num lo hi s p))) ∧ Below w.heap.size w w' := by
  have hq : ((p : Int) ≤ (s.size : Int) - num) ↔ num ≤ (s.size : Int) - p := by omega
  have HQ := Lib.hid hq
  clear hq
  by_cases hg : (p : Int) ≤ (s.size : Int) - num
  · have HV := Lib.hid (show oneEnd 6 text num lo hi s p = some (s.size - num.toNat) from if_pos hg)
    have hg1 : num ≤ (s.size : Int) - p := HQ.out.1 hg
    go_enter Try.func82, Try.ntmps82
    go_wp2_with fail
    go_ret
    exact ⟨ret_int (by rw [HV.out]; simp [endInt] <;> omega), (Below.refl _ _).alloc (Nat.le_refl _) _⟩
  · have HV := Lib.hid (show oneEnd 6 text num lo hi s p = none from if_neg hg)
    have hg1 : ¬ num ≤ (s.size : Int) - p := fun h => hg (HQ.out.2 h)
    go_enter Try.func82, Try.ntmps82
    go_wp2_with fail
    go_ret
    exact ⟨ret_int (by rw [HV.out]; rfl), (Below.refl _ _).alloc (Nat.le_refl _) _⟩

set_option maxRecDepth 100000 in
set_option maxHeartbeats 4000000 in
theorem one_5 (h0 : 0 ≤ num) (h1 : num ≤ 120) :
    Calls Try.prog 82 #[patV 5 text num lo hi (.slice A n c), .string s, .int .i64 p] w fun e w' => e = .returned (.int .i64 (endInt (oneEnd 5 text num lo hi s p))) ∧ Below w.heap.size w w' := by
  by_cases hg : (p : Int) ≤ num
  · by_cases hg2 : num ≤ (s.size : Int)
    · have HV := Lib.hid (show oneEnd 5 text num lo hi s p = some num.toNat from (show _ = if (p : Int) ≤ num ∧ num ≤ s.size then some num.toNat else none from rfl).trans (if_pos ⟨hg, hg2⟩))
      go_enter Try.func82, Try.ntmps82
      go_wp2_with fail
      go_ret
      exact ⟨ret_int (by rw [HV.out]; simp [endInt]; omega), (Below.refl _ _).alloc (Nat.le_refl _) _⟩
    · have HV := Lib.hid (show oneEnd 5 text num lo hi s p = none from (show _ = if (p : Int) ≤ num ∧ num ≤ s.size then some num.toNat else none from rfl).trans (if_neg (fun h => hg2 h.2)))
      go_enter Try.func82, Try.ntmps82
      go_wp2_with fail
      go_ret
      exact ⟨ret_int (by rw [HV.out]; rfl), (Below.refl _ _).alloc (Nat.le_refl _) _⟩
  · have HV := Lib.hid (show oneEnd 5 text num lo hi s p = none from (show _ = if (p : Int) ≤ num ∧ num ≤ s.size then some num.toNat else none from rfl).trans (if_neg (fun h => hg h.1)))
    go_enter Try.func82, Try.ntmps82
    go_wp2_with fail
    go_ret
    exact ⟨ret_int (by rw [HV.out]; rfl), (Below.refl _ _).alloc (Nat.le_refl _) _⟩

set_option maxRecDepth 100000 in
set_option maxHeartbeats 4000000 in
theorem one_1 (hs : s.size ≤ 120) (hp : p ≤ s.size) (h0 : text.size ≤ 120) :
    Calls Try.prog 82 #[patV 1 text num lo hi (.slice A n c), .string s, .int .i64 p] w fun e w' => e = .returned (.int .i64 (endInt (oneEnd 1 text num lo hi s p))) ∧ Below w.heap.size w w' := by
  have HV := Lib.hid (show oneEnd 1 text num lo hi s p = if p + text.size ≤ s.size ∧ s.extract p (p + text.size) = text then some (p + text.size) else none from rfl)
  have hw1 : IntKind.i64.wrap ((p : Int) + text.size) = (p : Int) + text.size := IntWalk.i64_in _ (by omega)
  have hw2 : IntKind.i64.wrap ((s.size : Int) - p) = (s.size : Int) - p := IntWalk.i64_in _ (by omega)
  by_cases hg : (text.size : Int) ≤ (s.size : Int) - p
  · have hg' : decide ((text.size : Int) ≤ (s.size : Int) - p) = true := by simpa using hg
    have hg2 : (p : Int) ≤ (p : Int) + text.size := by omega
    have hg3 : (0 : Int) ≤ (p : Int) := by omega
    have hg4 : (p : Int) + text.size ≤ s.size := by omega
    by_cases he : s.extract p (p + text.size) = text
    · have he' : ((s.extract p (p + text.size)).toList == text.toList) = true := by rw [he]; simp
      go_enter Try.func82, Try.ntmps82
      go_wp2_with fail
      go_quiet (fail)
      go_wp2_with fail
      go_ret
      exact ⟨ret_int (by rw [HV.out, if_pos ⟨by omega, he⟩]; simp [endInt]), below_drewN' ((Below.refl _ _).alloc (Nat.le_refl _) _) _⟩
    · have he' : ((s.extract p (p + text.size)).toList == text.toList) = false := by simpa using fun h => he (toList_inj h)
      go_enter Try.func82, Try.ntmps82
      go_wp2_with fail
      go_quiet (fail)
      go_wp2_with fail
      go_ret
      exact ⟨ret_int (by rw [HV.out, if_neg (by simp [he])]; rfl), below_drewN' ((Below.refl _ _).alloc (Nat.le_refl _) _) _⟩
  · have hg' : decide ((text.size : Int) ≤ (s.size : Int) - p) = false := by simpa using hg
    go_enter Try.func82, Try.ntmps82
    go_wp2_with fail
    go_quiet (fail)
    go_wp2_with fail
    go_ret
    exact ⟨ret_int (by rw [HV.out, if_neg (by omega)]; rfl), below_drewN' ((Below.refl _ _).alloc (Nat.le_refl _) _) _⟩
end

end Go.Proofs.Ytndefbecoahfhaa
