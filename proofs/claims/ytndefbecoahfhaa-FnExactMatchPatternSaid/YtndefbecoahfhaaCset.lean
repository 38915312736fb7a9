/- HasByte, impl's and spec's: one bit of a set of bytes. -/
import Derived.Test.YtndefbecoahfhaaChecked
import Derived.WalkKit
import Derived.WalkSpells
import Derived.WalkLawsBesides
import Derived.Lib.Hide
namespace Go.Proofs.Ytndefbecoahfhaa
open Go.RowKit

/-- Bit k of a 64-bit word. -/
def bit (x : Int) (k : Nat) : Bool := bits .and .u64 (IntKind.u64.wrap x / 2 ^ k) 1 == 1
theorem wrap_u64_ofInt (x : Int) : IntKind.u64.wrap x = ((BitVec.ofInt 64 x).toNat : Int) := by
  rw [BitVec.toNat_ofInt]
  have : IntKind.u64.wrap x = x % 18446744073709551616 := by rw [IntKind.wrap_u64]
  rw [this]; omega
theorem bit_eq (x : Int) (k : Nat) : bit x k = (BitVec.ofInt 64 x).getLsbD k := by
  unfold bit
  rw [wrap_u64_ofInt]
  generalize BitVec.ofInt 64 x = X
  have hX := X.isLt
  have e : ((X.toNat : Int) / 2 ^ k) = ((X.toNat / 2 ^ k : Nat) : Int) := by simp
  have hle : X.toNat / 2 ^ k ≤ X.toNat := Nat.div_le_self _ _
  rw [e, show (1 : Int) = ((1 : Nat) : Int) from rfl, u64_and_nat _ _ (by omega) (by omega)]
  rw [BitVec.getLsbD, Nat.testBit, Nat.shiftRight_eq_div_pow, Nat.and_comm]
  rcases Nat.mod_two_eq_zero_or_one (X.toNat / 2 ^ k) with h | h <;> simp [h]
theorem bits_i64 (x y : Int) : bits .and .i64 x y = IntKind.i64.wrap ((BitVec.ofInt 64 x &&& BitVec.ofInt 64 y).toNat : Int) := rfl
theorem bit_spec (x : Int) (k : Nat) (hk : k < 64) : (bits .and .i64 x (wrap64 (2 ^ k)) != 0) = bit x k := by
  rw [bit_eq, bits_i64]
  have e : BitVec.ofInt 64 (wrap64 (2 ^ k)) = BitVec.twoPow 64 k := by
    apply BitVec.eq_of_toNat_eq
    rw [BitVec.toNat_ofInt, BitVec.toNat_twoPow]
    have hp : (2 : Nat) ^ k < 2 ^ 64 := Nat.pow_lt_pow_right (by decide) hk
    have hc : ((2 : Int) ^ k) = ((2 ^ k : Nat) : Int) := by simp
    rw [hc]
    unfold wrap64
    rw [Nat.mod_eq_of_lt hp]
    generalize 2 ^ k = n at *
    omega
  rw [e, BitVec.and_twoPow]
  cases h : (BitVec.ofInt 64 x).getLsbD k
  · simp
    rfl
  · simp only [if_true]
    have hp : (2 : Nat) ^ k < 2 ^ 64 := Nat.pow_lt_pow_right (by decide) hk
    have hpos : 0 < (2 : Nat) ^ k := Nat.pow_pos (by decide)
    rw [BitVec.toNat_twoPow, Nat.mod_eq_of_lt hp, IntKind.wrap_i64]
    generalize 2 ^ k = n at *
    simp
    omega

/-- Whether the byte b is of the set. -/
def hb (lo hi b : Int) : Bool := if 127 < b then false else if b < 64 then bit lo b.toNat else bit hi (b - 64).toNat
theorem hb_out (lo hi b : Int) (h : 127 < b) : hb lo hi b = false := by unfold hb; rw [if_pos h]
theorem hb_lo (lo hi b : Int) (_h0 : 0 ≤ b) (h : b < 64) : hb lo hi b = bit lo b.toNat := by unfold hb; rw [if_neg (by omega), if_pos h]
theorem hb_hi (lo hi b : Int) (h0 : 64 ≤ b) (h : b ≤ 127) : hb lo hi b = bit hi (b - 64).toNat := by unfold hb; rw [if_neg (by omega), if_neg (by omega)]

set_option maxHeartbeats 400000 in
theorem implHasByte_any (lo hi b : Int) (w : World) (h0 : 0 ≤ b) (h1 : b < 256) :
    Calls Try.prog 56 #[.agg #[.int .i64 lo, .int .i64 hi], .int .u8 b] w fun e w' => e = .returned (.bool (hb lo hi b)) ∧ Below w.heap.size w w' := by
  by_cases h2 : 127 < b
  · rw [hb_out lo hi b h2]
    go_enter Try.func56, Try.ntmps56
    go_wp2
    go_ret
    exact ⟨rfl, (Below.refl _ _).alloc (Nat.le_refl _) _⟩
  · by_cases h3 : b < 64
    · have hv := Lib.hid (hb_lo lo hi b h0 h3)
      go_enter Try.func56, Try.ntmps56
      go_wp2
      go_ret
      exact ⟨by rw [hv.out]; rfl, (Below.refl _ _).alloc (Nat.le_refl _) _⟩
    · have hv := Lib.hid (hb_hi lo hi b (by omega) (by omega))
      go_enter Try.func56, Try.ntmps56
      go_wp2
      go_ret
      exact ⟨by rw [hv.out]; rfl, (Below.refl _ _).alloc (Nat.le_refl _) _⟩

set_option maxHeartbeats 400000 in
theorem specHasByte_any (lo hi b : Int) (w : World) (h0 : 0 ≤ b) (h1 : b < 256) :
    Calls Try.prog 73 #[.agg #[.int .i64 lo, .int .i64 hi], .int .u8 b] w fun e w' => e = .returned (.bool (hb lo hi b)) ∧ Below w.heap.size w w' := by
  by_cases h2 : 127 < b
  · rw [hb_out lo hi b h2]
    go_enter Try.func73, Try.ntmps73
    go_wp2
    go_ret
    exact ⟨rfl, (Below.refl _ _).alloc (Nat.le_refl _) _⟩
  · by_cases h3 : b < 64
    · have hv := Lib.hid (hb_lo lo hi b h0 h3)
      go_enter Try.func73, Try.ntmps73
      go_wp2
      go_ret
      exact ⟨by rw [hv.out]; rw [← bit_spec lo b.toNat (by omega)]; rfl, (Below.refl _ _).alloc (Nat.le_refl _) _⟩
    · have hv := Lib.hid (hb_hi lo hi b (by omega) (by omega))
      go_enter Try.func73, Try.ntmps73
      go_wp2
      go_ret
      exact ⟨by rw [hv.out]; rw [← bit_spec hi (b - 64).toNat (by omega)]; rfl, (Below.refl _ _).alloc (Nat.le_refl _) _⟩

end Go.Proofs.Ytndefbecoahfhaa
