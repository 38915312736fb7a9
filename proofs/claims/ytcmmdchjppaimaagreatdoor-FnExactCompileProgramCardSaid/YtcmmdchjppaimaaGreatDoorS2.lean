/- Part of the walks that the claim stands on. -/
import Derived.Test.YtcmmdchjppaimaaGreatDoorS1
import Derived.Deep.DeepCutAuto
import Derived.Deep.LoopGhost
import Derived.Deep.CutBlock
import Derived.Test.YtcmmdchjppaimaaGreatDoorChecked
import Derived.Lib.Hide
import Derived.WalkKit
import Derived.WalkSpells
import Derived.WalkLawsBesides
import Derived.Outline
import Derived.Laws.IdiomStrings
set_option maxRecDepth 1000000
set_option maxHeartbeats 40000000
namespace Go.Proofs.YtcmmdchjppaimaaGreatDoor
open Go.RowKit
def Zdn (op : Int) : Int := if opT op = [] then 0 else if op ≤ 11 ∨ op = 81 then 1 else if op = 71 ∨ op = 72 then 3 else if op = 74 then 0 else 2
def Zdz (op : Int) : Int := if opT op = [] then -1 else if op ≤ 11 ∨ op = 81 then 1 else if op = 71 ∨ op = 72 then 3 else if op = 73 ∨ op = 74 then 8 else 2
theorem Zjs (op : Int) (w : World) (ht : Spc w) : Calls Tryz.prog 167 #[.int .i64 op] w fun e w' => e = .returned (.tuple #[.int .i64 (Zdn op), .int .i64 (Zdz op)]) ∧ Below w.heap.size w w' := by
 obtain ⟨L, hL⟩ : ∃ L, Zdn op = L := ⟨_, rfl⟩;obtain ⟨H, hH⟩ : ∃ H, Zdz op = H := ⟨_, rfl⟩;rw [hL, hH];have HL := zh hL;have HH := zh hH;have hC := (Zki op w ht);obtain ⟨z, hz⟩ : ∃ z, (⟨(opT op).toArray⟩ : ByteArray) = z := ⟨_, rfl⟩;rw [hz] at hC;have HC := zh hC;clear hL hH hC ht
 by_cases hz0 : opT op = []
 ·rw [hz0] at hz;have hl : L = 0 := by rw [← HL.o, Zdn, if_pos hz0]
  have hh : H = -1 := by rw [← HH.o, Zdz, if_pos hz0]
  subst hl hh;subst hz;go_enter Tryz.func167, Tryz.ntmps167;go_wp2_with fail;refine HC.o.mono ?_;rintro e w1 ⟨rfl, hb1⟩;go_wp2_with fail
  go_ret2
  exact ⟨rfl, hb1⟩
 have v1 : (z.toList == []) = false := by
  rw [nH];intro h
  apply hz0
  have h2 := ByteArray.toList_eq z;rw [h, ← hz] at h2;exact h2.symm
 have HZ0 := zh hz0;clear hz hz0;go_enter Tryz.func167, Tryz.ntmps167;go_wp2_with fail;refine HC.o.mono ?_;rintro e w1 ⟨rfl, hb1⟩;clear HC;have hi : (op ≤ 11) ∨ (12 ≤ op ∧ op ≤ 70) ∨ (71 ≤ op ∧ op ≤ 71) ∨ (72 ≤ op ∧ op ≤ 72) ∨ (73 ≤ op ∧ op ≤ 73) ∨ (74 ≤ op ∧ op ≤ 74) ∨ (75 ≤ op ∧ op ≤ 80) ∨ (81 ≤ op ∧ op ≤ 81) ∨ (82 ≤ op) := by omega
 rcases hi with hi | hi | hi | hi | hi | hi | hi | hi | hi
 ·skip
  have : decide (op ≤ (11 : Int)) = true := nT (by omega);have : (op == (81 : Int)) = false := by rw [nH]; omega
  have : (op == (71 : Int)) = false := by rw [nH]; omega
  have : (op == (72 : Int)) = false := by rw [nH]; omega
  have : (op == (73 : Int)) = false := by rw [nH]; omega
  have : (op == (74 : Int)) = false := by rw [nH]; omega
  have hl : L = 1 := by rw [← HL.o, Zdn, if_neg HZ0.o]; rw [if_pos (by omega)]
  have hh : H = 1 := by rw [← HH.o, Zdz, if_neg HZ0.o]; rw [if_pos (by omega)]
  subst hl hh;go_wp2_with fail
  go_ret2
  exact ⟨rfl, hb1⟩
 ·skip
  have : decide (op ≤ (11 : Int)) = false := nU (by omega);have : (op == (81 : Int)) = false := by rw [nH]; omega
  have : (op == (71 : Int)) = false := by rw [nH]; omega
  have : (op == (72 : Int)) = false := by rw [nH]; omega
  have : (op == (73 : Int)) = false := by rw [nH]; omega
  have : (op == (74 : Int)) = false := by rw [nH]; omega
  have hl : L = 2 := by rw [← HL.o, Zdn, if_neg HZ0.o]; rw [if_neg (by omega), if_neg (by omega), if_neg (by omega)]
  have hh : H = 2 := by rw [← HH.o, Zdz, if_neg HZ0.o]; rw [if_neg (by omega), if_neg (by omega), if_neg (by omega)]
  subst hl hh;go_wp2_with fail
  go_ret2
  exact ⟨rfl, hb1⟩
 ·skip
  have : decide (op ≤ (11 : Int)) = false := nU (by omega);have : (op == (81 : Int)) = false := by rw [nH]; omega
  have : (op == (71 : Int)) = true := by rw [beq_iff_eq]; omega
  have : (op == (72 : Int)) = false := by rw [nH]; omega
  have : (op == (73 : Int)) = false := by rw [nH]; omega
  have : (op == (74 : Int)) = false := by rw [nH]; omega
  have hl : L = 3 := by rw [← HL.o, Zdn, if_neg HZ0.o]; rw [if_neg (by omega), if_pos (by omega)]
  have hh : H = 3 := by rw [← HH.o, Zdz, if_neg HZ0.o]; rw [if_neg (by omega), if_pos (by omega)]
  subst hl hh;go_wp2_with fail
  go_ret2
  exact ⟨rfl, hb1⟩
 ·skip
  have : decide (op ≤ (11 : Int)) = false := nU (by omega);have : (op == (81 : Int)) = false := by rw [nH]; omega
  have : (op == (71 : Int)) = false := by rw [nH]; omega
  have : (op == (72 : Int)) = true := by rw [beq_iff_eq]; omega
  have : (op == (73 : Int)) = false := by rw [nH]; omega
  have : (op == (74 : Int)) = false := by rw [nH]; omega
  have hl : L = 3 := by rw [← HL.o, Zdn, if_neg HZ0.o]; rw [if_neg (by omega), if_pos (by omega)]
  have hh : H = 3 := by rw [← HH.o, Zdz, if_neg HZ0.o]; rw [if_neg (by omega), if_pos (by omega)]
  subst hl hh;go_wp2_with fail
  go_ret2
  exact ⟨rfl, hb1⟩
 ·skip
  have : decide (op ≤ (11 : Int)) = false := nU (by omega);have : (op == (81 : Int)) = false := by rw [nH]; omega
  have : (op == (71 : Int)) = false := by rw [nH]; omega
  have : (op == (72 : Int)) = false := by rw [nH]; omega
  have : (op == (73 : Int)) = true := by rw [beq_iff_eq]; omega
  have : (op == (74 : Int)) = false := by rw [nH]; omega
  have hl : L = 2 := by rw [← HL.o, Zdn, if_neg HZ0.o]; rw [if_neg (by omega), if_neg (by omega), if_neg (by omega)]
  have hh : H = 8 := by rw [← HH.o, Zdz, if_neg HZ0.o]; rw [if_neg (by omega), if_neg (by omega), if_pos (by omega)]
  subst hl hh;go_wp2_with fail
  go_ret2
  exact ⟨rfl, hb1⟩
 ·skip
  have : decide (op ≤ (11 : Int)) = false := nU (by omega);have : (op == (81 : Int)) = false := by rw [nH]; omega
  have : (op == (71 : Int)) = false := by rw [nH]; omega
  have : (op == (72 : Int)) = false := by rw [nH]; omega
  have : (op == (73 : Int)) = false := by rw [nH]; omega
  have : (op == (74 : Int)) = true := by rw [beq_iff_eq]; omega
  have hl : L = 0 := by rw [← HL.o, Zdn, if_neg HZ0.o]; rw [if_neg (by omega), if_neg (by omega), if_pos (by omega)]
  have hh : H = 8 := by rw [← HH.o, Zdz, if_neg HZ0.o]; rw [if_neg (by omega), if_neg (by omega), if_pos (by omega)]
  subst hl hh;go_wp2_with fail
  go_ret2
  exact ⟨rfl, hb1⟩
 ·skip
  have : decide (op ≤ (11 : Int)) = false := nU (by omega);have : (op == (81 : Int)) = false := by rw [nH]; omega
  have : (op == (71 : Int)) = false := by rw [nH]; omega
  have : (op == (72 : Int)) = false := by rw [nH]; omega
  have : (op == (73 : Int)) = false := by rw [nH]; omega
  have : (op == (74 : Int)) = false := by rw [nH]; omega
  have hl : L = 2 := by rw [← HL.o, Zdn, if_neg HZ0.o]; rw [if_neg (by omega), if_neg (by omega), if_neg (by omega)]
  have hh : H = 2 := by rw [← HH.o, Zdz, if_neg HZ0.o]; rw [if_neg (by omega), if_neg (by omega), if_neg (by omega)]
  subst hl hh;go_wp2_with fail
  go_ret2
  exact ⟨rfl, hb1⟩
 ·skip
  have : decide (op ≤ (11 : Int)) = false := nU (by omega);have : (op == (81 : Int)) = true := by rw [beq_iff_eq]; omega
  have : (op == (71 : Int)) = false := by rw [nH]; omega
  have : (op == (72 : Int)) = false := by rw [nH]; omega
  have : (op == (73 : Int)) = false := by rw [nH]; omega
  have : (op == (74 : Int)) = false := by rw [nH]; omega
  have hl : L = 1 := by rw [← HL.o, Zdn, if_neg HZ0.o]; rw [if_pos (by omega)]
  have hh : H = 1 := by rw [← HH.o, Zdz, if_neg HZ0.o]; rw [if_pos (by omega)]
  subst hl hh;go_wp2_with fail
  go_ret2
  exact ⟨rfl, hb1⟩
 ·skip
  have : decide (op ≤ (11 : Int)) = false := nU (by omega);have : (op == (81 : Int)) = false := by rw [nH]; omega
  have : (op == (71 : Int)) = false := by rw [nH]; omega
  have : (op == (72 : Int)) = false := by rw [nH]; omega
  have : (op == (73 : Int)) = false := by rw [nH]; omega
  have : (op == (74 : Int)) = false := by rw [nH]; omega
  have hl : L = 2 := by rw [← HL.o, Zdn, if_neg HZ0.o]; rw [if_neg (by omega), if_neg (by omega), if_neg (by omega)]
  have hh : H = 2 := by rw [← HH.o, Zdz, if_neg HZ0.o]; rw [if_neg (by omega), if_neg (by omega), if_neg (by omega)]
  subst hl hh;go_wp2_with fail
  go_ret2
  exact ⟨rfl, hb1⟩
theorem Zjt (op : Int) (w : World) : Calls Tryz.prog 159 #[.int .i64 op] w fun e w' => e = .returned (.tuple #[.int .i64 (Zdn op), .int .i64 (Zdz op)]) ∧ Below w.heap.size w w' := by
 obtain ⟨L, hL⟩ : ∃ L, Zdn op = L := ⟨_, rfl⟩;obtain ⟨H, hH⟩ : ∃ H, Zdz op = H := ⟨_, rfl⟩;rw [hL, hH];have HL := zh hL;have HH := zh hH;have hC := (Zkj op w);obtain ⟨z, hz⟩ : ∃ z, (⟨(opT op).toArray⟩ : ByteArray) = z := ⟨_, rfl⟩;rw [hz] at hC;have HC := zh hC;clear hL hH hC
 by_cases hz0 : opT op = []
 ·rw [hz0] at hz;have hl : L = 0 := by rw [← HL.o, Zdn, if_pos hz0]
  have hh : H = -1 := by rw [← HH.o, Zdz, if_pos hz0]
  subst hl hh;subst hz;go_enter Tryz.func159, Tryz.ntmps159;go_wp2_with fail;refine HC.o.mono ?_;rintro e w1 ⟨rfl, hb1⟩;go_wp2_with fail
  go_ret2
  exact ⟨rfl, hb1⟩
 have v1 : (z.toList == []) = false := by
  rw [nH];intro h
  apply hz0
  have h2 := ByteArray.toList_eq z;rw [h, ← hz] at h2;exact h2.symm
 have HZ0 := zh hz0;clear hz hz0;go_enter Tryz.func159, Tryz.ntmps159;go_wp2_with fail;refine HC.o.mono ?_;rintro e w1 ⟨rfl, hb1⟩;clear HC;have hi : (op ≤ 11) ∨ (12 ≤ op ∧ op ≤ 70) ∨ (71 ≤ op ∧ op ≤ 71) ∨ (72 ≤ op ∧ op ≤ 72) ∨ (73 ≤ op ∧ op ≤ 73) ∨ (74 ≤ op ∧ op ≤ 74) ∨ (75 ≤ op ∧ op ≤ 80) ∨ (81 ≤ op ∧ op ≤ 81) ∨ (82 ≤ op) := by omega
 rcases hi with hi | hi | hi | hi | hi | hi | hi | hi | hi
 ·skip
  have : decide (op ≤ (11 : Int)) = true := nT (by omega);have : (op == (81 : Int)) = false := by rw [nH]; omega
  have : (op == (71 : Int)) = false := by rw [nH]; omega
  have : (op == (72 : Int)) = false := by rw [nH]; omega
  have : (op == (73 : Int)) = false := by rw [nH]; omega
  have : (op == (74 : Int)) = false := by rw [nH]; omega
  have hl : L = 1 := by rw [← HL.o, Zdn, if_neg HZ0.o]; rw [if_pos (by omega)]
  have hh : H = 1 := by rw [← HH.o, Zdz, if_neg HZ0.o]; rw [if_pos (by omega)]
  subst hl hh;go_wp2_with fail
  go_ret2
  exact ⟨rfl, hb1⟩
 ·skip
  have : decide (op ≤ (11 : Int)) = false := nU (by omega);have : (op == (81 : Int)) = false := by rw [nH]; omega
  have : (op == (71 : Int)) = false := by rw [nH]; omega
  have : (op == (72 : Int)) = false := by rw [nH]; omega
  have : (op == (73 : Int)) = false := by rw [nH]; omega
  have : (op == (74 : Int)) = false := by rw [nH]; omega
  have hl : L = 2 := by rw [← HL.o, Zdn, if_neg HZ0.o]; rw [if_neg (by omega), if_neg (by omega), if_neg (by omega)]
  have hh : H = 2 := by rw [← HH.o, Zdz, if_neg HZ0.o]; rw [if_neg (by omega), if_neg (by omega), if_neg (by omega)]
  subst hl hh;go_wp2_with fail
  go_ret2
  exact ⟨rfl, hb1⟩
 ·skip
  have : decide (op ≤ (11 : Int)) = false := nU (by omega);have : (op == (81 : Int)) = false := by rw [nH]; omega
  have : (op == (71 : Int)) = true := by rw [beq_iff_eq]; omega
  have : (op == (72 : Int)) = false := by rw [nH]; omega
  have : (op == (73 : Int)) = false := by rw [nH]; omega
  have : (op == (74 : Int)) = false := by rw [nH]; omega
  have hl : L = 3 := by rw [← HL.o, Zdn, if_neg HZ0.o]; rw [if_neg (by omega), if_pos (by omega)]
  have hh : H = 3 := by rw [← HH.o, Zdz, if_neg HZ0.o]; rw [if_neg (by omega), if_pos (by omega)]
  subst hl hh;go_wp2_with fail
  go_ret2
  exact ⟨rfl, hb1⟩
 ·skip
  have : decide (op ≤ (11 : Int)) = false := nU (by omega);have : (op == (81 : Int)) = false := by rw [nH]; omega
  have : (op == (71 : Int)) = false := by rw [nH]; omega
  have : (op == (72 : Int)) = true := by rw [beq_iff_eq]; omega
  have : (op == (73 : Int)) = false := by rw [nH]; omega
  have : (op == (74 : Int)) = false := by rw [nH]; omega
  have hl : L = 3 := by rw [← HL.o, Zdn, if_neg HZ0.o]; rw [if_neg (by omega), if_pos (by omega)]
  have hh : H = 3 := by rw [← HH.o, Zdz, if_neg HZ0.o]; rw [if_neg (by omega), if_pos (by omega)]
  subst hl hh;go_wp2_with fail
  go_ret2
  exact ⟨rfl, hb1⟩
 ·skip
  have : decide (op ≤ (11 : Int)) = false := nU (by omega);have : (op == (81 : Int)) = false := by rw [nH]; omega
  have : (op == (71 : Int)) = false := by rw [nH]; omega
  have : (op == (72 : Int)) = false := by rw [nH]; omega
  have : (op == (73 : Int)) = true := by rw [beq_iff_eq]; omega
  have : (op == (74 : Int)) = false := by rw [nH]; omega
  have hl : L = 2 := by rw [← HL.o, Zdn, if_neg HZ0.o]; rw [if_neg (by omega), if_neg (by omega), if_neg (by omega)]
  have hh : H = 8 := by rw [← HH.o, Zdz, if_neg HZ0.o]; rw [if_neg (by omega), if_neg (by omega), if_pos (by omega)]
  subst hl hh;go_wp2_with fail
  go_ret2
  exact ⟨rfl, hb1⟩
 ·skip
  have : decide (op ≤ (11 : Int)) = false := nU (by omega);have : (op == (81 : Int)) = false := by rw [nH]; omega
  have : (op == (71 : Int)) = false := by rw [nH]; omega
  have : (op == (72 : Int)) = false := by rw [nH]; omega
  have : (op == (73 : Int)) = false := by rw [nH]; omega
  have : (op == (74 : Int)) = true := by rw [beq_iff_eq]; omega
  have hl : L = 0 := by rw [← HL.o, Zdn, if_neg HZ0.o]; rw [if_neg (by omega), if_neg (by omega), if_pos (by omega)]
  have hh : H = 8 := by rw [← HH.o, Zdz, if_neg HZ0.o]; rw [if_neg (by omega), if_neg (by omega), if_pos (by omega)]
  subst hl hh;go_wp2_with fail
  go_ret2
  exact ⟨rfl, hb1⟩
 ·skip
  have : decide (op ≤ (11 : Int)) = false := nU (by omega);have : (op == (81 : Int)) = false := by rw [nH]; omega
  have : (op == (71 : Int)) = false := by rw [nH]; omega
  have : (op == (72 : Int)) = false := by rw [nH]; omega
  have : (op == (73 : Int)) = false := by rw [nH]; omega
  have : (op == (74 : Int)) = false := by rw [nH]; omega
  have hl : L = 2 := by rw [← HL.o, Zdn, if_neg HZ0.o]; rw [if_neg (by omega), if_neg (by omega), if_neg (by omega)]
  have hh : H = 2 := by rw [← HH.o, Zdz, if_neg HZ0.o]; rw [if_neg (by omega), if_neg (by omega), if_neg (by omega)]
  subst hl hh;go_wp2_with fail
  go_ret2
  exact ⟨rfl, hb1⟩
 ·skip
  have : decide (op ≤ (11 : Int)) = false := nU (by omega);have : (op == (81 : Int)) = true := by rw [beq_iff_eq]; omega
  have : (op == (71 : Int)) = false := by rw [nH]; omega
  have : (op == (72 : Int)) = false := by rw [nH]; omega
  have : (op == (73 : Int)) = false := by rw [nH]; omega
  have : (op == (74 : Int)) = false := by rw [nH]; omega
  have hl : L = 1 := by rw [← HL.o, Zdn, if_neg HZ0.o]; rw [if_pos (by omega)]
  have hh : H = 1 := by rw [← HH.o, Zdz, if_neg HZ0.o]; rw [if_pos (by omega)]
  subst hl hh;go_wp2_with fail
  go_ret2
  exact ⟨rfl, hb1⟩
 ·skip
  have : decide (op ≤ (11 : Int)) = false := nU (by omega);have : (op == (81 : Int)) = false := by rw [nH]; omega
  have : (op == (71 : Int)) = false := by rw [nH]; omega
  have : (op == (72 : Int)) = false := by rw [nH]; omega
  have : (op == (73 : Int)) = false := by rw [nH]; omega
  have : (op == (74 : Int)) = false := by rw [nH]; omega
  have hl : L = 2 := by rw [← HL.o, Zdn, if_neg HZ0.o]; rw [if_neg (by omega), if_neg (by omega), if_neg (by omega)]
  have hh : H = 2 := by rw [← HH.o, Zdz, if_neg HZ0.o]; rw [if_neg (by omega), if_neg (by omega), if_neg (by omega)]
  subst hl hh;go_wp2_with fail
  go_ret2
  exact ⟨rfl, hb1⟩
def bit (x : Int) (k : Nat) : Bool := bits .and .u64 (IntKind.u64.wrap x / 2 ^ k) 1 == 1
theorem Zkk (x : Int) : IntKind.u64.wrap x = ((BitVec.ofInt 64 x).toNat : Int) := by
 rw [BitVec.toNat_ofInt];have : IntKind.u64.wrap x = x % 18446744073709551616 := by rw [IntKind.wrap_u64]
 rw [this]; omega
theorem Zmk (x : Int) (k : Nat) : bit x k = (BitVec.ofInt 64 x).getLsbD k := by
 unfold bit;rw [Zkk]
 generalize BitVec.ofInt 64 x = X
 have hX := X.isLt;have e : ((X.toNat : Int) / 2 ^ k) = ((X.toNat / 2 ^ k : Nat) : Int) := by simp
 have hle : X.toNat / 2 ^ k ≤ X.toNat := Nat.div_le_self _ _;rw [e, show (1 : Int) = ((1 : Nat) : Int) from rfl, u64_and_nat _ _ (by omega) (by omega)];rw [BitVec.getLsbD, Nat.testBit, Nat.shiftRight_eq_div_pow, Nat.and_comm]
 rcases Nat.mod_two_eq_zero_or_one (X.toNat / 2 ^ k) with h | h <;> simp [h]
theorem Zq5 (x y : Int) : bits .and .i64 x y = IntKind.i64.wrap ((BitVec.ofInt 64 x &&& BitVec.ofInt 64 y).toNat : Int) := rfl
theorem Zne (x : Int) (k : Nat) (hk : k < 64) : (bits .and .i64 x (wrap64 (2 ^ k)) != 0) = bit x k := by
 rw [Zmk, Zq5];have e : BitVec.ofInt 64 (wrap64 (2 ^ k)) = BitVec.twoPow 64 k := by
  apply BitVec.eq_of_toNat_eq
  rw [BitVec.toNat_ofInt, BitVec.toNat_twoPow];have hp : (2 : Nat) ^ k < 2 ^ 64 := Nat.pow_lt_pow_right (by decide) hk;have hc : ((2 : Int) ^ k) = ((2 ^ k : Nat) : Int) := by simp
  rw [hc];unfold wrap64;rw [Nat.mod_eq_of_lt hp]
  generalize 2 ^ k = n at *
  omega
 rw [e, BitVec.and_twoPow]
 cases h : (BitVec.ofInt 64 x).getLsbD k
 ·simp
  rfl
 ·simp only [if_true];have hp : (2 : Nat) ^ k < 2 ^ 64 := Nat.pow_lt_pow_right (by decide) hk;have hpos : 0 < (2 : Nat) ^ k := Nat.pow_pos (by decide);rw [BitVec.toNat_twoPow, Nat.mod_eq_of_lt hp, IntKind.wrap_i64]
  generalize 2 ^ k = n at *
  simp
  omega
def hb (lo hi b : Int) : Bool := if 127 < b then false else if b < 64 then bit lo b.toNat else bit hi (b - 64).toNat
theorem Zur (lo hi b : Int) (h : 127 < b) : hb lo hi b = false := by unfold hb; rw [if_pos h]
theorem Znf (lo hi b : Int) (_h0 : 0 ≤ b) (h : b < 64) : hb lo hi b = bit lo b.toNat := by unfold hb; rw [if_neg (by omega), if_pos h]
theorem Zng (lo hi b : Int) (h0 : 64 ≤ b) (h : b ≤ 127) : hb lo hi b = bit hi (b - 64).toNat := by unfold hb; rw [if_neg (by omega), if_neg (by omega)]
theorem Zot (X : BitVec 64) : BitVec.ofInt 64 (IntKind.i64.wrap (X.toNat : Int)) = X := by
 apply BitVec.eq_of_toNat_eq
 rw [BitVec.toNat_ofInt, IntKind.wrap_i64];have := X.isLt
 omega
theorem Zq6 (x : Int) (k j : Nat) (hk : k < 64) (hj : j < 64) : bit (bits .or .i64 x (wrap64 (2 ^ k))) j = (bit x j || decide (j = k)) := by
 rw [Zmk, Zmk, show bits .or .i64 x (wrap64 (2 ^ k)) = IntKind.i64.wrap ((BitVec.ofInt 64 x ||| BitVec.ofInt 64 (wrap64 (2 ^ k))).toNat : Int) from rfl, Zot, BitVec.getLsbD_or]
 congr 1
 have e : BitVec.ofInt 64 (wrap64 (2 ^ k)) = BitVec.twoPow 64 k := by
  apply BitVec.eq_of_toNat_eq
  rw [BitVec.toNat_ofInt, BitVec.toNat_twoPow];have hp : (2 : Nat) ^ k < 2 ^ 64 := Nat.pow_lt_pow_right (by decide) hk;have hc : ((2 : Int) ^ k) = ((2 ^ k : Nat) : Int) := by simp
  rw [hc];unfold wrap64;rw [Nat.mod_eq_of_lt hp]
  generalize 2 ^ k = n at *
  omega
 rw [e, BitVec.getLsbD_twoPow];have : (64 : Nat) > j := hj
 by_cases h : k = j
 ·subst h; simp [hk]
 ·have h' : ¬ j = k := fun e => h e.symm;simp [h, h']
theorem Zq7 (lo hi b c : Int) (hb0 : 0 ≤ b) (hb1 : b ≤ 127) (h0 : 0 ≤ c) (h1 : c < 64) : hb (bits .or .i64 lo (wrap64 (2 ^ c.toNat))) hi b = (hb lo hi b || decide (b = c)) := by
 by_cases h : b < 64
 ·rw [Znf _ _ _ hb0 h, Znf _ _ _ hb0 h, Zq6 _ _ _ (by omega) (by omega)]
  congr 1
  exact decide_eq_decide.2 (by omega)
 ·rw [Zng _ _ _ (by omega) hb1, Zng _ _ _ (by omega) hb1, show decide (b = c) = false from nU (by omega), Bool.or_false]
theorem Zq8 (lo hi b c : Int) (hb0 : 0 ≤ b) (hb1 : b ≤ 127) (h0 : 64 ≤ c) (h1 : c ≤ 127) : hb lo (bits .or .i64 hi (wrap64 (2 ^ (c - 64).toNat))) b = (hb lo hi b || decide (b = c)) := by
 by_cases h : b < 64
 ·rw [Znf _ _ _ hb0 h, Znf _ _ _ hb0 h, show decide (b = c) = false from nU (by omega), Bool.or_false]
 ·rw [Zng _ _ _ (by omega) hb1, Zng _ _ _ (by omega) hb1, Zq6 _ _ _ (by omega) (by omega)]
  congr 1
  exact decide_eq_decide.2 (by omega)
theorem Zq9 (b : Int) (_h0 : 0 ≤ b) (_h1 : b ≤ 127) : hb 0 0 b = false := by
 unfold hb
 split
 ·rfl
 ·split <;> (rw [Zmk]; simp)
/-! ### The text of a set -/
def Zfc (s : List UInt8) : Bool := decide (∀ x ∈ s, x.toNat ≤ 127) && decide (s.Pairwise fun a b => a.toNat < b.toNat)
def Zcq (lo hi : Int) (n : Nat) : List UInt8 := ((List.range n).filter fun b : Nat => hb lo hi (b : Int)).map UInt8.ofNat
theorem Zml (lo hi : Int) (n : Nat) : Zcq lo hi (n + 1) = Zcq lo hi n ++ if hb lo hi (n : Int) then [UInt8.ofNat n] else [] := by
 unfold Zcq;rw [List.range_succ, List.filter_append, List.map_append]
 congr 1
 cases h : hb lo hi (n : Int) <;> simp [h]
theorem Znh (lo hi : Int) (n : Nat) : (Zcq lo hi n).length ≤ n := by
 unfold Zcq;rw [List.length_map];exact Nat.le_trans (List.length_filter_le _ _) (by simp)
theorem Zkl : ∀ (a b : List UInt8), a.Pairwise (fun x y => x.toNat < y.toNat) → b.Pairwise (fun x y => x.toNat < y.toNat) → (∀ x, x ∈ a ↔ x ∈ b) → a = b
 | [], [], _, _, _ => rfl
 | [], y :: b, _, _, h => by have := (h y).2 (by simp); simp at this
 | x :: a, [], _, _, h => by have := (h x).1 (by simp); simp at this
 | x :: a, y :: b, ha, hb, h => by
  rw [List.pairwise_cons] at ha hb;have hxy : x = y := by
   have h1 := (h x).1 (by simp);have h2 := (h y).2 (by simp);rw [List.mem_cons] at h1 h2
   rcases h1 with h1 | h1
   ·exact h1
   ·rcases h2 with h2 | h2
    ·exact h2.symm
    ·have := ha.1 y h2; have := hb.1 x h1; omega
  subst hxy;rw [Zkl a b ha.2 hb.2 (fun z => by
   have hz := h z;rw [List.mem_cons, List.mem_cons] at hz
   constructor
   ·intro hm
    rcases hz.1 (.inr hm) with e | e
    ·subst e; have := ha.1 z hm; omega
    ·exact e
   ·intro hm
    rcases hz.2 (.inr hm) with e | e
    ·subst e; have := hb.1 z hm; omega
    ·exact e)]
theorem Zgz (lo hi : Int) (n : Nat) (hn : n ≤ 128) : (Zcq lo hi n).Pairwise fun x y => x.toNat < y.toNat := by
 unfold Zcq;rw [List.pairwise_map];have h : ((List.range n).filter fun b : Nat => hb lo hi (b : Int)).Pairwise (· < ·) := List.Pairwise.filter _ List.pairwise_lt_range;refine List.Pairwise.imp_of_mem (fun {a b} ha hb hab => ?_) h;have h1 := List.mem_range.1 (List.mem_filter.1 ha).1;have h2 := List.mem_range.1 (List.mem_filter.1 hb).1;rw [UInt8.toNat_ofNat', UInt8.toNat_ofNat', Nat.mod_eq_of_lt (by omega), Nat.mod_eq_of_lt (by omega)];exact hab
theorem Ztp (s : List UInt8) (lo hi : Int) (h7 : ∀ x ∈ s, x.toNat ≤ 127) (hs : ∀ b : Nat, b ≤ 127 → (hb lo hi (b : Int) = true ↔ UInt8.ofNat b ∈ s)) : Zcq lo hi 128 = s ↔ Zfc s = true := by
 constructor
 ·intro e;unfold Zfc;rw [Bool.and_eq_true, nJ, nJ];refine ⟨h7, ?_⟩;have := Zgz lo hi 128 (by decide)
  rwa [e] at this
 ·intro h;unfold Zfc at h;rw [Bool.and_eq_true, nJ, nJ] at h;refine Zkl _ _ (Zgz lo hi 128 (by decide)) h.2 (fun x => ?_);unfold Zcq;rw [List.mem_map]
  constructor
  ·rintro ⟨b, hm, rfl⟩;rw [List.mem_filter, List.mem_range] at hm;exact (hs b (by omega)).1 hm.2
  ·intro hx;have hx7 := h7 x hx;refine ⟨x.toNat, ?_, UInt8.ofNat_toNat⟩;rw [List.mem_filter, List.mem_range];exact ⟨by omega, (hs x.toNat hx7).2 (by rw [UInt8.ofNat_toNat]; exact hx)⟩
theorem Zni {s : List UInt8} {x : UInt8} (hm : x ∈ s) (h : 127 < x.toNat) : Zfc s = false := by
 unfold Zfc;rw [show decide (∀ x ∈ s, x.toNat ≤ 127) = false from nU (fun hh => by have := hh x hm; omega), Bool.false_and]
theorem Zp7 {s : List UInt8} {j : Nat} (hj : j + 1 < s.length) (h : s[j + 1].toNat ≤ s[j].toNat) : Zfc s = false := by
 unfold Zfc;rw [show decide (s.Pairwise fun a b => a.toNat < b.toNat) = false from nU (fun hh => by
  have := List.pairwise_iff_getElem.1 hh j (j + 1) (by omega) hj (by omega); omega), Bool.and_false]
theorem Zra {s : List UInt8} (h7 : ∀ k (h : k < s.length), s[k].toNat ≤ 127) (h : ∀ k (h : k + 1 < s.length), s[k].toNat < s[k + 1].toNat) : Zfc s = true := by
 unfold Zfc;rw [Bool.and_eq_true, nJ, nJ];refine ⟨fun x hx => ?_, List.pairwise_iff_getElem.2 fun i j hi hj hij => ?_⟩
 ·obtain ⟨k, hk, rfl⟩ := List.getElem_of_mem hx;exact h7 k hk
 ·have key : ∀ d, (hd : i + d + 1 < s.length) → s[i].toNat < s[i + d + 1].toNat := by
   intro d
   induction d with
   | zero => intro hd; exact h i hd
   | succ d ih => intro hd; exact Nat.lt_trans (ih (by omega)) (h (i + d + 1) hd)
  have := key (j - i - 1) (by omega)
  simpa [show i + (j - i - 1) + 1 = j by omega] using this
theorem Zju (lo hi b : Int) (w : World) (h0 : 0 ≤ b) (h1 : b < 256) :
  Calls Tryz.prog 161 #[.agg #[.int .i64 lo, .int .i64 hi], .int .u8 b] w fun e w' => e = .returned (.bool (hb lo hi b)) ∧ Below w.heap.size w w' := by
 by_cases h2 : 127 < b
 ·rw [Zur lo hi b h2];go_enter Tryz.func161, Tryz.ntmps161
  go_wp2
  go_ret;exact ⟨rfl, (Below.refl _ _).alloc (Nat.le_refl _) _⟩
 ·by_cases h3 : b < 64
  ·have hv := zh (Znf lo hi b h0 h3);go_enter Tryz.func161, Tryz.ntmps161
   go_wp2
   go_ret;exact ⟨by rw [hv.o]; rw [← Zne lo b.toNat (by omega)]; rfl, (Below.refl _ _).alloc (Nat.le_refl _) _⟩
  ·have hv := zh (Zng lo hi b (by omega) (by omega));go_enter Tryz.func161, Tryz.ntmps161
   go_wp2
   go_ret;exact ⟨by rw [hv.o]; rw [← Zne hi (b - 64).toNat (by omega)]; rfl, (Below.refl _ _).alloc (Nat.le_refl _) _⟩
section
variable {P : Program} {ops : Array Oper} {Q : Exit → Act → World → Prop}
theorem Zaz (i : Nat) (d : Option Tmp) {L U : List Nat} {oi : Oper} {fuel : Nat} {listed : Array Bool} {a : Act} {w : World} (hi : ops[i]? = some oi) (hd : oi.dst = d)
  (hB : Zjd ops L listed i = true)
  (hQ : ∀ c a w, Q (.panic c) (a.put d undef) w → Q (.panic c) a w)
  (hw : Region.wanted oi (yielded ops a.tmps) = false)
  (h : wpU P ops Q L U fuel (listed.setIfInBounds i true) (a.put d undef) w) : wpU P ops Q L U (fuel + 1) listed a w := by
 subst hd;simp only [Zjd, Bool.and_eq_true] at hB;obtain ⟨⟨⟨⟨hs, hf⟩, hr⟩, hc⟩, ht⟩ := hB;refine Zgh hi (Region.noSelect_spec hs) hQ (fun j _ htj => ?_) fuel listed a w (Region.free_spec hi hf) (Ziu hc) (by simpa using hr) (.inr ⟨hw, rfl⟩) (Za.refl w) h;simp only [Zh3, Bool.or_eq_true] at htj
 rcases htj with h1 | h1
 ·exact .inr (List.all_eq_true.1 ht j (by simpa using h1))
 ·exact .inl h1
end
theorem Zd5 (s : ByteArray) : (bl s).length = s.size := by simp [bl]
theorem Zfd (s : ByteArray) (j : Nat) (h : j < s.size) : (bl s)[j]'(by rw [Zd5]; exact h) = s[j] := rfl
theorem Zkm (s : ByteArray) (w : World) (hs : s.size ≤ maxLen) : Calls Tryz.prog 138 #[.string s] w fun e w' => e = .returned (.bool (Zfc (bl s))) ∧ Below w.heap.size w w' := by
 unfold maxLen at hs;obtain ⟨R, hR⟩ : ∃ R, Zfc (bl s) = R := ⟨_, rfl⟩;rw [hR];have HR := zh hR;clear hR;go_enter Tryz.func138, Tryz.ntmps138;go_wp2_with fail
 go_loopw [3] (fun i wr => ∃ j : Nat, i = .int .i64 j ∧ j ≤ s.size ∧ Hd (∀ k (h : k < s.size), k < j → s[k].toNat ≤ 127 ∧ ∀ (_ : 0 < k), s[k - 1].toNat < s[k].toNat) ∧ Below w.heap.size w wr) (fun i _ => s.size - (intOf i).toNat)
 case atStart => exact ⟨0, rfl, Nat.zero_le _, zh (fun k _ h => by omega), Below.refl _ _⟩
 case round =>
  obtain ⟨j, rfl, hj, HD, hbel⟩ := hrel
  by_cases hlt : j < s.size
  ·have t1 : decide ((j : Int) < s.size) = true := nT (by omega);have hlt' : (j : Int) < s.size := by omega
   obtain ⟨c, hc⟩ : ∃ c : Int, (s[j].toNat : Int) = c := ⟨_, rfl⟩;have HC := zh hc;have HB := zh (fun (h : 127 < s[j].toNat) => Zni (s := bl s) (x := s[j]) (by rw [← Zfd s j hlt]; exact List.getElem_mem _) h)
   by_cases h7 : 127 < c
   ·have hR0 : R = false := by rw [← HR.o, HB.o (by have := HC.o; omega)]
    have t2 : decide ((127 : Int) < c) = true := nT h7;go_upto_region 4 with (fail);refine Z3 [] [] (by kernel_rfl) (fun W hW => ?_);have hWw : Below w.heap.size w W := by rw [hW]; exact hbel.drew
    clear hW;refine Zs 0 (some 10) (v := ?_) rfl rfl (by kernel_rfl) (fun _ _ _ h => h) rfl (fun x hx => ?_) ?_;rotate_left
    ·go_simp;first|done|with_reducible rfl|rw[if_neg (by omega)]|rw[if_pos (by omega)]
    simp only [Act.put, nA, nB, nC];refine Zs 1 (some 11) (v := ?_) rfl rfl (by kernel_rfl) (fun _ _ _ h => h) rfl (fun x hx => ?_) ?_;rotate_left
    ·go_simp;first|done|with_reducible rfl|rw[if_neg (by omega)]|rw[if_pos (by omega)]
    simp only [Act.put, nA, nB, nC];refine Zs 2 (some 12) (v := ?_) rfl rfl (by kernel_rfl) (fun _ _ _ h => h) rfl (fun x hx => ?_) ?_;rotate_left
    ·go_simp;first|done|with_reducible rfl|rw[if_neg (by omega)]|rw[if_pos (by omega)]
    simp only [Act.put, nA, nB, nC];refine Zs 3 (some 13) (v := ?_) rfl rfl (by kernel_rfl) (fun _ _ _ h => h) rfl (fun x hx => ?_) ?_;rotate_left
    ·go_simp;first|done|with_reducible rfl|rw[if_neg (by omega)]|rw[if_pos (by omega)]
    simp only [Act.put, nA, nB, nC];refine Zs 4 (some 14) (v := ?_) rfl rfl (by kernel_rfl) (fun _ _ _ h => h) rfl (fun x hx => ?_) ?_;rotate_left
    ·go_simp;first|done|with_reducible rfl|rw[if_neg (by omega)]|rw[if_pos (by omega)]
    simp only [Act.put, nA, nB, nC];refine Zaz 5 (some 15) rfl rfl (by kernel_rfl) (fun _ _ _ h => h) rfl ?_;simp only [Act.put, nA, nB, nC];refine Zaz 6 (some 16) rfl rfl (by kernel_rfl) (fun _ _ _ h => h) rfl ?_;simp only [Act.put, nA, nB, nC];refine Zaz 7 (some 17) rfl rfl (by kernel_rfl) (fun _ _ _ h => h) rfl ?_;simp only [Act.put, nA, nB, nC];refine Zaz 8 (some 18) rfl rfl (by kernel_rfl) (fun _ _ _ h => h) rfl ?_;simp only [Act.put, nA, nB, nC];refine Zaz 9 (some 19) rfl rfl (by kernel_rfl) (fun _ _ _ h => h) rfl ?_;simp only [Act.put, nA, nB, nC];refine Zaz 10 (some 20) rfl rfl (by kernel_rfl) (fun _ _ _ h => h) rfl ?_;simp only [Act.put, nA, nB, nC];refine Zaz 11 (some 21) rfl rfl (by kernel_rfl) (fun _ _ _ h => h) rfl ?_;simp only [Act.put, nA, nB, nC];refine Zaz 12 (some 22) rfl rfl (by kernel_rfl) (fun _ _ _ h => h) rfl ?_;simp only [Act.put, nA, nB, nC];refine Zaz 13 (some 23) rfl rfl (by kernel_rfl) (fun _ _ _ h => h) rfl ?_;simp only [Act.put, nA, nB, nC];refine Zaz 14 (some 24) rfl rfl (by kernel_rfl) (fun _ _ _ h => h) rfl ?_;simp only [Act.put, nA, nB, nC];refine Zaz 15 (some 25) rfl rfl (by kernel_rfl) (fun _ _ _ h => h) rfl ?_;simp only [Act.put, nA, nB, nC];refine Zaz 16 (some 26) rfl rfl (by kernel_rfl) (fun _ _ _ h => h) rfl ?_;simp only [Act.put, nA, nB, nC];refine Zs 17 (some 27) (v := ?_) rfl rfl (by kernel_rfl) (fun _ _ _ h => h) rfl (fun x hx => ?_) ?_;rotate_left
    ·go_simp;first|done|with_reducible rfl|rw[if_neg (by omega)]|rw[if_pos (by omega)]
    simp only [Act.put, nA, nB, nC];refine Zag [] (by kernel_rfl) rfl rfl ?_;subst hR0;go_wp2_with fail;go_ret;exact ⟨rfl, hWw⟩
   have t2 : decide ((127 : Int) < c) = false := nU h7
   by_cases h0 : j = 0
   ·subst h0;have HD2 : Hd (∀ k (h : k < s.size), k < 1 → s[k].toNat ≤ 127 ∧ ∀ (_ : 0 < k), s[k - 1].toNat < s[k].toNat) := zh (fun k hk h => by
     obtain rfl : k = 0 := by omega
     exact ⟨by have := HC.o; omega, fun h => by omega⟩)
    have t3 : decide ((0 : Int) < 0) = false := by decide
    go_upto_region 4 with (fail);refine Z3 [] [] (by kernel_rfl) (fun W hW => ?_);have hWw : Below w.heap.size w W := by rw [hW]; exact hbel.drew
    clear hW;refine Zs 0 (some 10) (v := ?_) rfl rfl (by kernel_rfl) (fun _ _ _ h => h) rfl (fun x hx => ?_) ?_;rotate_left
    ·go_simp;first|done|with_reducible rfl|rw[if_neg (by omega)]|rw[if_pos (by omega)]
    simp only [Act.put, nA, nB, nC];refine Zs 1 (some 11) (v := ?_) rfl rfl (by kernel_rfl) (fun _ _ _ h => h) rfl (fun x hx => ?_) ?_;rotate_left
    ·go_simp;first|done|with_reducible rfl|rw[if_neg (by omega)]|rw[if_pos (by omega)]
    simp only [Act.put, nA, nB, nC];refine Zs 2 (some 12) (v := ?_) rfl rfl (by kernel_rfl) (fun _ _ _ h => h) rfl (fun x hx => ?_) ?_;rotate_left
    ·go_simp;first|done|with_reducible rfl|rw[if_neg (by omega)]|rw[if_pos (by omega)]
    simp only [Act.put, nA, nB, nC];refine Zs 3 (some 13) (v := ?_) rfl rfl (by kernel_rfl) (fun _ _ _ h => h) rfl (fun x hx => ?_) ?_;rotate_left
    ·go_simp;first|done|with_reducible rfl|rw[if_neg (by omega)]|rw[if_pos (by omega)]
    simp only [Act.put, nA, nB, nC];refine Zs 4 (some 14) (v := ?_) rfl rfl (by kernel_rfl) (fun _ _ _ h => h) rfl (fun x hx => ?_) ?_;rotate_left
    ·go_simp;first|done|with_reducible rfl|rw[if_neg (by omega)]|rw[if_pos (by omega)]
    simp only [Act.put, nA, nB, nC];refine Zs 5 (some 15) (v := ?_) rfl rfl (by kernel_rfl) (fun _ _ _ h => h) rfl (fun x hx => ?_) ?_;rotate_left
    ·go_simp;first|done|with_reducible rfl|rw[if_neg (by omega)]|rw[if_pos (by omega)]
    simp only [Act.put, nA, nB, nC];refine Zs 6 (some 16) (v := ?_) rfl rfl (by kernel_rfl) (fun _ _ _ h => h) rfl (fun x hx => ?_) ?_;rotate_left
    ·go_simp;first|done|with_reducible rfl|rw[if_neg (by omega)]|rw[if_pos (by omega)]
    simp only [Act.put, nA, nB, nC];refine Zs 7 (some 17) (v := ?_) rfl rfl (by kernel_rfl) (fun _ _ _ h => h) rfl (fun x hx => ?_) ?_;rotate_left
    ·go_simp;first|done|with_reducible rfl|rw[if_neg (by omega)]|rw[if_pos (by omega)]
    simp only [Act.put, nA, nB, nC];refine Zaz 8 (some 18) rfl rfl (by kernel_rfl) (fun _ _ _ h => h) rfl ?_;simp only [Act.put, nA, nB, nC];refine Zaz 9 (some 19) rfl rfl (by kernel_rfl) (fun _ _ _ h => h) rfl ?_;simp only [Act.put, nA, nB, nC];refine Zaz 10 (some 20) rfl rfl (by kernel_rfl) (fun _ _ _ h => h) rfl ?_;simp only [Act.put, nA, nB, nC];refine Zaz 11 (some 21) rfl rfl (by kernel_rfl) (fun _ _ _ h => h) rfl ?_;simp only [Act.put, nA, nB, nC];refine Zaz 12 (some 22) rfl rfl (by kernel_rfl) (fun _ _ _ h => h) rfl ?_;simp only [Act.put, nA, nB, nC];refine Zaz 13 (some 23) rfl rfl (by kernel_rfl) (fun _ _ _ h => h) rfl ?_;simp only [Act.put, nA, nB, nC];refine Zaz 14 (some 24) rfl rfl (by kernel_rfl) (fun _ _ _ h => h) rfl ?_;simp only [Act.put, nA, nB, nC];refine Zaz 15 (some 25) rfl rfl (by kernel_rfl) (fun _ _ _ h => h) rfl ?_;simp only [Act.put, nA, nB, nC];refine Zs 16 (some 26) (v := ?_) rfl rfl (by kernel_rfl) (fun _ _ _ h => h) rfl (fun x hx => ?_) ?_;rotate_left
    ·go_simp;first|done|with_reducible rfl|rw[if_neg (by omega)]|rw[if_pos (by omega)]
    simp only [Act.put, nA, nB, nC];refine Zs 17 (some 27) (v := ?_) rfl rfl (by kernel_rfl) (fun _ _ _ h => h) rfl (fun x hx => ?_) ?_;rotate_left
    ·go_simp;first|done|with_reducible rfl|rw[if_neg (by omega)]|rw[if_pos (by omega)]
    simp only [Act.put, nA, nB, nC];refine Zag [] (by kernel_rfl) rfl rfl ?_;go_wp2_with fail
    go_roundw
    case rel => exact ⟨1, by go_num, by omega, HD2, hWw⟩
    case measure => simp [intOf]; omega
   ·obtain ⟨i, hi⟩ : ∃ i : Nat, j = i + 1 := ⟨j - 1, by omega⟩;have hsub : (j : Int) - 1 = (i : Int) := by omega
    have hil : i < s.size := by omega
    have hil' : (i : Int) < s.size := by omega
    have hwr : IntKind.i64.wrap (i : Int) = (i : Int) := by rw [IntKind.wrap_i64]; omega
    have t3 : decide ((0 : Int) < j) = true := nT (by omega);have t3' : decide (0 < j) = true := nT (by omega);have t3p : 0 < j := by omega
    obtain ⟨d, hd⟩ : ∃ d : Int, (s[i].toNat : Int) = d := ⟨_, rfl⟩;have HDD := zh hd;have HI := zh hi;clear hi
    by_cases hcd : c ≤ d
    ·have hR0 : R = false := by
      rw [← HR.o, Zp7 (s := bl s) (j := i) (by rw [Zd5]; have := HI.o; omega) (by
       rw [Zfd s i hil, Zfd s (i + 1) (by have := HI.o; omega)];have h1 := HC.o;have h2 := HDD.o;simp only [HI.o] at h1
       omega)]
     have t4 : decide (c ≤ d) = true := nT hcd;go_upto_region 4 with (fail);refine Z3 [] [] (by kernel_rfl) (fun W hW => ?_);have hWw : Below w.heap.size w W := by rw [hW]; exact hbel.drew
     clear hW;refine Zs 0 (some 10) (v := ?_) rfl rfl (by kernel_rfl) (fun _ _ _ h => h) rfl (fun x hx => ?_) ?_;rotate_left
     ·go_simp;first|done|with_reducible rfl|rw[if_neg (by omega)]|rw[if_pos (by omega)]
     simp only [Act.put, nA, nB, nC];refine Zs 1 (some 11) (v := ?_) rfl rfl (by kernel_rfl) (fun _ _ _ h => h) rfl (fun x hx => ?_) ?_;rotate_left
     ·go_simp;first|done|with_reducible rfl|rw[if_neg (by omega)]|rw[if_pos (by omega)]
     simp only [Act.put, nA, nB, nC];refine Zs 2 (some 12) (v := ?_) rfl rfl (by kernel_rfl) (fun _ _ _ h => h) rfl (fun x hx => ?_) ?_;rotate_left
     ·go_simp;first|done|with_reducible rfl|rw[if_neg (by omega)]|rw[if_pos (by omega)]
     simp only [Act.put, nA, nB, nC];refine Zs 3 (some 13) (v := ?_) rfl rfl (by kernel_rfl) (fun _ _ _ h => h) rfl (fun x hx => ?_) ?_;rotate_left
     ·go_simp;first|done|with_reducible rfl|rw[if_neg (by omega)]|rw[if_pos (by omega)]
     simp only [Act.put, nA, nB, nC];refine Zs 4 (some 14) (v := ?_) rfl rfl (by kernel_rfl) (fun _ _ _ h => h) rfl (fun x hx => ?_) ?_;rotate_left
     ·go_simp;first|done|with_reducible rfl|rw[if_neg (by omega)]|rw[if_pos (by omega)]
     simp only [Act.put, nA, nB, nC];refine Zs 5 (some 15) (v := ?_) rfl rfl (by kernel_rfl) (fun _ _ _ h => h) rfl (fun x hx => ?_) ?_;rotate_left
     ·go_simp;first|done|with_reducible rfl|rw[if_neg (by omega)]|rw[if_pos (by omega)]
     simp only [Act.put, nA, nB, nC];refine Zs 6 (some 16) (v := ?_) rfl rfl (by kernel_rfl) (fun _ _ _ h => h) rfl (fun x hx => ?_) ?_;rotate_left
     ·go_simp;first|done|with_reducible rfl|rw[if_neg (by omega)]|rw[if_pos (by omega)]
     simp only [Act.put, nA, nB, nC];refine Zs 7 (some 17) (v := ?_) rfl rfl (by kernel_rfl) (fun _ _ _ h => h) rfl (fun x hx => ?_) ?_;rotate_left
     ·go_simp;first|done|with_reducible rfl|rw[if_neg (by omega)]|rw[if_pos (by omega)]
     simp only [Act.put, nA, nB, nC];refine Zs 8 (some 18) (v := ?_) rfl rfl (by kernel_rfl) (fun _ _ _ h => h) rfl (fun x hx => ?_) ?_;rotate_left
     ·go_simp;first|done|with_reducible rfl|rw[if_neg (by omega)]|rw[if_pos (by omega)]
     simp only [Act.put, nA, nB, nC];refine Zs 9 (some 19) (v := ?_) rfl rfl (by kernel_rfl) (fun _ _ _ h => h) rfl (fun x hx => ?_) ?_;rotate_left
     ·go_simp;first|done|with_reducible rfl|rw[if_neg (by omega)]|rw[if_pos (by omega)]
     simp only [Act.put, nA, nB, nC];refine Zs 10 (some 20) (v := ?_) rfl rfl (by kernel_rfl) (fun _ _ _ h => h) rfl (fun x hx => ?_) ?_;rotate_left
     ·go_simp;first|done|with_reducible rfl|rw[if_neg (by omega)]|rw[if_pos (by omega)]
     simp only [Act.put, nA, nB, nC];refine Zs 11 (some 21) (v := ?_) rfl rfl (by kernel_rfl) (fun _ _ _ h => h) rfl (fun x hx => ?_) ?_;rotate_left
     ·go_simp;first|done|with_reducible rfl|rw[if_neg (by omega)]|rw[if_pos (by omega)]
     simp only [Act.put, nA, nB, nC];refine Zs 12 (some 22) (v := ?_) rfl rfl (by kernel_rfl) (fun _ _ _ h => h) rfl (fun x hx => ?_) ?_;rotate_left
     ·go_simp;first|done|with_reducible rfl|rw[if_neg (by omega)]|rw[if_pos (by omega)]
     simp only [Act.put, nA, nB, nC];refine Zs 13 (some 23) (v := ?_) rfl rfl (by kernel_rfl) (fun _ _ _ h => h) rfl (fun x hx => ?_) ?_;rotate_left
     ·go_simp;first|done|with_reducible rfl|rw[if_neg (by omega)]|rw[if_pos (by omega)]
     simp only [Act.put, nA, nB, nC];refine Zs 14 (some 24) (v := ?_) rfl rfl (by kernel_rfl) (fun _ _ _ h => h) rfl (fun x hx => ?_) ?_;rotate_left
     ·go_simp;first|done|with_reducible rfl|rw[if_neg (by omega)]|rw[if_pos (by omega)]
     simp only [Act.put, nA, nB, nC];refine Zs 15 (some 25) (v := ?_) rfl rfl (by kernel_rfl) (fun _ _ _ h => h) rfl (fun x hx => ?_) ?_;rotate_left
     ·go_simp;first|done|with_reducible rfl|rw[if_neg (by omega)]|rw[if_pos (by omega)]
     simp only [Act.put, nA, nB, nC];refine Zs 16 (some 26) (v := ?_) rfl rfl (by kernel_rfl) (fun _ _ _ h => h) rfl (fun x hx => ?_) ?_;rotate_left
     ·go_simp;first|done|with_reducible rfl|rw[if_neg (by omega)]|rw[if_pos (by omega)]
     simp only [Act.put, nA, nB, nC];refine Zs 17 (some 27) (v := ?_) rfl rfl (by kernel_rfl) (fun _ _ _ h => h) rfl (fun x hx => ?_) ?_;rotate_left
     ·go_simp;first|done|with_reducible rfl|rw[if_neg (by omega)]|rw[if_pos (by omega)]
     simp only [Act.put, nA, nB, nC];refine Zag [] (by kernel_rfl) rfl rfl ?_;subst hR0;go_wp2_with fail;go_ret;exact ⟨rfl, hWw⟩
    ·have t4 : decide (c ≤ d) = false := nU hcd;have HD2 : Hd (∀ k (h : k < s.size), k < j + 1 → s[k].toNat ≤ 127 ∧ ∀ (_ : 0 < k), s[k - 1].toNat < s[k].toNat) := zh (fun k hk h => by
      rcases Nat.lt_or_ge k j with h1 | h1
      ·exact HD.o k hk h1
      ·obtain rfl : k = j := by omega
       have h2 := HC.o;have h3 := HDD.o;refine ⟨by omega, fun _ => ?_⟩;have h4 := HI.o;have e : s[k - 1].toNat = s[i].toNat := by simp only [h4, Nat.add_sub_cancel]
       omega)
     go_upto_region 4 with (fail);refine Z3 [] [] (by kernel_rfl) (fun W hW => ?_);have hWw : Below w.heap.size w W := by rw [hW]; exact hbel.drew
     clear hW;refine Zs 0 (some 10) (v := ?_) rfl rfl (by kernel_rfl) (fun _ _ _ h => h) rfl (fun x hx => ?_) ?_;rotate_left
     ·go_simp;first|done|with_reducible rfl|rw[if_neg (by omega)]|rw[if_pos (by omega)]
     simp only [Act.put, nA, nB, nC];refine Zs 1 (some 11) (v := ?_) rfl rfl (by kernel_rfl) (fun _ _ _ h => h) rfl (fun x hx => ?_) ?_;rotate_left
     ·go_simp;first|done|with_reducible rfl|rw[if_neg (by omega)]|rw[if_pos (by omega)]
     simp only [Act.put, nA, nB, nC];refine Zs 2 (some 12) (v := ?_) rfl rfl (by kernel_rfl) (fun _ _ _ h => h) rfl (fun x hx => ?_) ?_;rotate_left
     ·go_simp;first|done|with_reducible rfl|rw[if_neg (by omega)]|rw[if_pos (by omega)]
     simp only [Act.put, nA, nB, nC];refine Zs 3 (some 13) (v := ?_) rfl rfl (by kernel_rfl) (fun _ _ _ h => h) rfl (fun x hx => ?_) ?_;rotate_left
     ·go_simp;first|done|with_reducible rfl|rw[if_neg (by omega)]|rw[if_pos (by omega)]
     simp only [Act.put, nA, nB, nC];refine Zs 4 (some 14) (v := ?_) rfl rfl (by kernel_rfl) (fun _ _ _ h => h) rfl (fun x hx => ?_) ?_;rotate_left
     ·go_simp;first|done|with_reducible rfl|rw[if_neg (by omega)]|rw[if_pos (by omega)]
     simp only [Act.put, nA, nB, nC];refine Zs 5 (some 15) (v := ?_) rfl rfl (by kernel_rfl) (fun _ _ _ h => h) rfl (fun x hx => ?_) ?_;rotate_left
     ·go_simp;first|done|with_reducible rfl|rw[if_neg (by omega)]|rw[if_pos (by omega)]
     simp only [Act.put, nA, nB, nC];refine Zs 6 (some 16) (v := ?_) rfl rfl (by kernel_rfl) (fun _ _ _ h => h) rfl (fun x hx => ?_) ?_;rotate_left
     ·go_simp;first|done|with_reducible rfl|rw[if_neg (by omega)]|rw[if_pos (by omega)]
     simp only [Act.put, nA, nB, nC];refine Zs 7 (some 17) (v := ?_) rfl rfl (by kernel_rfl) (fun _ _ _ h => h) rfl (fun x hx => ?_) ?_;rotate_left
     ·go_simp;first|done|with_reducible rfl|rw[if_neg (by omega)]|rw[if_pos (by omega)]
     simp only [Act.put, nA, nB, nC];refine Zs 8 (some 18) (v := ?_) rfl rfl (by kernel_rfl) (fun _ _ _ h => h) rfl (fun x hx => ?_) ?_;rotate_left
     ·go_simp;first|done|with_reducible rfl|rw[if_neg (by omega)]|rw[if_pos (by omega)]
     simp only [Act.put, nA, nB, nC];refine Zs 9 (some 19) (v := ?_) rfl rfl (by kernel_rfl) (fun _ _ _ h => h) rfl (fun x hx => ?_) ?_;rotate_left
     ·go_simp;first|done|with_reducible rfl|rw[if_neg (by omega)]|rw[if_pos (by omega)]
     simp only [Act.put, nA, nB, nC];refine Zs 10 (some 20) (v := ?_) rfl rfl (by kernel_rfl) (fun _ _ _ h => h) rfl (fun x hx => ?_) ?_;rotate_left
     ·go_simp;first|done|with_reducible rfl|rw[if_neg (by omega)]|rw[if_pos (by omega)]
     simp only [Act.put, nA, nB, nC];refine Zs 11 (some 21) (v := ?_) rfl rfl (by kernel_rfl) (fun _ _ _ h => h) rfl (fun x hx => ?_) ?_;rotate_left
     ·go_simp;first|done|with_reducible rfl|rw[if_neg (by omega)]|rw[if_pos (by omega)]
     simp only [Act.put, nA, nB, nC];refine Zs 12 (some 22) (v := ?_) rfl rfl (by kernel_rfl) (fun _ _ _ h => h) rfl (fun x hx => ?_) ?_;rotate_left
     ·go_simp;first|done|with_reducible rfl|rw[if_neg (by omega)]|rw[if_pos (by omega)]
     simp only [Act.put, nA, nB, nC];refine Zs 13 (some 23) (v := ?_) rfl rfl (by kernel_rfl) (fun _ _ _ h => h) rfl (fun x hx => ?_) ?_;rotate_left
     ·go_simp;first|done|with_reducible rfl|rw[if_neg (by omega)]|rw[if_pos (by omega)]
     simp only [Act.put, nA, nB, nC];refine Zs 14 (some 24) (v := ?_) rfl rfl (by kernel_rfl) (fun _ _ _ h => h) rfl (fun x hx => ?_) ?_;rotate_left
     ·go_simp;first|done|with_reducible rfl|rw[if_neg (by omega)]|rw[if_pos (by omega)]
     simp only [Act.put, nA, nB, nC];refine Zs 15 (some 25) (v := ?_) rfl rfl (by kernel_rfl) (fun _ _ _ h => h) rfl (fun x hx => ?_) ?_;rotate_left
     ·go_simp;first|done|with_reducible rfl|rw[if_neg (by omega)]|rw[if_pos (by omega)]
     simp only [Act.put, nA, nB, nC];refine Zs 16 (some 26) (v := ?_) rfl rfl (by kernel_rfl) (fun _ _ _ h => h) rfl (fun x hx => ?_) ?_;rotate_left
     ·go_simp;first|done|with_reducible rfl|rw[if_neg (by omega)]|rw[if_pos (by omega)]
     simp only [Act.put, nA, nB, nC];refine Zs 17 (some 27) (v := ?_) rfl rfl (by kernel_rfl) (fun _ _ _ h => h) rfl (fun x hx => ?_) ?_;rotate_left
     ·go_simp;first|done|with_reducible rfl|rw[if_neg (by omega)]|rw[if_pos (by omega)]
     simp only [Act.put, nA, nB, nC];refine Zag [] (by kernel_rfl) rfl rfl ?_;go_wp2_with fail
     go_roundw
     case rel => exact ⟨j + 1, by go_num, by omega, HD2, hWw⟩
     case measure => simp [intOf]; omega
  ·have t1 : decide ((j : Int) < s.size) = false := nU (by omega);have hR0 : R = true := by
    rw [← HR.o, Zra (fun k h => by rw [Zd5] at h; rw [Zfd s k h]; exact (HD.o k h (by omega)).1) (fun k h => by
     rw [Zd5] at h;rw [Zfd s k (by omega), Zfd s (k + 1) h];have := (HD.o (k + 1) h (by omega)).2 (by omega)
     simpa using this)]
   subst hR0;go_wp2_with fail;go_ret;exact ⟨rfl, hbel⟩
def inB (a n : Int) : Bool := decide (0 ≤ a) && decide (a < n)
def tOk (op : Int) (text : ByteArray) : Bool := if op = 2 then decide ((text.size : Int) ≤ 120) else if op = 3 then Zfc (bl text) else text.toList == []
theorem Znj {x : UInt8} (h : Zbr x = true) : Zb0 x = false := by
 unfold Zbr at h;unfold Zb0;simp at h ⊢
 omega
def Zba (s : ByteArray) : Bool := decide (1 ≤ s.size) && decide (s.size ≤ 12) && !((bl s).head?.any Zb0) && !Zh8 s && (bl s).all fun x => Zbr x || Zb0 x
theorem Zmm (s : ByteArray) : (bl s).length = s.size := by simp [bl]
theorem Zrb (s : ByteArray) (j : Nat) (h : j < s.size) : (bl s)[j]'(by rw [Zmm]; exact h) = s[j] := rfl
theorem Zkn {s : ByteArray} (hp : 0 < s.size) : (bl s).head? = some s[0] := by
 rw [List.head?_eq_getElem?, List.getElem?_eq_getElem (by rw [Zmm]; exact hp), Zrb]
theorem Zko {s : ByteArray} (h : s.size < 1) : Zba s = false := by
 unfold Zba; rw [show decide (1 ≤ s.size) = false from nU (by omega)]; rfl
theorem Zl1 {s : ByteArray} (h : 12 < s.size) : Zba s = false := by
 unfold Zba; rw [show decide (s.size ≤ 12) = false from nU (by omega), Bool.and_false]; rfl
theorem Znk {s : ByteArray} (hp : 0 < s.size) (h : Zb0 s[0] = true) : Zba s = false := by
 unfold Zba; rw [Zkn hp]; simp [h]
theorem Znl {s : ByteArray} (h : Zh8 s = true) : Zba s = false := by
 unfold Zba; rw [h]; simp
theorem Zmn {s : ByteArray} {j : Nat} (hj : j < s.size) (h : (Zbr s[j] || Zb0 s[j]) = false) : Zba s = false := by
 unfold Zba;have : (bl s).all (fun x => Zbr x || Zb0 x) = false := by
  rw [List.all_eq_false];exact ⟨s[j], by rw [← Zrb s j hj]; exact List.getElem_mem _, by rw [h]; decide⟩
 rw [this, Bool.and_false]
theorem Zov {s : ByteArray} (hp : 0 < s.size) (h : Zbr s[0] = false) : Zba s = false := by
 cases hd : Zb0 s[0] with
 | true => exact Znk hp hd
 | false => exact Zmn hp (by rw [h, hd]; rfl)
theorem Znm {s : ByteArray} (h1 : 1 ≤ s.size) (h2 : s.size ≤ 12) (h3 : (∃ hp : 0 < s.size, Zb0 s[0] = false) ∨ (∃ hp : 0 < s.size, Zbr s[0] = true)) (h4 : Zh8 s = false) (h5 : ∀ k (h : k < s.size), (Zbr s[k] || Zb0 s[k]) = true) : Zba s = true := by
 have hd : Zb0 s[0] = false := by
  rcases h3 with ⟨_, h⟩ | ⟨_, h⟩
  ·exact h
  ·exact Znj h
 unfold Zba;rw [Zkn h1, h4];simp only [Option.any_some, hd, h1, h2, decide_true, Bool.not_false, Bool.and_true, Bool.true_and];rw [List.all_eq_true];intro x hx;obtain ⟨k, hk, rfl⟩ := List.getElem_of_mem hx;rw [Zmm] at hk;rw [Zrb s k hk];exact h5 k hk
theorem Zc4 (s : ByteArray) (w : World) (hs : s.size ≤ maxLen) (ht : Spc w) : Calls Tryz.prog 76 #[.string s] w fun e w' => e = .returned (.bool (Zba s)) ∧ Below w.heap.size w w' := by
 unfold maxLen at hs;obtain ⟨R, hR⟩ : ∃ R, Zba s = R := ⟨_, rfl⟩;rw [hR];have HR := zh hR;clear hR;have HX := zh (Zhu s w ht);clear ht
 by_cases h1 : s.size < 1
 ·have hR0 : R = false := by rw [← HR.o, Zko h1]
  have t1 : decide ((s.size : Int) < 1) = true := nT (by omega);subst hR0;go_enter Tryz.func76, Tryz.ntmps76;go_wp2_with fail;go_ret;exact ⟨rfl, Below.refl _ _⟩
 have t1 : decide ((s.size : Int) < 1) = false := nU (by omega)
 by_cases h12 : 12 < s.size
 ·have hR0 : R = false := by rw [← HR.o, Zl1 h12]
  have t2 : decide ((12 : Int) < s.size) = true := nT (by omega);subst hR0;go_enter Tryz.func76, Tryz.ntmps76;go_wp2_with fail;go_ret;exact ⟨rfl, Below.refl _ _⟩
 have t2 : decide ((12 : Int) < s.size) = false := nU (by omega);have hp : 0 < s.size := by omega
 have hp' : (0 : Int) < s.size := by omega
 obtain ⟨c0, hc0⟩ : ∃ c : Int, (s[0].toNat : Int) = c := ⟨_, rfl⟩;have HF := zh (fun w => Zje s[0] c0 hc0 w);go_enter Tryz.func76, Tryz.ntmps76;go_wp2_with fail;refine (HF.o _).mono ?_;rintro e w' ⟨rfl, hw⟩;obtain rfl := hw.symm
 by_cases hf : Zb0 s[0] = true
 ·have hR0 : R = false := by rw [← HR.o, Znk hp hf]
  rw [hf];subst hR0;go_wp2_with fail;go_ret;exact ⟨rfl, Below.refl _ _⟩
 have hf2 : Zb0 s[0] = false := by simpa using hf
 rw [hf2];have HF2 := zh hf2;clear hf hf2 HF;go_wp2_with fail;refine HX.o.mono ?_;rintro e w1 ⟨rfl, hb1⟩
 by_cases hx : Zh8 s = true
 ·have hR0 : R = false := by rw [← HR.o, Znl hx]
  rw [hx];subst hR0;go_wp2_with fail;go_ret;exact ⟨rfl, hb1⟩
 have hx2 : Zh8 s = false := by simpa using hx
 rw [hx2];have HX2 := zh hx2;clear hx hx2 HX;go_wp2_with fail
 go_loopw [3] (fun i wr => ∃ j : Nat, i = .int .i64 j ∧ j ≤ s.size ∧ Hd (∀ k (h : k < s.size), k < j → (Zbr s[k] || Zb0 s[k]) = true) ∧ wr = w1) (fun i _ => s.size - (intOf i).toNat)
 case atStart => exact ⟨0, rfl, Nat.zero_le _, zh (fun k _ h => by omega), rfl⟩
 case round =>
  obtain ⟨j, rfl, hj, HD, hw⟩ := hrel;obtain rfl : w1 = wr := hw.symm
  by_cases hlt : j < s.size
  ·have t3 : decide ((j : Int) < s.size) = true := nT (by omega);obtain ⟨c, hc⟩ : ∃ c : Int, (s[j].toNat : Int) = c := ⟨_, rfl⟩;have HL := zh (fun w => Zmj s[j] c hc w);have HG := zh (fun w => Zje s[j] c hc w);have HJ := zh (fun h => Zmn (s := s) hlt h);have HD2 := zh (fun (h : (Zbr s[j] || Zb0 s[j]) = true) => show ∀ k (h : k < s.size), k < j + 1 → (Zbr s[k] || Zb0 s[k]) = true from fun k hk h1 => by
    rcases Nat.lt_or_ge k j with h2 | h2
    ·exact HD.o k hk h2
    ·obtain rfl : k = j := by omega
     exact h)
   go_wp2_with fail;refine (HL.o _).mono ?_;rintro e w' ⟨rfl, hw⟩;obtain rfl := hw.symm
   by_cases hl : Zbr s[j] = true
   ·rw [hl];have HD3 := zh (HD2.o (by rw [hl]; rfl));clear HD2 HJ HG HL hl;go_wp2_with fail
    go_roundw
    case rel => exact ⟨j + 1, by go_num, by omega, HD3, trivial⟩
    case measure => simp [intOf]; omega
   ·have hl2 : Zbr s[j] = false := by simpa using hl
    rw [hl2];have HL2 := zh hl2;clear hl hl2 HL;go_wp2_with fail;refine (HG.o _).mono ?_;rintro e w' ⟨rfl, hw⟩;obtain rfl := hw.symm
    by_cases hg : Zb0 s[j] = true
    ·rw [hg];have HD3 := zh (HD2.o (by rw [hg]; simp));clear HD2 HJ HG hg HL2;go_wp2_with fail
     go_roundw
     case rel => exact ⟨j + 1, by go_num, by omega, HD3, trivial⟩
     case measure => simp [intOf]; omega
    ·have hg2 : Zb0 s[j] = false := by simpa using hg
     have hR0 : R = false := by rw [← HR.o, HJ.o (by rw [HL2.o, hg2]; rfl)]
     rw [hg2];subst hR0;clear hg hg2 HG HJ HD2;go_wp2_with fail;go_ret;exact ⟨rfl, hb1⟩
  ·have t3 : decide ((j : Int) < s.size) = false := nU (by omega);have hR0 : R = true := by rw [← HR.o, Znm (by omega) (by omega) (.inl ⟨hp, HF2.o⟩) HX2.o (fun k hk => HD.o k hk (by omega))]
   subst hR0;go_wp2_with fail;go_ret;exact ⟨rfl, hb1⟩
theorem Zc5 (s : ByteArray) (w : World) (hs : s.size ≤ maxLen) : Calls Tryz.prog 67 #[.string s] w fun e w' => e = .returned (.bool (Zba s)) ∧ Below w.heap.size w w' := by
 unfold maxLen at hs;obtain ⟨R, hR⟩ : ∃ R, Zba s = R := ⟨_, rfl⟩;rw [hR];have HR := zh hR;clear hR;have HX := zh (Zhv s w)
 skip
 by_cases h1 : s.size < 1
 ·have hR0 : R = false := by rw [← HR.o, Zko h1]
  have t1 : decide ((s.size : Int) < 1) = true := nT (by omega);subst hR0;go_enter Tryz.func67, Tryz.ntmps67;go_wp2_with fail;go_ret;exact ⟨rfl, Below.refl _ _⟩
 have t1 : decide ((s.size : Int) < 1) = false := nU (by omega)
 by_cases h12 : 12 < s.size
 ·have hR0 : R = false := by rw [← HR.o, Zl1 h12]
  have t2 : decide ((12 : Int) < s.size) = true := nT (by omega);subst hR0;go_enter Tryz.func67, Tryz.ntmps67;go_wp2_with fail;go_ret;exact ⟨rfl, Below.refl _ _⟩
 have t2 : decide ((12 : Int) < s.size) = false := nU (by omega);have hp : 0 < s.size := by omega
 have hp' : (0 : Int) < s.size := by omega
 obtain ⟨c0, hc0⟩ : ∃ c : Int, (s[0].toNat : Int) = c := ⟨_, rfl⟩;have HF := zh (fun w => Zh7 s[0] c0 hc0 w);go_enter Tryz.func67, Tryz.ntmps67;go_wp2_with fail;refine (HF.o _).mono ?_;rintro e w' ⟨rfl, hw⟩;obtain rfl := hw.symm
 by_cases hf : Zbr s[0] = false
 ·have hR0 : R = false := by rw [← HR.o, Zov hp hf]
  rw [hf];subst hR0;go_wp2_with fail;go_ret;exact ⟨rfl, Below.refl _ _⟩
 have hf2 : Zbr s[0] = true := by simpa using hf
 rw [hf2];have HF2 := zh hf2;clear hf hf2 HF;go_wp2_with fail;refine HX.o.mono ?_;rintro e w1 ⟨rfl, hb1⟩
 by_cases hx : Zh8 s = true
 ·have hR0 : R = false := by rw [← HR.o, Znl hx]
  rw [hx];subst hR0;go_wp2_with fail;go_ret;exact ⟨rfl, hb1⟩
 have hx2 : Zh8 s = false := by simpa using hx
 rw [hx2];have HX2 := zh hx2;clear hx hx2 HX;go_wp2_with fail
 go_loopw [3] (fun i wr => ∃ j : Nat, i = .int .i64 j ∧ j ≤ s.size ∧ Hd (∀ k (h : k < s.size), k < j → (Zbr s[k] || Zb0 s[k]) = true) ∧ wr = w1) (fun i _ => s.size - (intOf i).toNat)
 case atStart => exact ⟨0, rfl, Nat.zero_le _, zh (fun k _ h => by omega), rfl⟩
 case round =>
  obtain ⟨j, rfl, hj, HD, hw⟩ := hrel;obtain rfl : w1 = wr := hw.symm
  by_cases hlt : j < s.size
  ·have t3 : decide ((j : Int) < s.size) = true := nT (by omega);obtain ⟨c, hc⟩ : ∃ c : Int, (s[j].toNat : Int) = c := ⟨_, rfl⟩;have HL := zh (fun w => Zh7 s[j] c hc w);have HG := zh (fun w => Znc s[j] c hc w);have HJ := zh (fun h => Zmn (s := s) hlt h);have HD2 := zh (fun (h : (Zbr s[j] || Zb0 s[j]) = true) => show ∀ k (h : k < s.size), k < j + 1 → (Zbr s[k] || Zb0 s[k]) = true from fun k hk h1 => by
    rcases Nat.lt_or_ge k j with h2 | h2
    ·exact HD.o k hk h2
    ·obtain rfl : k = j := by omega
     exact h)
   go_wp2_with fail;refine (HL.o _).mono ?_;rintro e w' ⟨rfl, hw⟩;obtain rfl := hw.symm
   by_cases hl : Zbr s[j] = true
   ·rw [hl];have HD3 := zh (HD2.o (by rw [hl]; rfl));clear HD2 HJ HG HL hl;go_wp2_with fail
    go_roundw
    case rel => exact ⟨j + 1, by go_num, by omega, HD3, trivial⟩
    case measure => simp [intOf]; omega
   ·have hl2 : Zbr s[j] = false := by simpa using hl
    rw [hl2];have HL2 := zh hl2;clear hl hl2 HL;go_wp2_with fail;refine (HG.o _).mono ?_;rintro e w' ⟨rfl, hw⟩;obtain rfl := hw.symm
    by_cases hg : Zb0 s[j] = true
    ·rw [hg];have HD3 := zh (HD2.o (by rw [hg]; simp));clear HD2 HJ HG hg HL2;go_wp2_with fail
     go_roundw
     case rel => exact ⟨j + 1, by go_num, by omega, HD3, trivial⟩
     case measure => simp [intOf]; omega
    ·have hg2 : Zb0 s[j] = false := by simpa using hg
     have hR0 : R = false := by rw [← HR.o, HJ.o (by rw [HL2.o, hg2]; rfl)]
     rw [hg2];subst hR0;clear hg hg2 HG HJ HD2;go_wp2_with fail;go_ret;exact ⟨rfl, hb1⟩
  ·have t3 : decide ((j : Int) < s.size) = false := nU (by omega);have hR0 : R = true := by rw [← HR.o, Znm (by omega) (by omega) (.inr ⟨hp, HF2.o⟩) HX2.o (fun k hk => HD.o k hk (by omega))]
   subst hR0;go_wp2_with fail;go_ret;exact ⟨rfl, hb1⟩
theorem Zl2 {l : List ByteArray} (h : ∀ k (hk : k < l.length), Zba l[k] = true) : l.all Zba = true := by
 rw [List.all_eq_true];intro x hx;obtain ⟨k, hk, rfl⟩ := List.getElem_of_mem hx;exact h k hk
theorem Znn {l : List ByteArray} {j : Nat} (hj : j < l.length) (h : Zba l[j] = false) : l.all Zba = false := by
 rw [List.all_eq_false];exact ⟨_, List.getElem_mem hj, by rw [h]; decide⟩
def twB (l : List ByteArray) : Bool := (List.range l.length).any fun j => Zdy (l.take j) (l.getD j ⟨#[]⟩)
theorem Zpb {l : List ByteArray} {j : Nat} (hj : j < l.length) (d : ByteArray) : l.getD j d = l[j] := by
 rw [List.getD_eq_getElem?_getD, List.getElem?_eq_getElem hj]; rfl
theorem Zpc {l : List ByteArray} {j : Nat} (hj : j < l.length) (h : Zdy (l.take j) l[j] = true) : twB l = true := by
 unfold twB;rw [List.any_eq_true];exact ⟨j, List.mem_range.2 hj, by rw [Zpb hj]; exact h⟩
theorem Zrc {l : List ByteArray} (h : ∀ k (hk : k < l.length), Zdy (l.take k) l[k] = false) : twB l = false := by
 unfold twB;rw [List.any_eq_false];intro j hj;rw [List.mem_range] at hj;rw [Zpb hj, h j hj]
 decide
theorem Z5.take {α : Type} {El : Za6 α} {size : Nat} {F : Nat → Prop} {w : World} {l : List α} {A : Option Addr} {n c j : Nat} (hj : j ≤ l.length) (h : Z5 El size F w l (.slice A n c)) : Z5 El size F w (l.take j) (.slice A j c) := by
 obtain ⟨A', c', e, h1, h2, h3⟩ := h;cases e;have hlen : (l.take j).length = j := by rw [List.length_take]; omega
 refine ⟨A, c, by rw [hlen], by omega, h2, fun i hi => ?_⟩;obtain ⟨b, o, cs, e, hF, hb, hel, hc⟩ := h3 i (by omega);exact ⟨b, o, cs, e, hF, hb, by rw [List.getElem_take]; exact hel, hc⟩
theorem Zic (l : List ByteArray) (v : Value) (F : Nat → Prop) (w : World) (hr : Z5 Zbe 1 F w l v) (ht : Spc w) : Calls Tryz.prog 75 #[v] w fun e w' => e = .returned (.bool (l.all Zba)) ∧ Below w.heap.size w w' := by
 obtain ⟨A, c, rfl, hc, hcm, hel⟩ := hr;unfold maxLen at hcm;have HEL := zh hel;obtain ⟨R, hR⟩ : ∃ R, (l.all Zba) = R := ⟨_, rfl⟩;rw [hR];have HR := zh hR;have HT := zh ht;clear hR hel ht;go_enter Tryz.func75, Tryz.ntmps75;go_wp2_with fail
 go_loopw [7] (fun i wr => ∃ j : Nat, i = .int .i64 j ∧ j ≤ l.length ∧ Hd (∀ k (h : k < l.length), k < j → Zba l[k] = true) ∧ Below w.heap.size w wr) (fun i _ => l.length - (intOf i).toNat)
 case atStart => exact ⟨0, rfl, Nat.zero_le _, zh (fun k _ h => by omega), Below.refl _ _⟩
 case round =>
  obtain ⟨j, rfl, hj, HD, hbel⟩ := hrel;have hsz := hbel.size
  by_cases hlt : j < l.length
  ·obtain ⟨b, o, cs, rfl, hF, hbl, hE, hcell⟩ := HEL.o j hlt;obtain ⟨rfl, hsm⟩ := hE;have t1 : decide ((j : Int) < l.length) = true := nT (by omega);have hlt' : (j : Int) < l.length := by omega
   have e0 := (hbel.cell (p := ⟨b, o + j * 1 + 0, none⟩) hbl).trans (hcell 0 _ rfl);simp only [Nat.mul_one, Nat.add_zero] at e0;obtain ⟨s, hs⟩ : ∃ s, l[j] = s := ⟨_, rfl⟩;rw [hs] at e0 hsm;have HN := zh (Zc4 s wr hsm (HT.o.below hbel));have HD2 := zh (fun (h : Zba s = true) => show ∀ k (h : k < l.length), k < j + 1 → Zba l[k] = true from fun k hk h1 => by
    rcases Nat.lt_or_ge k j with h2 | h2
    ·exact HD.o k hk h2
    ·obtain rfl : k = j := by omega
     rw [hs]; exact h)
   have HNO := zh (fun (h : Zba s = false) => Znn hlt (by rw [hs]; exact h));clear hcell hsm hs;go_wp2_with fail;refine HN.o.mono ?_;rintro e w1 ⟨rfl, hb1⟩;have hbel1 := hbel.trans (Below.mono hb1 hsz);clear e0 hb1
   by_cases hn : Zba s = true
   ·have HD3 := zh (HD2.o hn);rw [hn];clear HD2 HNO HN hn;go_wp2_with fail
    go_roundw
    case rel => exact ⟨j + 1, by go_num, by omega, HD3, hbel1⟩
    case measure => simp [intOf]; omega
   ·have hn2 : Zba s = false := by simpa using hn
    have hR0 : R = false := by rw [← HR.o, HNO.o hn2]
    rw [hn2];subst hR0;clear hn hn2 HNO HD2 HN;go_wp2_with fail;go_ret;exact ⟨rfl, hbel1⟩
  ·have t1 : decide ((j : Int) < l.length) = false := nU (by omega);have hR0 : R = true := by rw [← HR.o, Zl2 (fun k hk => HD.o k hk (by omega))]
   subst hR0;go_wp2_with fail;go_ret;exact ⟨rfl, hbel⟩
theorem Zhm (l : List ByteArray) (v : Value) (most : Int) (F : Nat → Prop) (w : World) (hr : Z5 Zbe 1 F w l v) : Calls Tryz.prog 65 #[v, .int .i64 most] w fun e w' => e = .returned (.bool (l.all Zba && decide ((l.length : Int) ≤ most))) ∧ Below w.heap.size w w' := by
 obtain ⟨A, c, rfl, hc, hcm, hel⟩ := hr;unfold maxLen at hcm;have HEL := zh hel;obtain ⟨R, hR⟩ : ∃ R, (l.all Zba && decide ((l.length : Int) ≤ most)) = R := ⟨_, rfl⟩;rw [hR];have HR := zh hR
 skip
 clear hR hel;go_enter Tryz.func65, Tryz.ntmps65;go_wp2_with fail
 go_loopw [5] (fun i wr => ∃ j : Nat, i = .int .i64 j ∧ j ≤ l.length ∧ Hd (∀ k (h : k < l.length), k < j → Zba l[k] = true) ∧ Below w.heap.size w wr) (fun i _ => l.length - (intOf i).toNat)
 case atStart => exact ⟨0, rfl, Nat.zero_le _, zh (fun k _ h => by omega), Below.refl _ _⟩
 case round =>
  obtain ⟨j, rfl, hj, HD, hbel⟩ := hrel;have hsz := hbel.size
  by_cases hlt : j < l.length
  ·obtain ⟨b, o, cs, rfl, hF, hbl, hE, hcell⟩ := HEL.o j hlt;obtain ⟨rfl, hsm⟩ := hE;have t1 : decide ((j : Int) < l.length) = true := nT (by omega);have hlt' : (j : Int) < l.length := by omega
   have e0 := (hbel.cell (p := ⟨b, o + j * 1 + 0, none⟩) hbl).trans (hcell 0 _ rfl);simp only [Nat.mul_one, Nat.add_zero] at e0;obtain ⟨s, hs⟩ : ∃ s, l[j] = s := ⟨_, rfl⟩;rw [hs] at e0 hsm;have HN := zh (Zc5 s wr hsm);have HD2 := zh (fun (h : Zba s = true) => show ∀ k (h : k < l.length), k < j + 1 → Zba l[k] = true from fun k hk h1 => by
    rcases Nat.lt_or_ge k j with h2 | h2
    ·exact HD.o k hk h2
    ·obtain rfl : k = j := by omega
     rw [hs]; exact h)
   have HNO := zh (fun (h : Zba s = false) => Znn hlt (by rw [hs]; exact h));clear hcell hsm hs;go_wp2_with fail;refine HN.o.mono ?_;rintro e w1 ⟨rfl, hb1⟩;have hbel1 := hbel.trans (Below.mono hb1 hsz);clear e0 hb1
   by_cases hn : Zba s = true
   ·have HD3 := zh (HD2.o hn);rw [hn];clear HD2 HNO HN hn;go_wp2_with fail
    go_roundw
    case rel => exact ⟨j + 1, by go_num, by omega, HD3, hbel1⟩
    case measure => simp [intOf]; omega
   ·have hn2 : Zba s = false := by simpa using hn
    have hR0 : R = false := by rw [← HR.o, HNO.o hn2]; rfl
    rw [hn2];subst hR0;clear hn hn2 HNO HD2 HN;go_wp2_with fail;go_ret;exact ⟨rfl, hbel1⟩
  ·have t1 : decide ((j : Int) < l.length) = false := nU (by omega);have hR0 : R = decide ((l.length : Int) ≤ most) := by rw [← HR.o, Zl2 (fun k hk => HD.o k hk (by omega)), Bool.true_and]
   subst hR0;go_wp2_with fail;go_ret;exact ⟨rfl, hbel⟩
theorem Zno (l : List ByteArray) (v : Value) (F : Nat → Prop) (w : World) (hr : Z5 Zbe 1 F w l v) : Calls Tryz.prog 68 #[v] w fun e w' => e = .returned (.bool (twB l)) ∧ w' = w := by
 have HROW := zh hr;obtain ⟨A, c, rfl, hc, hcm, hel⟩ := hr;unfold maxLen at hcm;have HEL := zh hel;obtain ⟨R, hR⟩ : ∃ R, twB l = R := ⟨_, rfl⟩;rw [hR];have HR := zh hR;clear hR hel;go_enter Tryz.func68, Tryz.ntmps68;go_wp2_with fail
 go_loopw [3] (fun i wr => ∃ j : Nat, i = .int .i64 j ∧ j ≤ l.length ∧ Hd (∀ k (h : k < l.length), k < j → Zdy (l.take k) l[k] = false) ∧ wr = w) (fun i _ => l.length - (intOf i).toNat)
 case atStart => exact ⟨0, rfl, Nat.zero_le _, zh (fun k _ h => by omega), rfl⟩
 case round =>
  obtain ⟨j, rfl, hj, HD, hw⟩ := hrel;obtain rfl : w = wr := hw.symm
  by_cases hlt : j < l.length
  ·obtain ⟨b, o, cs, rfl, hF, hbl, hE, hcell⟩ := HEL.o j hlt;obtain ⟨rfl, hsm⟩ := hE;have t1 : decide ((j : Int) < l.length) = true := nT (by omega);have hlt' : (j : Int) < l.length := by omega
   have e0 := hcell 0 _ rfl;simp only [Nat.mul_one, Nat.add_zero] at e0;have hff := Zq2 hlt;have HYES := zh (fun h => Zpc hlt h);have HD2 := zh (fun (h : Zdy (l.take j) l[j] = false) => show ∀ k (h : k < l.length), k < j + 1 → Zdy (l.take k) l[k] = false from fun k hk h1 => by
    rcases Nat.lt_or_ge k j with h2 | h2
    ·exact HD.o k hk h2
    ·obtain rfl : k = j := by omega
     exact h)
   obtain ⟨s, hs⟩ : ∃ s, l[j] = s := ⟨_, rfl⟩;rw [hs] at e0 hff HYES HD2;have HN := zh (Zok l _ s F w HROW.o);obtain ⟨z, hz⟩ : ∃ z, Zfx l s = z := ⟨_, rfl⟩;rw [hz] at HN hff;clear hcell hsm hs hz;go_wp2_with fail;refine HN.o.mono ?_;rintro e w1 ⟨rfl, hw1⟩;obtain rfl := hw1.symm;clear e0
   by_cases hn : Zdy (l.take j) s = true
   ·have hR0 : R = true := by rw [← HR.o, HYES.o hn]
    rw [hn] at hff;subst hR0;clear hn HYES HD2 HN;go_wp2_with fail;go_ret;exact ⟨rfl, rfl⟩
   ·have hn2 : Zdy (l.take j) s = false := by simpa using hn
    have HD3 := zh (HD2.o hn2);rw [hn2] at hff;clear hn hn2 HYES HD2 HN;go_wp2_with fail
    go_roundw
    case rel => exact ⟨j + 1, by go_num, by omega, HD3, trivial⟩
    case measure => simp [intOf]; omega
  ·have t1 : decide ((j : Int) < l.length) = false := nU (by omega);have hR0 : R = false := by rw [← HR.o, Zrc (fun k hk => HD.o k hk (by omega))]
   subst hR0;go_wp2_with fail;go_ret;exact ⟨rfl, rfl⟩
theorem Zmo (l : List ByteArray) (v : Value) (F : Nat → Prop) (w : World) (hr : Z5 Zbe 1 F w l v) : Calls Tryz.prog 131 #[v] w fun e w' => e = .returned (.bool (twB l)) ∧ Below w.heap.size w w' := by
 have HROW := zh hr;obtain ⟨A, c, rfl, hc, hcm, hel⟩ := hr;unfold maxLen at hcm;have HEL := zh hel;obtain ⟨R, hR⟩ : ∃ R, twB l = R := ⟨_, rfl⟩;rw [hR];have HR := zh hR;clear hR hel;go_enter Tryz.func131, Tryz.ntmps131;go_wp2_with fail
 go_loopw [6] (fun i wr => ∃ j : Nat, i = .int .i64 j ∧ j ≤ l.length ∧ Hd (∀ k (h : k < l.length), k < j → Zdy (l.take k) l[k] = false) ∧ Below w.heap.size w wr) (fun i _ => l.length - (intOf i).toNat)
 case atStart => exact ⟨0, rfl, Nat.zero_le _, zh (fun k _ h => by omega), Below.refl _ _⟩
 case round =>
  obtain ⟨j, rfl, hj, HD, hbel⟩ := hrel;have hsz := hbel.size
  by_cases hlt : j < l.length
  ·obtain ⟨b, o, cs, rfl, hF, hbl, hE, hcell⟩ := HEL.o j hlt;obtain ⟨rfl, hsm⟩ := hE;have t1 : decide ((j : Int) < l.length) = true := nT (by omega);have hlt' : (j : Int) < l.length := by omega
   have e0 := (hbel.cell (p := ⟨b, o + j * 1 + 0, none⟩) hbl).trans (hcell 0 _ rfl);simp only [Nat.mul_one, Nat.add_zero] at e0;have HYES := zh (fun h => Zpc hlt h);have HD2 := zh (fun (h : Zdy (l.take j) l[j] = false) => show ∀ k (h : k < l.length), k < j + 1 → Zdy (l.take k) l[k] = false from fun k hk h1 => by
    rcases Nat.lt_or_ge k j with h2 | h2
    ·exact HD.o k hk h2
    ·obtain rfl : k = j := by omega
     exact h)
   obtain ⟨s, hs⟩ : ∃ s, l[j] = s := ⟨_, rfl⟩;rw [hs] at e0 HYES HD2;have hbr : b < wr.heap.size := Nat.lt_of_lt_of_le hbl hsz;have hjc : j ≤ c := by omega
   have hjc' : (j : Int) ≤ c := by omega
   have HTK := zh (Z5.take hj (HROW.o.later Zt hbel));clear hcell hsm hs;go_upto_region 4 with (fail);refine Z3 [7] [] (by kernel_rfl) (fun W hW => ?_);have hWL : Za wr W := by rw [hW]; exact (Za.refl _).drew
   have eW := (hWL.cell ⟨b, o + j, none⟩ hbr).trans e0;have hbW : b < W.heap.size := Nat.lt_of_lt_of_le hbr hWL.size;clear hW;refine Zs 0 (some 9) (v := ?_) rfl rfl (by kernel_rfl) (fun _ _ _ h => h) rfl (fun x hx => ?_) ?_;rotate_left
   ·go_simp;first|done|with_reducible rfl|rw[if_neg (by omega)]|rw[if_pos (by omega)]
   simp only [Act.put, nA, nB, nC];refine Zs 1 (some 10) (v := ?_) rfl rfl (by kernel_rfl) (fun _ _ _ h => h) rfl (fun x hx => ?_) ?_;rotate_left
   ·go_simp;first|done|with_reducible rfl|rw[if_neg (by omega)]|rw[if_pos (by omega)]
   simp only [Act.put, nA, nB, nC];refine Zs 2 (some 11) (v := ?_) rfl rfl (by kernel_rfl) (fun _ _ _ h => h) rfl (fun x hx => ?_) ?_;rotate_left
   ·go_simp;first|done|with_reducible rfl|rw[if_neg (by omega)]|rw[if_pos (by omega)]
   simp only [Act.put, nA, nB, nC];refine Zs 3 (some 12) (v := ?_) rfl rfl (by kernel_rfl) (fun _ _ _ h => h) rfl (fun x hx => ?_) ?_;rotate_left
   ·go_simp;first|done|with_reducible rfl|rw[if_neg (by omega)]|rw[if_pos (by omega)]
   simp only [Act.put, nA, nB, nC];refine Zs 4 (some 13) (v := ?_) rfl rfl (by kernel_rfl) (fun _ _ _ h => h) rfl (fun x hx => ?_) ?_;rotate_left
   ·go_simp;first|done|with_reducible rfl|rw[if_neg (by omega)]|rw[if_pos (by omega)]
   simp only [Act.put, nA, nB, nC];refine Zs 5 (some 14) (v := ?_) rfl rfl (by kernel_rfl) (fun _ _ _ h => h) rfl (fun x hx => ?_) ?_;rotate_left
   ·go_simp;first|done|with_reducible rfl|rw[if_neg (by omega)]|rw[if_pos (by omega)]
   simp only [Act.put, nA, nB, nC];refine Zs 6 (some 15) (v := ?_) rfl rfl (by kernel_rfl) (fun _ _ _ h => h) rfl (fun x hx => ?_) ?_;rotate_left
   ·have hx0 := (hx.cell ⟨b, o + j, none⟩ hbW).trans eW; go_simp;first|done|with_reducible rfl|rw[if_neg (by omega)]|rw[if_pos (by omega)]
   simp only [Act.put, nA, nB, nC];refine Zag [_] (by kernel_rfl) rfl rfl ?_;simp only [List.getElem_toArray, List.getElem_cons_succ, List.getElem_cons_zero];have HN := zh (Zh6 (l.take j) _ s F W (HTK.o.later Zt hWL));have hbel1 := hbel.trans (Below.mono hWL hsz);clear e0 eW hWL hbW hbr;go_wp2_with fail;refine HN.o.mono ?_;rintro e w1 ⟨rfl, hw1⟩;obtain rfl := hw1.symm
   by_cases hn : Zdy (l.take j) s = true
   ·have hR0 : R = true := by rw [← HR.o, HYES.o hn]
    rw [hn];subst hR0;clear hn HYES HD2 HN;go_wp2_with fail;go_ret;exact ⟨rfl, hbel1⟩
   ·have hn2 : Zdy (l.take j) s = false := by simpa using hn
    have HD3 := zh (HD2.o hn2);rw [hn2];clear hn hn2 HYES HD2 HN;go_wp2_with fail
    go_roundw
    case rel => exact ⟨j + 1, by go_num, by omega, HD3, hbel1⟩
    case measure => simp [intOf]; omega
  ·have t1 : decide ((j : Int) < l.length) = false := nU (by omega);have hR0 : R = false := by rw [← HR.o, Zrc (fun k hk => HD.o k hk (by omega))]
   subst hR0;go_wp2_with fail;go_ret;exact ⟨rfl, hbel⟩
def Zbw (k op : Int) : Int := if k = 11 then Zdn op else if k = 12 ∨ k = 14 ∨ k = 16 ∨ k = 20 ∨ k = 23 ∨ k = 26 ∨ k = 27 then 1 else if k = 13 ∨ k = 15 ∨ k = 18 ∨ k = 19 ∨ k = 22 ∨ k = 25 then 2 else if k = 17 then 3 else 0
def Zcg (k op : Int) : Int := if k = 11 then Zdz op else if k = 12 then 9 else if k = 16 then 24 else if k = 14 ∨ k = 20 ∨ k = 23 ∨ k = 26 ∨ k = 27 then 1 else if k = 13 ∨ k = 15 ∨ k = 18 ∨ k = 19 ∨ k = 22 ∨ k = 25 then 2 else if k = 17 then 3 else 0
structure Wd where
 nS : Nat
 nG : Nat
 nR : Nat
 nC : Nat
def Ze6 (W : Wd) (k a : Int) : Bool :=
 if k = 1 then decide (-999999999999 ≤ a) && decide (a ≤ 999999999999) else if k = 5 then inB a W.nS else if k = 6 then inB a W.nG else if k = 7 then inB a W.nR else if k = 8 then inB a 55 else if k = 9 then inB a W.nC else if k = 10 then (a == 1) || (a == 2) else a == 0
def Zow (W : Wd) (c : Zd) (lp cr : Bool) : Bool :=
 decide (1 ≤ c.kind) && (decide (c.kind ≤ 28) && (decide (0 ≤ c.line) && (decide (Zbw c.kind c.op ≤ c.kids.length) && (decide ((c.kids.length : Int) ≤ Zcg c.kind c.op) && ((decide (c.kind = 11) || c.op == 0) && (Ze6 W c.kind c.aB && (tOk c.kind c.text &&
  ((!(decide (c.kind = 20) || decide (c.kind = 21)) || lp) && ((!(decide (23 ≤ c.kind) && decide (c.kind ≤ 25)) || !cr) && ((!(c.op == 79) || ((c.kid 1).kind == 2 && Zba (c.kid 1).text)) && (!(c.op == 81) || ((c.kid 0).kind == 5 || (c.kid 0).kind == 6))))))))))))
def vC (W : Wd) : Nat → Zd → Bool → Bool → Bool
 | 0, _, _, _ => false
 | n + 1, c, lp, cr => Zow W c lp cr && (List.range c.kids.length).all fun i => vC W n (c.kid i) (Zm c.kind i lp) (cr || decide (c.kind = 26))
def vD (W : Wd) : Nat → Zd → Bool → Bool → Nat → Bool
 | 0, _, _, _, _ => false
 | n + 1, c, lp, cr, d => decide (d ≤ 400) && (Zow W c lp cr && (List.range c.kids.length).all fun i => vD W n (c.kid i) (Zm c.kind i lp) (cr || decide (c.kind = 26)) (d + 1))
theorem Zt9 (W : Wd) : ∀ (n : Nat) (c : Zd) (lp cr : Bool) (d : Nat), vD W n c lp cr d = (vC W n c lp cr && decide (dpC c + d ≤ 401))
 | 0, _, _, _, _ => rfl
 | n + 1, c, lp, cr, d => by
  rw [Bool.eq_iff_iff];simp only [vD, vC, Bool.and_eq_true, nJ, List.all_eq_true, List.mem_range];have hk : ∀ i, i < c.kids.length → (vD W n (c.kid i) (Zm c.kind i lp) (cr || decide (c.kind = 26)) (d + 1) = true ↔ (vC W n (c.kid i) (Zm c.kind i lp) (cr || decide (c.kind = 26)) = true ∧ dpC (c.kid i) + (d + 1) ≤ 401)) := fun i _ => by rw [Zt9 W n, Bool.and_eq_true, nJ]
  rw [Zkc]
  constructor
  ·rintro ⟨h1, h2, h3⟩;have h4 : Ze5 c.kids ≤ 400 - d := (Zj3 _ _).2 fun i hi => by
    have := ((hk i hi).1 (h3 i hi)).2;rw [Za4 hi] at this
    omega
   exact ⟨⟨h2, fun i hi => ((hk i hi).1 (h3 i hi)).1⟩, by omega⟩
  ·rintro ⟨⟨h2, h3⟩, h4⟩;refine ⟨by omega, h2, fun i hi => (hk i hi).2 ⟨h3 i hi, ?_⟩⟩;have := (Zj3 c.kids (400 - d)).1 (by omega) i hi;rw [Za4 hi];have h5 : d ≤ 400 := by omega
   have h6 := Zkc c.kids[i]
   omega
theorem Zrd (k op : Int) : k = 11 ∨ (Zas k : Int) ≤ Zbw k op := by
 by_cases h : k = 11
 ·exact .inl h
 refine .inr ?_;unfold Zas Zbw;rw [if_neg h]
 by_cases h1 : k = 13 ∨ k = 15 ∨ k = 18 ∨ k = 19 ∨ k = 22 ∨ k = 25
 ·rw [if_pos h1, if_neg (by omega), if_pos h1]; exact Int.le_refl _
 rw [if_neg h1]
 by_cases h2 : k = 14 ∨ k = 16 ∨ k = 20 ∨ k = 23 ∨ k = 26 ∨ k = 27
 ·rw [if_pos h2, if_pos (by omega)]; exact Int.le_refl _
 rw [if_neg h2]
 by_cases h3 : k = 17
 ·rw [if_pos h3, if_neg (by omega), if_neg (by omega), if_pos h3]; exact Int.le_refl _
 rw [if_neg h3]
 by_cases h4 : k = 12 ∨ k = 14 ∨ k = 16 ∨ k = 20 ∨ k = 23 ∨ k = 26 ∨ k = 27
 ·rw [if_pos h4]; decide
 ·rw [if_neg h4, if_neg h1, if_neg h3]; decide
theorem vC.ok {W : Wd} : ∀ (n : Nat) (c : Zd) (lp cr : Bool), vC W n c lp cr = true → okC n c lp
 | 0, _, _, _, h => by simp [vC] at h
 | n + 1, c, lp, cr, h => by
  simp only [vC, Bool.and_eq_true, List.all_eq_true, List.mem_range] at h;obtain ⟨h1, h2⟩ := h;unfold Zow at h1;simp only [Bool.and_eq_true, nJ] at h1;obtain ⟨k1, k2, k3, k4, k5, k6, k7, k8, k9, k10⟩ := h1;refine ⟨⟨k1, k2, fun hk => by simpa [hk] using k6⟩, ?_, fun hk => ?_, fun i hi => ?_⟩
  ·rcases Zrd c.kind c.op with h | h
   ·rw [show Zas c.kind = 0 by unfold Zas; rw [h]; rfl]; exact Nat.zero_le _
   ·omega
  ·rcases hk with hk | hk
   ·simpa [hk] using k9
   ·simpa [hk] using k9
  ·have := vC.ok n _ _ _ (h2 i hi)
   rwa [Za4 hi] at this
def Zid (N : Nat) (nG nR nC : Nat) (r : Zaw) : Bool :=
 Zba r.name && (decide (r.slots.length ≤ 24) && (decide (0 ≤ r.params) && (decide (r.params ≤ (r.slots.length : Int)) && (r.slots.all (fun s => s.toList == [] || Zba s) && (decide (dpC r.body ≤ 400) && vC ⟨r.slots.length, nG, nR, nC⟩ N r.body false false)))))
def Zeu (r : Zam) : Bool := Zba r.name && (decide (r.fields.length ≤ 6) && (r.fields.all Zba && (!twB r.fields && decide (0 ≤ r.line))))
def Zpd (p : Zu) : Bool := decide (0 ≤ p.main) && (decide (p.main < (p.routines.length : Int)) && ((p.routines.map (·.params)).getD p.main.toNat 1 == 0))
def Zb4 : List Zaw → Nat
 | [] => 0
 | r :: l => Z0 r.body + Zb4 l
def Zhg (N : Nat) (p : Zu) : Bool :=
 decide (1 ≤ p.routines.length) && (decide (p.routines.length ≤ 12) && (decide (p.globals.length ≤ 12) && (decide (p.aA.length ≤ 8) && (p.aA.all Zeu && (p.globals.all Zba && (Zpd p && (p.routines.all (Zid N p.globals.length p.routines.length p.aA.length) && decide (Zb4 p.routines ≤ 40000))))))))
/-! ### The whole -/
def Za5 (rc : Cg) : List Zaw → Nat → List Zar × List Ze
 | [], _ => ([], [])
 | r :: l, b => (⟨r.name, r.params, r.slots.length, b⟩ :: (Za5 rc l (b + Zaq rc r.body 0 none b + 1)).1, (bnd rc r.body 0 none b ((b + Zaq rc r.body 0 none b : Nat) : Int) ++ Zg 25 0 r.body.line :: (Za5 rc l (b + Zaq rc r.body 0 none b + 1)).2))
def cdZ : Zfi := ⟨[], [], [], 0, []⟩
def Zfz (N : Nat) (p : Zu) : Zfi × Bool :=
 if Zhg N p = true then (if 60000 < (Za5 (cg N) p.routines 0).2.length then (cdZ, false) else (⟨(Za5 (cg N) p.routines 0).1, p.aA, p.globals, p.main, (Za5 (cg N) p.routines 0).2⟩, true)) else (cdZ, false)
def Zb1 (rc : Cg) : List Zd → Nat → Option Zr → Nat → List Ze × List Nat
 | [], _, _, _ => ([], [])
 | c :: l, m, lp, b => (bnd rc c m lp b ((b + Zaq rc c m lp b : Nat) : Int) ++ (Zb1 rc l m lp (b + Zaq rc c m lp b)).1, (rc c (m + 1) lp (b + 1)).2 ++ (Zb1 rc l m lp (b + Zaq rc c m lp b)).2)
theorem Zev (rc : Cg) (c : Zd) (m : Nat) (lp : Option Zr) (b : Nat) (a : Int) : (bnd rc c m lp b a).length = Zaq rc c m lp b := by
 simp [bnd, Zaq]
theorem Zhw (rc : Cg) (c : Zd) (m : Nat) (lp : Option Zr) : ∀ (l : List Zd) (b : Nat), Zbt rc (l ++ [c]) m lp b = ((Zb1 rc l m lp b).1 ++ (rc c m lp (b + (Zb1 rc l m lp b).1.length)).1, (Zb1 rc l m lp b).2 ++ (rc c m lp (b + (Zb1 rc l m lp b).1.length)).2)
 | [], b => by simp [Zbt, Zb1]
 | d :: l, b => by
  obtain ⟨x, xs, hx⟩ : ∃ x xs, l ++ [c] = x :: xs := by cases l <;> simp
  rw [List.cons_append, hx, Zbt, ← hx, Zhw rc c m lp l]
  ·simp [Zb1, Zev, Nat.add_assoc]
  ·simp
theorem Zf0 (rc : Cg) (c : Zd) (m : Nat) (lp : Option Zr) : ∀ (l : List Zd) (b : Nat), Zb1 rc (l ++ [c]) m lp b = ((Zb1 rc l m lp b).1 ++ bnd rc c m lp (b + (Zb1 rc l m lp b).1.length) ((b + (Zb1 rc l m lp b).1.length + Zaq rc c m lp (b + (Zb1 rc l m lp b).1.length) : Nat) : Int), (Zb1 rc l m lp b).2 ++ (rc c (m + 1) lp (b + (Zb1 rc l m lp b).1.length + 1)).2)
 | [], b => by simp [Zb1]
 | d :: l, b => by
  simp only [List.cons_append, Zb1];rw [Zf0 rc c m lp l];simp [Nat.add_assoc, Zev]
theorem Zkp {rc : Cg} {m : Nat} {lp : Option Zr} : ∀ (l : List Zd) (b : Nat), (∀ x ∈ l, ∀ b, (rc x (m + 1) lp b).2.length ≤ Z0 x) → (Zb1 rc l m lp b).2.length ≤ Zx l
 | [], b, _ => by simp [Zb1]
 | x :: l, b, hx => by
  have h1 := hx x (by simp) (b + 1);have h2 := Zkp l (b + Zaq rc x m lp b) (fun y hy => hx y (by simp [hy]));simp only [Zb1, List.length_append, Zx]
  omega
section
abbrev TSt : TypeId := 65
abbrev TSl : TypeId := 209
structure Zak where
 every : Bool
 start : Int
 outs : List Int
def Ztr : Za6 Zak := fun F w r cs => ∃ v, cs = [.bool r.every, .int .i64 r.start, v] ∧ Zi r.start ∧ Z5 Zc1 1 F w r.outs v
def Zie : Za6 Zak := fun F w r cs => ∃ v, cs = [.bool r.every, .int .i64 r.start, v] ∧ Zi r.start ∧ Zah Zc1 1 Zco F w r.outs v
theorem Zcb : Zc2 Zie Ztr 3 where
 is := {
  len := fun ⟨_, e, _⟩ => by rw [e]; rfl
  keep := fun ⟨v, e, h0, h1⟩ hFG hk => ⟨v, e, h0, h1.keep Zap.is hFG hk⟩ }
 el := fun ⟨v, e, h0, h1⟩ => ⟨v, e, h0, h1.el Zap⟩
 trim := fun ⟨v, e, h0, h1⟩ => ⟨v, e, h0, h1.trim Zap⟩
section
variable {α : Type} {S El : Za6 α} {size : Nat} {T : TypeId} {F H : Nat → Prop} {w y : World} {l : List α} {v : Value}
theorem Zah.cut (h : Zah S size T F w l v) {n : Nat} (hn : n ≤ l.length) : ∃ A c, v = .slice A l.length c ∧ l.length ≤ c ∧ Zah S size T F w (l.take n) (.slice A n c) := by
 obtain ⟨A, c, rfl, h1, h2, h3⟩ := h;refine ⟨A, c, rfl, h1, A, c, by rw [List.length_take, Nat.min_eq_left hn], by rw [List.length_take, Nat.min_eq_left hn]; omega, h2, fun hp => ?_⟩;obtain ⟨b, o, cur, tag, e, hF, hb, hcp, hel⟩ := h3 hp;refine ⟨b, o, cur, tag, e, hF, hb, hcp, fun i hi => ?_⟩;rw [List.length_take] at hi;obtain ⟨cs, h4, h5⟩ := hel i (by omega);exact ⟨cs, by rw [List.getElem_take]; exact h4, h5⟩
theorem Zah.renew (hE : Zb2 S size) (h : Zah S size T F w l v) (hlt : ∀ b, F b → b < w.heap.size) {i q : Nat} (hi : i < l.length) (hq : q < size) :
  ∃ (b c : Nat) (Fi : Nat → Prop) (cs : List Value), v = .slice (some ⟨b, 0, none⟩) l.length c ∧ l.length ≤ c ∧ c ≤ maxLen ∧ F b ∧ b < w.heap.size ∧ (∀ j x, cs[j]? = some x → w.cell? ⟨b, i * size + j, none⟩ = some x) ∧ (∀ o, w.frozen? ⟨b, o, none⟩ = false) ∧ S Fi w l[i] cs ∧ (∀ z, Fi z → F z ∧ z ≠ b) ∧
   ∀ (y : World) (H : Nat → Prop) (a : α) (u : Value), (∀ z, H z → w.heap.size ≤ z) → Zb (fun z => F z ∧ ¬ Fi z) w y → (∀ x, Zb (fun z => Fi z ∨ H z) y x → S (fun z => Fi z ∨ H z) x a (cs.set q u)) → Zah S size T (fun z => F z ∨ H z) (y.setCell ⟨b, i * size + q, none⟩ u) (l.set i a) v := by
 obtain ⟨A, c, rfl, h1, h2, h3⟩ := h;obtain ⟨b, o, cur, tag, rfl, hF, hb, ⟨rfl, hcp⟩, hel⟩ := h3 (by omega);obtain ⟨cs, hs, hc⟩ := hel i hi;have hlen := hE.len hs;have hbw := Zc hb;have hroom : i * size + size ≤ cur.size := by
  have : (i + 1) * size ≤ c * size := Nat.mul_le_mul_right _ (by omega);rw [Nat.add_mul, Nat.one_mul] at this
  omega
 refine ⟨b, c, _, cs, rfl, h1, h2, hF, hbw, fun j x hx => ?_, fun o => frozen_of_row _ _ _ _ _ hb, hs, fun z hz => hz.1, fun y H a u hH hk ha => ?_⟩
 ·rw [cell_of_row _ _ _ _ _ _ hb];have := hc j x hx
  rwa [Nat.zero_add] at this
 ·have hyb : y.heap[b]? = some (.cells cur T (0, 0)) := (hk.same b ⟨hF, fun h => h.1.2 rfl⟩ hbw).trans hb;have hnH : ¬ H b := fun e => by have := hH b e; omega
  have ht : ∀ z, F z → z ≠ b → (if w.heap.size ≤ z then i else tag z) = tag z := fun z hz _ => by rw [if_neg (by have := hlt z hz; omega)]
  refine ⟨_, c, by rw [List.length_set], by simpa using h1, h2, fun _ => ⟨b, 0, cur.setIfInBounds (i * size + q) u, fun z => if w.heap.size ≤ z then i else tag z, rfl, .inl hF, Za1 hyb u, ⟨rfl, by simpa using hcp⟩, fun p hp => ?_⟩⟩;simp only [List.length_set] at hp
  by_cases e : i = p
  ·subst e;rw [List.getElem_set_self];refine ⟨cs.set q u, hE.keep (ha _ ((Zb.refl (fun z => ((F z ∧ z ≠ b) ∧ tag z = i) ∨ H z) y).set (fun e => e.elim (fun e => e.1.2 rfl) hnH) _ _)) (fun z hz => ?_) (Zb.refl _ _), fun j x hj => ?_⟩
   ·rcases hz with hz | hz
    ·exact ⟨⟨.inl hz.1.1, hz.1.2⟩, by show (if w.heap.size ≤ z then i else tag z) = i; rw [ht z hz.1.1 hz.1.2]; exact hz.2⟩
    ·exact ⟨⟨.inr hz, fun e => hnH (e ▸ hz)⟩, if_pos (hH z hz)⟩
   ·rw [Nat.zero_add]
    by_cases ej : q = j
    ·subst ej;rw [Array.getElem?_setIfInBounds_self_of_lt (by omega)]
     simpa [hlen, hq] using hj
    ·rw [Array.getElem?_setIfInBounds_ne (by omega)];have := hc j x (by simpa [List.getElem?_set_ne ej] using hj)
     rwa [Nat.zero_add] at this
  ·rw [List.getElem_set_ne e];obtain ⟨cs0, h7, h8⟩ := hel p hp;refine ⟨cs0, hE.keep (G := fun z => (((F z ∨ H z) ∧ z ≠ b) ∧ (if w.heap.size ≤ z then i else tag z) = p)) h7 (fun z hz => ⟨⟨.inl hz.1.1, hz.1.2⟩, by rw [ht z hz.1.1 hz.1.2]; exact hz.2⟩) ((hk.mono fun z hz => ⟨hz.1.1, fun h => e (h.2.symm.trans hz.2)⟩).trans ((Zb.refl _ _).set (fun h => h.1.2 rfl) _ _)), fun j x hj => ?_⟩;have hjs : j < size := by have := hE.len h7; have := (List.getElem?_eq_some_iff.1 hj).1; omega
   rw [Nat.zero_add, Array.getElem?_setIfInBounds_ne (by
    rcases Nat.lt_or_gt_of_ne e with h | h
    ·have : (i + 1) * size ≤ p * size := Nat.mul_le_mul_right _ h;rw [Nat.add_mul, Nat.one_mul] at this
     omega
    ·have : (p + 1) * size ≤ i * size := Nat.mul_le_mul_right _ h;rw [Nat.add_mul, Nat.one_mul] at this
     omega)]
   have := h8 j x hj
   rwa [Nat.zero_add] at this
end
structure SpK (w : World) (MB : Nat) (Gc Gl Gb : Nat → Prop) (L : List Ze) (ls : List Zak) (m : Nat) (bs : List Int) (cv lv bv : Value) : Prop where
 blk : w.heap[MB]? = some (.cells #[cv, lv, .int .i64 m, bv] TSt (0, 0))
 code : Zah Zbi 5 Zhs Gc w L cv
 loops : Zah Zie 3 TSl Gl w ls lv
 base : Zah Zc1 1 Zco Gb w bs bv
 dC : ∀ b, Gc b → ¬ Gl b ∧ ¬ Gb b
 dL : ∀ b, Gl b → ¬ Gb b
 nM : ¬ Gc MB ∧ ¬ Gl MB ∧ ¬ Gb MB
 lt : ∀ b, Gc b ∨ Gl b ∨ Gb b → b < w.heap.size
section
variable {w x X y : World} {MB : Nat} {Gc Gl Gb H : Nat → Prop} {L : List Ze} {ls : List Zak} {m : Nat} {bs : List Int} {cv lv bv v2 : Value}
theorem SpK.keep (h : SpK w MB Gc Gl Gb L ls m bs cv lv bv) (hk : Zb (fun b => b = MB ∨ Gc b ∨ Gl b ∨ Gb b) w x) : SpK x MB Gc Gl Gb L ls m bs cv lv bv :=
 ⟨(hk.same MB (.inl rfl) (Zc h.blk)).trans h.blk, h.code.keep Z9.is (fun _ h => h) (hk.mono fun b hb => .inr (.inl hb)), h.loops.keep Zcb.is (fun _ h => h) (hk.mono fun b hb => .inr (.inr (.inl hb))), h.base.keep Zap.is (fun _ h => h) (hk.mono fun b hb => .inr (.inr (.inr hb))), h.dC, h.dL, h.nM, fun b hb => Nat.lt_of_lt_of_le (h.lt b hb) hk.size⟩
theorem SpK.later (h : SpK w MB Gc Gl Gb L ls m bs cv lv bv) (hl : Za w x) : SpK x MB Gc Gl Gb L ls m bs cv lv bv := h.keep (Zb.later hl)
theorem SpK.setM (h : SpK w MB Gc Gl Gb L ls m bs cv lv bv) (k : Nat) : SpK (w.setCell ⟨MB, 2, none⟩ (.int .i64 k)) MB Gc Gl Gb L ls k bs cv lv bv :=
 ⟨by have := Za1 (o := 2) h.blk (.int .i64 k); simpa using this, h.code.keep Z9.is (fun _ h => h) ((Zb.refl _ _).set h.nM.1 _ _), h.loops.keep Zcb.is (fun _ h => h) ((Zb.refl _ _).set h.nM.2.1 _ _), h.base.keep Zap.is (fun _ h => h) ((Zb.refl _ _).set h.nM.2.2 _ _), h.dC, h.dL, h.nM, fun b hb => by simpa using h.lt b hb⟩
theorem SpK.push (h : SpK w MB Gc Gl Gb L ls m bs cv lv bv) {a : Ze} (hX : Za w X) (hH : ∀ b, H b → w.heap.size ≤ b) (hrow : Zah Zbi 5 Zhs (fun b => Gc b ∨ H b ∨ b = X.heap.size) y (L ++ [a]) v2) (hk : Zb (fun b => ¬ Gc b) X y) :
  SpK (y.setCell ⟨MB, 0, none⟩ v2) MB (fun b => (Gc b ∨ H b ∨ b = X.heap.size) ∧ b < y.heap.size) Gl Gb (L ++ [a]) ls m bs v2 lv bv := by
 have hlt := Zc h.blk;have hs := hX.size;have hys := hk.size;have hn : ¬ (Gc MB ∨ H MB ∨ MB = X.heap.size) := by
  rintro (e | e | e)
  ·exact h.nM.1 e
  ·have := hH MB e; omega
  ·omega
 have hb : y.heap[MB]? = some (.cells #[cv, lv, .int .i64 m, bv] TSt (0, 0)) := (hk.same MB h.nM.1 (by omega)).trans ((hX.block MB hlt).trans h.blk);have hkl : Zb (fun b => Gl b ∨ Gb b) w (y.setCell ⟨MB, 0, none⟩ v2) := ((Zb.later hX).trans (hk.mono fun b hb hc => by
  rcases hb with hb | hb
  ·exact (h.dC b hc).1 hb
  ·exact (h.dC b hc).2 hb)).set (fun e => e.elim h.nM.2.1 h.nM.2.2) _ _
 have hnew : ∀ b, (Gc b ∨ H b ∨ b = X.heap.size) ∧ b < y.heap.size → ¬ Gl b ∧ ¬ Gb b := fun b hb => by
  rcases hb.1 with e | e | e
  ·exact h.dC b e
  ·exact ⟨fun hg => by have := hH b e; have := h.lt b (.inr (.inl hg)); omega, fun hg => by have := hH b e; have := h.lt b (.inr (.inr hg)); omega⟩
  ·exact ⟨fun hg => by have := h.lt b (.inr (.inl hg)); omega, fun hg => by have := h.lt b (.inr (.inr hg)); omega⟩
 refine ⟨by have := Za1 (o := 0) hb v2; simpa using this, (hrow.trim Z9).keep Z9.is (fun _ h => h) ((Zb.refl _ _).set (fun h => hn h.1) _ _), h.loops.keep Zcb.is (fun _ h => h) (hkl.mono fun _ h => .inl h), h.base.keep Zap.is (fun _ h => h) (hkl.mono fun _ h => .inr h), hnew, h.dL, ⟨fun h => hn h.1, h.nM.2⟩, fun b hb => ?_⟩;simp only [World.size_setCell]
 rcases hb with hb | hb | hb
 ·exact hb.2
 ·have := h.lt b (.inr (.inl hb)); omega
 ·have := h.lt b (.inr (.inr hb)); omega
end
end
theorem Zif : ∀ (n : Nat) (c : Zd) (m : Nat) (lp : Option Zr) (b : Nat), (∀ x, lp = some x → x.marks ≤ m) → okC n c lp.isSome → (cg n c m lp b).1.length ≤ Z0 c * (m + 4 * dpC c + 10)
 | 0, c, m, lp, b, _, h => h.elim
 | n + 1, c, m, lp, b, hm, h => by
  have hk := h.1;have hn := h.2.1;have hlp := h.2.2.1;have IH := fun (i : Nat) (hi : i < Zas c.kind) (m' : Nat) (lp' : Option Zr) (b' : Nat) (h1 : ∀ x, lp' = some x → x.marks ≤ m') (h2 : lp'.isSome = Zm c.kind i lp.isSome) (h3 : m' ≤ m + 2) => up (M := m + 4 * dpC c + 8) (Zif n (c.kid i) m' lp' b' h1 (by rw [h2]; exact h.kid hi)) (by have := Zdm (c := c) (i := i) (by omega); rw [← Za4 (by omega)] at this; omega);have hup : ∀ {x}, x * (m + 4 * dpC c + 8) + 2 * x ≤ x * (m + 4 * dpC c + 10) := fun {x} => by
   have e := Nat.mul_add x (m + 4 * dpC c + 8) 2;rw [show m + 4 * dpC c + 10 = m + 4 * dpC c + 8 + 2 by omega, e]; omega
  have hm1 : ∀ x, lp = some x → x.marks ≤ m + 1 := fun x hx => Nat.le_trans (hm x hx) (by omega);have hc := Zq c;have hd1 := Zkc c;have hc1 : Z0 c * (m + 4 * dpC c + 10) = Zx c.kids * (m + 4 * dpC c + 10) + (m + 4 * dpC c + 10) := by rw [hc, Nat.add_mul, Nat.one_mul]
  have hs := @hup (Zx c.kids);rw [hc1];show (Zk (cg n) c m lp b).1.length ≤ _
  by_cases ho : c.kind = 28
  ·rw [Zfj ho];simp; omega
  by_cases ho : c.kind = 11 ∨ c.kind = 12
  ·rw [Zbc ho];have h1 := Zes (rc := cg n) (m := m) (lp := lp) (M := m + 4 * dpC c + 8) c.kids b (fun x hx b' => by
    obtain ⟨i, hi, rfl⟩ := List.getElem_of_mem hx;have h2 := h.2.2.2 i hi;unfold Zm at h2;rw [if_neg (by omega), if_neg (by omega)] at h2;exact up (Zif n _ m lp b' hm h2) (by have := Zdm hi; omega))
   simp only [List.length_append, List.length_cons, List.length_nil]
   omega
  by_cases ho : c.kind = 13
  ·rw [Zfk ho];have e0 := IH 0 (by simp [Zas, ho]) m lp (b + 1) hm (by simp [Zm, ho]) (by omega);have e1 := IH 1 (by simp [Zas, ho]) m lp (b + 1 + (cg n (c.kid 0) m lp (b + 1)).1.length + 1) hm (by simp [Zm, ho]) (by omega);have e2 := Zh2 (M := m + 4 * dpC c + 8) (Ze3 (c := c) (by simpa [Zas, ho] using hn));simp only [List.length_append, List.length_cons, List.length_nil]
   omega
  by_cases ho : c.kind = 14
  ·rw [Zfl ho];have e0 := IH 0 (by simp [Zas, ho]) (m + 1) lp (b + 2) hm1 (by simp [Zm, ho]) (by omega);have e2 := Zj8 (M := m + 4 * dpC c + 8) (Zfw (c := c) (by simpa [Zas, ho] using hn));simp only [List.length_append, List.length_cons, List.length_nil]
   omega
  by_cases ho : c.kind = 15
  ·rw [Zfm ho];have e1 := IH 1 (by simp [Zas, ho]) m lp b hm (by simp [Zm, ho]) (by omega);have e0 := IH 0 (by simp [Zas, ho]) (m + 1) lp (b + (cg n (c.kid 1) m lp b).1.length + 1) hm1 (by simp [Zm, ho]) (by omega);have e2 := Zh2 (M := m + 4 * dpC c + 8) (Ze3 (c := c) (by simpa [Zas, ho] using hn));simp only [List.length_append, List.length_cons, List.length_nil]
   omega
  by_cases ho : c.kind = 16
  ·rw [Zfn ho];refine Nat.le_trans (Zja (rc := cg n) (m := m) (lp := lp) (M := m + 4 * dpC c + 10) c.kids b (fun x hx b' => ?_)) (by omega);obtain ⟨i, hi, rfl⟩ := List.getElem_of_mem hx;have h2 := h.2.2.2 i hi;unfold Zm at h2;rw [if_neg (by omega), if_neg (by omega)] at h2;have h3 := up (M := m + 4 * dpC c + 8) (Zif n _ m lp b' hm h2) (by have := Zdm hi; omega);have h4 := up (M := m + 4 * dpC c + 8) (Zif n _ (m + 1) lp b' hm1 h2) (by have := Zdm hi; omega);have h5 := @hup (Z0 c.kids[i]);have h6 := Ztk c.kids[i]
   omega
  by_cases ho : c.kind = 17
  ·rw [Zfo ho];have e0 := IH 0 (by simp [Zas, ho]) (m + 1) lp (b + 1) hm1 (by simp [Zm, ho]) (by omega);have e1 := IH 1 (by simp [Zas, ho]) m lp (b + (cg n (c.kid 0) (m + 1) lp (b + 1)).1.length + 2) hm (by simp [Zm, ho]) (by omega);have e2 := IH 2 (by simp [Zas, ho]) m lp (b + (cg n (c.kid 0) (m + 1) lp (b + 1)).1.length + 2 + (cg n (c.kid 1) m lp (b + (cg n (c.kid 0) (m + 1) lp (b + 1)).1.length + 2)).1.length + 1) hm (by simp [Zm, ho]) (by omega);have e3 := Zu9 (M := m + 4 * dpC c + 8) (Ztj (c := c) (by simpa [Zas, ho] using hn));simp only [bnd, List.length_append, List.length_cons, List.length_nil]
   omega
  by_cases ho : c.kind = 18
  ·rw [Zem ho];have e0 := IH 0 (by simp [Zas, ho]) (m + 1) none (b + 1 + 1) (by simp) (by simp [Zm, ho]) (by omega);have e1 := IH 1 (by simp [Zas, ho]) (m + 1) (some ⟨false, m, b⟩) (b + 1 + Zaq (cg n) (c.kid 0) m none (b + 1) + 1) (by intro x hx; cases hx; show m ≤ m + 1; omega) (by simp [Zm, ho]) (by omega);have e3 := Zh2 (M := m + 4 * dpC c + 8) (Ze3 (c := c) (by simpa [Zas, ho] using hn));simp only [Zbo, bnd, List.length_append, List.length_cons, List.length_nil]
   omega
  by_cases ho : c.kind = 19
  ·rw [Zfp ho];have e0 := IH 0 (by simp [Zas, ho]) (m + 1) none (b + 1) (by simp) (by simp [Zm, ho]) (by omega);have e1 := IH 1 (by simp [Zas, ho]) (m + 1 + 1) (some ⟨true, m, 0⟩) (b + 1 + (cg n (c.kid 0) (m + 1) none (b + 1)).1.length + 1 + 1) (by intro x hx; cases hx; show m ≤ m + 1 + 1; omega) (by simp [Zm, ho]) (by omega);have e3 := Zh2 (M := m + 4 * dpC c + 8) (Ze3 (c := c) (by simpa [Zas, ho] using hn));simp only [Zbo, bnd, List.length_append, List.length_cons, List.length_nil]
   omega
  by_cases ho : c.kind = 20
  ·rw [Zen ho]
   split
   ·simp
   ·rename_i x;have hx := hm x rfl;have e0 := IH 0 (by simp [Zas, ho]) x.marks none (b + (m - x.marks)) (by simp) (by simp [Zm, ho]) (by omega);have e2 := Zj8 (M := m + 4 * dpC c + 8) (Zfw (c := c) (by simpa [Zas, ho] using hn));simp only [Zgf, List.length_append, List.length_cons, List.length_nil]
    omega
  by_cases ho : c.kind = 21
  ·rw [Zdv ho]
   split
   ·simp
   ·split
    ·simp only [Zgf, List.length_append, List.length_cons, List.length_nil]; omega
    ·simp only [Zgf, List.length_append, List.length_cons, List.length_nil]; omega
  by_cases ho : c.kind = 22
  ·rw [Zfq ho];have e0 := IH 0 (by simp [Zas, ho]) m lp b hm (by simp [Zm, ho]) (by omega);have e1 := IH 1 (by simp [Zas, ho]) m lp (b + (cg n (c.kid 0) m lp b).1.length + 1) hm (by simp [Zm, ho]) (by omega);have e3 := Zh2 (M := m + 4 * dpC c + 8) (Ze3 (c := c) (by simpa [Zas, ho] using hn));simp only [List.length_append, List.length_cons, List.length_nil]
   omega
  by_cases ho : c.kind = 23
  ·rw [Zfr ho];have e0 := IH 0 (by simp [Zas, ho]) (m + 1) lp (b + 1) hm1 (by simp [Zm, ho]) (by omega);have e2 := Zj8 (M := m + 4 * dpC c + 8) (Zfw (c := c) (by simpa [Zas, ho] using hn));simp only [List.length_append, List.length_cons, List.length_nil]
   omega
  by_cases ho : c.kind = 24
  ·rw [Zfs ho];simp; omega
  by_cases ho : c.kind = 25
  ·rw [Zft ho];have e0 := IH 0 (by simp [Zas, ho]) m lp b hm (by simp [Zm, ho]) (by omega);have e1 := IH 1 (by simp [Zas, ho]) (m + 1) lp (b + (cg n (c.kid 0) m lp b).1.length + 1 + 1) hm1 (by simp [Zm, ho]) (by omega);have e3 := Zh2 (M := m + 4 * dpC c + 8) (Ze3 (c := c) (by simpa [Zas, ho] using hn));simp only [bnd, List.length_append, List.length_cons, List.length_nil]
   omega
  by_cases ho : c.kind = 26
  ·rw [Zfu ho];have e0 := IH 0 (by simp [Zas, ho]) 0 none (b + 2) (by simp) (by simp [Zm, ho]) (by omega);have e2 := Zj8 (M := m + 4 * dpC c + 8) (Zfw (c := c) (by simpa [Zas, ho] using hn));simp only [List.length_append, List.length_cons, List.length_nil]
   omega
  by_cases ho : c.kind = 27
  ·rw [Zfv ho];have e0 := IH 0 (by simp [Zas, ho]) m lp b hm (by simp [Zm, ho]) (by omega);have e2 := Zj8 (M := m + 4 * dpC c + 8) (Zfw (c := c) (by simpa [Zas, ho] using hn));simp only [List.length_append, List.length_cons, List.length_nil]
   omega
  rw [Zcn (by omega)];simp; omega
section
def stL : Option Zr → List Zak → List Nat → List Zak
 | none, ls, _ => ls
 | some x, ls, ex => ls ++ [⟨x.every, x.begin_, ex.map Int.ofNat⟩]
def stB : Option Zr → List Int → List Int
 | none, bs => bs
 | some x, bs => bs ++ [(x.marks : Int)]
section
variable {w x y X : World} {MB : Nat} {Gc Gl Gb Gc' Gl' Gb' H : Nat → Prop} {L L' : List Ze} {ls ls' : List Zak} {m : Nat} {bs bs' : List Int} {cv lv bv cv' lv' bv' v2 : Value}
theorem SpK.code' (h : SpK w MB Gc Gl Gb L ls m bs cv lv bv) (hk : Zb (fun b => Gl b ∨ Gb b) w x) (hb : x.heap[MB]? = some (.cells #[cv', lv, .int .i64 m, bv] TSt (0, 0))) (row : Zah Zbi 5 Zhs Gc' x L' cv') (hG : ∀ b, Gc' b → Gc b ∨ w.heap.size ≤ b) (hlt : ∀ b, Gc' b → b < x.heap.size) : SpK x MB Gc' Gl Gb L' ls m bs cv' lv bv := by
 have hm := Zc h.blk;have hs := hk.size;exact ⟨hb, row, h.loops.keep Zcb.is (fun _ h => h) (hk.mono fun _ h => .inl h), h.base.keep Zap.is (fun _ h => h) (hk.mono fun _ h => .inr h),
  fun b hb => by
   rcases hG b hb with h1 | h1
   ·exact h.dC b h1
   ·exact ⟨fun hg => by have := h.lt b (.inr (.inl hg)); omega, fun hg => by have := h.lt b (.inr (.inr hg)); omega⟩,
  h.dL, ⟨fun hg => by
   rcases hG MB hg with h1 | h1
   ·exact h.nM.1 h1
   ·omega, h.nM.2⟩, fun b hb => by
   rcases hb with hb | hb
   ·exact hlt b hb
   ·have := h.lt b (.inr hb); omega⟩
theorem SpK.loops' (h : SpK w MB Gc Gl Gb L ls m bs cv lv bv) (hk : Zb (fun b => Gc b ∨ Gb b) w x) (hb : x.heap[MB]? = some (.cells #[cv, lv', .int .i64 m, bv] TSt (0, 0))) (row : Zah Zie 3 TSl Gl' x ls' lv') (hG : ∀ b, Gl' b → Gl b ∨ w.heap.size ≤ b) (hlt : ∀ b, Gl' b → b < x.heap.size) : SpK x MB Gc Gl' Gb L ls' m bs cv lv' bv := by
 have hm := Zc h.blk;have hs := hk.size;exact ⟨hb, h.code.keep Z9.is (fun _ h => h) (hk.mono fun _ h => .inl h), row, h.base.keep Zap.is (fun _ h => h) (hk.mono fun _ h => .inr h),
  fun b hb => ⟨fun hg => by
   rcases hG b hg with h1 | h1
   ·exact (h.dC b hb).1 h1
   ·have := h.lt b (.inl hb); omega, (h.dC b hb).2⟩,
  fun b hg hb => by
   rcases hG b hg with h1 | h1
   ·exact h.dL b h1 hb
   ·have := h.lt b (.inr (.inr hb)); omega, ⟨h.nM.1, fun hg => by
   rcases hG MB hg with h1 | h1
   ·exact h.nM.2.1 h1
   ·omega, h.nM.2.2⟩, fun b hb => by
   rcases hb with hb | hb | hb
   ·have := h.lt b (.inl hb); omega
   ·exact hlt b hb
   ·have := h.lt b (.inr (.inr hb)); omega⟩
theorem SpK.base' (h : SpK w MB Gc Gl Gb L ls m bs cv lv bv) (hk : Zb (fun b => Gc b ∨ Gl b) w x) (hb : x.heap[MB]? = some (.cells #[cv, lv, .int .i64 m, bv'] TSt (0, 0))) (row : Zah Zc1 1 Zco Gb' x bs' bv') (hG : ∀ b, Gb' b → Gb b ∨ w.heap.size ≤ b) (hlt : ∀ b, Gb' b → b < x.heap.size) : SpK x MB Gc Gl Gb' L ls m bs' cv lv bv' := by
 have hm := Zc h.blk;have hs := hk.size;exact ⟨hb, h.code.keep Z9.is (fun _ h => h) (hk.mono fun _ h => .inl h), h.loops.keep Zcb.is (fun _ h => h) (hk.mono fun _ h => .inr h), row,
  fun b hb => ⟨(h.dC b hb).1, fun hg => by
   rcases hG b hg with h1 | h1
   ·exact (h.dC b hb).2 h1
   ·have := h.lt b (.inl hb); omega⟩,
  fun b hb hg => by
   rcases hG b hg with h1 | h1
   ·exact h.dL b hb h1
   ·have := h.lt b (.inr (.inl hb)); omega, ⟨h.nM.1, h.nM.2.1, fun hg => by
   rcases hG MB hg with h1 | h1
   ·exact h.nM.2.2 h1
   ·omega⟩, fun b hb => by
   rcases hb with hb | hb | hb
   ·have := h.lt b (.inl hb); omega
   ·have := h.lt b (.inr (.inl hb)); omega
   ·exact hlt b hb⟩
end
structure SS (w0 w : World) (MB : Nat) (G0 G : Nat → Prop) (L : List Ze) (ls : List Zak) (m : Nat) (bs : List Int) : Prop where
 st : ∃ Gc Gl Gb cv lv bv, SpK w MB Gc Gl Gb L ls m bs cv lv bv ∧ ∀ b, Gc b ∨ Gl b ∨ Gb b → G b
 tn : Tn (fun b => b = MB ∨ G0 b) w0 w
 gG : ∀ b, G b → G0 b ∨ w0.heap.size ≤ b
 lt : ∀ b, G b → b < w.heap.size
section
variable {w0 w x : World} {MB : Nat} {G0 G G' : Nat → Prop} {L L' : List Ze} {ls ls' : List Zak} {m m' : Nat} {bs bs' : List Int}
theorem SS.here (h : SS w0 w MB G0 G L ls m bs) : SS w w MB G G L ls m bs := ⟨h.st, Tn.refl _ _, fun _ h => .inl h, h.lt⟩
theorem SS.trans (h : SS w0 w MB G0 G L ls m bs) (k : SS w x MB G G' L' ls' m' bs') : SS w0 x MB G0 G' L' ls' m' bs' := by
 have hs := h.tn.size;refine ⟨k.st, Tn.trans h.tn k.tn (fun _ h => h) (fun b hl hb => ?_), fun b hb => ?_, k.lt⟩
 ·rcases hb with hb | hb
  ·exact .inl hb
  ·rcases h.gG b hb with h1 | h1
   ·exact .inr h1
   ·omega
 ·rcases k.gG b hb with h1 | h1
  ·exact h.gG b h1
  ·exact .inr (by omega)
theorem SS.later (h : SS w0 w MB G0 G L ls m bs) (hl : Za w x) : SS w0 x MB G0 G L ls m bs := by
 obtain ⟨Gc, Gl, Gb, cv, lv, bv, hs, hG⟩ := h.st;exact h.trans ⟨⟨Gc, Gl, Gb, cv, lv, bv, hs.later hl, hG⟩, Tn.later hl, fun _ h => .inl h, fun b hb => Nat.lt_of_lt_of_le (h.lt b hb) hl.size⟩
theorem SS.cast (h : SS w0 w MB G0 G L ls m bs) (hL : L = L') (hls : ls = ls') : SS w0 w MB G0 G L' ls' m bs := by subst hL hls; exact h
theorem SS.keeps (h : SS w0 w MB G0 G L ls m bs) {F : Nat → Prop} (hF : ∀ b, F b → b ≠ MB ∧ ¬ G0 b) : Zb F w0 w :=
 h.tn.keeps fun b hb hp => by
  obtain ⟨h1, h2⟩ := hF b hb
  rcases hp with hp | hp
  ·exact h1 hp
  ·exact h2 hp
theorem SS.keeps' (h : SS w0 w MB G0 G L ls m bs) {v : World} (hl : Za v w0) {F : Nat → Prop} (hF : ∀ b, F b → b ≠ MB ∧ ¬ G0 b) : Zb F v w := (Zb.later hl).trans (h.keeps hF)
theorem SS.off (h : SS w0 w MB G0 G L ls m bs) {v : World} (hl : Za v w0) {F : Nat → Prop} (hF : ∀ b, F b → b ≠ MB ∧ ¬ G0 b) (hlt : ∀ b, F b → b < v.heap.size) : ∀ b, F b → b ≠ MB ∧ ¬ G b := fun b hb => ⟨(hF b hb).1, fun hg => by
 have hs := hl.size
 rcases h.gG b hg with h1 | h1
 ·exact (hF b hb).2 h1
 ·have := hlt b hb; omega⟩
theorem SS.below (h : SS w0 w MB G0 G L ls m bs) : MB < w.heap.size := by
 obtain ⟨Gc, Gl, Gb, cv, lv, bv, hs, -⟩ := h.st;exact Zc hs.blk
theorem SS.of {Gc Gl Gb Gc' Gl' Gb' : Nat → Prop} {cv lv bv : Value} (hG : ∀ b, Gc b ∨ Gl b ∨ Gb b → G b) (hs : SpK x MB Gc' Gl' Gb' L' ls' m' bs' cv lv bv) (ht : Tn (fun b => b = MB ∨ Gc b ∨ Gl b ∨ Gb b) w x)
  (hn : ∀ b, Gc' b ∨ Gl' b ∨ Gb' b → (Gc b ∨ Gl b ∨ Gb b) ∨ w.heap.size ≤ b) : ∃ G', SS w x MB G G' L' ls' m' bs' :=
 ⟨fun b => Gc' b ∨ Gl' b ∨ Gb' b, ⟨Gc', Gl', Gb', cv, lv, bv, hs, fun _ h => h⟩, ht.mono fun b _ hb => by
  rcases hb with hb | hb
  ·exact .inl hb
  ·exact .inr (hG b hb), fun b hb => (hn b hb).elim (fun h => .inl (hG b h)) .inr, hs.lt⟩
def SK (w x : World) (MB : Nat) (Gc Gl Gb : Nat → Prop) (L' : List Ze) (ls : List Zak) (m : Nat) (bs : List Int) (lv bv : Value) : Prop :=
 ∃ (Gc' : Nat → Prop) (cv' : Value), SpK x MB Gc' Gl Gb L' ls m bs cv' lv bv ∧ (∀ b, Gc' b → Gc b ∨ w.heap.size ≤ b) ∧ Tn (fun b => b = MB ∨ Gc b) w x
theorem SpK.ss {Gc Gl Gb Gc' : Nat → Prop} {cv' lv bv : Value} (hs : SpK x MB Gc' Gl Gb L' ls' m' bs' cv' lv bv) (hG : ∀ b, Gc b ∨ Gl b ∨ Gb b → G b) (hg : ∀ b, Gc' b → Gc b ∨ w.heap.size ≤ b) (ht : Tn (fun b => b = MB ∨ Gc b) w x) : ∃ G', SS w x MB G G' L' ls' m' bs' :=
 SS.of hG hs (ht.mono fun b _ hb => hb.imp id .inl) fun b hb => by
  rcases hb with hb | hb
  ·exact (hg b hb).imp .inl id
  ·exact .inl (.inr hb)
theorem SS.of0 {Gc Gl Gb : Nat → Prop} {cv lv bv : Value} (hlt : ∀ b, G b → b < w.heap.size) (hG : ∀ b, Gc b ∨ Gl b ∨ Gb b → G b) (hs : SpK x MB Gc Gl Gb L' ls' m' bs' cv lv bv) (ht : Tn (fun b => b = MB ∨ Gc b ∨ Gl b ∨ Gb b) w x) : SS w x MB G G L' ls' m' bs' :=
 ⟨⟨Gc, Gl, Gb, cv, lv, bv, hs, hG⟩, ht.mono fun b _ hb => by
  rcases hb with hb | hb
  ·exact .inl hb
  ·exact .inr (hG b hb), fun _ h => .inl h, fun b hb => Nat.lt_of_lt_of_le (hlt b hb) ht.size⟩
end
section
variable {w x y X : World} {MB : Nat} {Gc Gl Gb : Nat → Prop} {L : List Ze} {ls : List Zak} {m : Nat} {bs : List Int} {cv lv bv v2 : Value}
theorem SpK.patch (h : SpK w MB Gc Gl Gb L ls m bs cv lv bv) {i q : Nat} (hi : i < L.length) (hq : q < 5) :
  ∃ b c, cv = .slice (some ⟨b, 0, none⟩) L.length c ∧ L.length ≤ c ∧ c ≤ maxLen ∧ Gc b ∧ b < w.heap.size ∧ (∃ u, w.cell? ⟨b, i * 5 + q, none⟩ = some u) ∧ (∀ o, w.frozen? ⟨b, o, none⟩ = false) ∧
   ∀ (a : Ze) (u : Value), (∀ G x, Zbi G x a ([.int .i64 L[i].op, .int .i64 L[i].a, .int .i64 L[i].b, .int .i64 L[i].line, .string L[i].text].set q u)) → SpK (w.setCell ⟨b, i * 5 + q, none⟩ u) MB Gc Gl Gb (L.set i a) ls m bs cv lv bv := by
 obtain ⟨b, c, cs, e, h1, h2, hG, hb, ⟨H, hE⟩, hcell, hfr, hput⟩ := h.code.set1 Z9.is hi hq;obtain ⟨rfl, k0, k1, k2, k3, k4⟩ := hE;have hne : b ≠ MB := fun e => h.nM.1 (e ▸ hG);refine ⟨b, c, e, h1, h2, hG, hb, ⟨_, hcell q _ (List.getElem?_eq_getElem (by simpa using hq))⟩, hfr, fun a u ha => ?_⟩;have hk : Zb (fun b' => Gl b' ∨ Gb b') w (w.setCell ⟨b, i * 5 + q, none⟩ u) := (Zb.refl _ _).set (fun e => e.elim (h.dC b hG).1 (h.dC b hG).2) _ _;exact h.code' hk ((Below.heap_setCell _ _ _ _ (Ne.symm hne)).trans h.blk) (hput a u ha) (fun _ h => .inl h) (fun b hb => by simpa using h.lt b (.inl hb))
end
structure CV (n : Nat) (F : Nat → Prop) (w : World) (c : Zd) (A : Option Addr) (k : Nat) : Prop where
 n0 : Zi c.kind
 n1 : Zi c.op
 n2 : Zi c.aB
 n3 : Zi c.line
 tx : c.text.size ≤ maxLen
 kids : Z5 (Zds n) 6 F w c.kids (.slice A c.kids.length k)
def Zd.val (c : Zd) (A : Option Addr) (k : Nat) : Value := .agg #[.int .i64 c.kind, .int .i64 c.op, .int .i64 c.aB, .int .i64 c.line, .string c.text, .slice A c.kids.length k]
theorem CV.keep {n : Nat} {F G : Nat → Prop} {w x : World} {c : Zd} {A : Option Addr} {k : Nat} (h : CV n F w c A k) (hFG : ∀ b, F b → G b) (hk : Zb F w x) : CV n G x c A k :=
 ⟨h.n0, h.n1, h.n2, h.n3, h.tx, h.kids.keep (Zad n) hFG hk⟩
theorem CAt.cv {n : Nat} {F : Nat → Prop} {w : World} {c : Zd} {cb co : Nat} {A : Option Addr} {k : Nat} (h : CAt n F w c cb co A k) : CV n F w c A k := ⟨h.n0, h.n1, h.n2, h.n3, h.tx, h.kids⟩
theorem CV.lev {n : Nat} {F : Nat → Prop} {w : World} {c : Zd} {A : Option Addr} {k : Nat} (h : CV n F w c A k) {i : Nat} (hi : i < c.kids.length) : ∃ m, n = m + 1 := by
 obtain ⟨A', c', e, _, _, hel⟩ := h.kids;obtain ⟨b, o, cs, _, _, _, hE, _⟩ := hel i hi
 cases n with
 | zero => exact hE.elim
 | succ m => exact ⟨m, rfl⟩
structure CxP (n : Nat) (w : World) (MB : Nat) (G : Nat → Prop) (l : Nat) (lp : Option Zr) (e : Nat) (F : Nat → Prop) (c : Zd) (A : Option Addr) (k m B : Nat) : Prop where
 cv : CV n F w c A k
 ok : okC (n + 1) c lp.isSome
 fr : ∀ b, F b → b ≠ MB ∧ ¬ G b
 flt : ∀ b, F b → b < w.heap.size
 mb : m + 2 * dpC c ≤ 1000000
 lm : ∀ x, lp = some x → x.marks + 1 ≤ m
 exb : e + 3 * Z0 c ≤ 300000
 bB : m + 4 * dpC c + 10 ≤ B
 lb : l + Z0 c * B ≤ 134217728
def Zb5 (n : Nat) (w : World) (MB : Nat) (G : Nat → Prop) (L : List Ze) (lp : Option Zr) (ls : List Zak) (bs : List Int) (ex : List Nat) (c : Zd) (m : Nat) (e : Ending) (w' : World) : Prop :=
 e = .returned (.tuple #[]) ∧ ∃ G', SS w w' MB G G' (L ++ (cg (n + 1) c m lp L.length).1) (stL lp ls (ex ++ (cg (n + 1) c m lp L.length).2)) m (stB lp bs)
def Zci (n : Nat) : Prop := ∀ (w : World) (MB : Nat) (G : Nat → Prop) (L : List Ze) (lp : Option Zr) (ls : List Zak) (bs : List Int) (ex : List Nat) (F : Nat → Prop) (c : Zd) (A : Option Addr) (k m B : Nat), Hd (SS w w MB G G L (stL lp ls ex) m (stB lp bs)) → Hd (CxP n w MB G L.length lp (ex.length + ls.length + bs.length) F c A k m B) →
 Calls Tryz.prog 71 #[.pointer (some ⟨MB, 0, none⟩), c.val A k] w (Zb5 n w MB G L lp ls bs ex c m)
theorem Zgl {n : Nat} {c : Zd} {m : Nat} {lp : Option Zr} {b B : Nat} (hok : okC n c lp.isSome) (hlm : ∀ x, lp = some x → x.marks + 1 ≤ m) (hB : m + 4 * dpC c + 10 ≤ B) : (cg n c m lp b).1.length ≤ Z0 c * B :=
 Nat.le_trans (Zif n c m lp b (fun x hx => by have := hlm x hx; omega) hok) (Nat.mul_le_mul_left _ hB)
section
variable {n : Nat} {w w1 : World} {MB MB1 : Nat} {G G1 : Nat → Prop} {l l1 : Nat} {lp lp1 : Option Zr} {e e1 : Nat} {F : Nat → Prop} {c : Zd} {A : Option Addr} {k m m1 B : Nat}
theorem CxP.cast (h : CxP n w MB G l lp e F c A k m B) (hl : l = l1) : CxP n w MB G l1 lp e F c A k m B := hl ▸ h
theorem CxP.move (h : CxP n w MB G l lp e F c A k m B) (hk : Zb F w w1) (hs : w.heap.size ≤ w1.heap.size) (hM : ∀ b, F b → b ≠ MB ∧ ¬ G1 b) : CxP n w1 MB G1 l lp e F c A k m B :=
 ⟨h.cv.keep (fun _ h => h) hk, h.ok, hM, fun b hb => Nat.lt_of_lt_of_le (h.flt b hb) hs, h.mb, h.lm, h.exb, h.bB, h.lb⟩
theorem CxP.sub (h : CxP (n + 1) w MB G l lp e F c A k m B) {i : Nat} (hi : i < c.kids.length) (hs : w.heap.size ≤ w1.heap.size) (hk : Zb F w w1) (hM : ∀ b, F b → b ≠ MB1 ∧ ¬ G1 b)
  (hin : Zm c.kind i lp.isSome = lp1.isSome) (hm : m1 ≤ m + 2) (hlm : ∀ x, lp1 = some x → x.marks + 1 ≤ m1) (hex : e1 + 3 * Z0 (c.kid i) ≤ 300000) (hl : l1 + Z0 (c.kid i) * B ≤ 134217728) :
  ∃ kb ko Bk q, A = some ⟨kb, ko, none⟩ ∧ CAt n F w1 (c.kid i) kb (ko + i * 6) Bk q ∧ Hd (CxP n w1 MB1 G1 l1 lp1 e1 F (c.kid i) Bk q m1 B) ∧ ∀ b, (cg (n + 1) (c.kid i) m1 lp1 b).1.length ≤ Z0 (c.kid i) * B := by
 obtain ⟨kb, ko, Bk, q, hA, hc⟩ := CAt.kid h.cv.kids hi;have hok := h.ok.2.2.2 i hi;have hd := Zdm hi;have hmb := h.mb;have hbB := h.bB;rw [← Za4 hi] at hok hd hc;rw [hin] at hok;have hc1 := hc.keep (fun _ h => h) hk;exact ⟨kb, ko, Bk, q, hA, hc1, zh ⟨hc1.cv, hok, hM, fun b hb => Nat.lt_of_lt_of_le (h.flt b hb) hs, by omega, hlm, hex, by omega, hl⟩, fun b => Zgl hok hlm (by omega)⟩
end
end
theorem Zkq (rc : Cg) (r : Zaw) : ∀ (l : List Zaw) (b : Nat), Za5 rc (l ++ [r]) b = ((Za5 rc l b).1 ++ [⟨r.name, r.params, r.slots.length, ((b + (Za5 rc l b).2.length : Nat) : Int)⟩], (Za5 rc l b).2 ++ (bnd rc r.body 0 none (b + (Za5 rc l b).2.length) ((b + (Za5 rc l b).2.length + Zaq rc r.body 0 none (b + (Za5 rc l b).2.length) : Nat) : Int) ++ [Zg 25 0 r.body.line]))
 | [], b => by simp [Za5]
 | d :: l, b => by
  have e : ∀ X : List Ze, b + (bnd rc d.body 0 none b ((b + Zaq rc d.body 0 none b : Nat) : Int) ++ Zg 25 0 d.body.line :: X).length = b + Zaq rc d.body 0 none b + 1 + X.length := fun X => by
   simp only [List.length_append, List.length_cons, Zev]; omega
  simp only [List.cons_append, Za5];rw [Zkq rc r l, e];simp
theorem Ziw (rc : Cg) : ∀ (l : List Zaw) (b : Nat), (Za5 rc l b).1.length = l.length
 | [], _ => rfl
 | d :: l, b => by simp [Za5, Ziw rc l]
theorem Zre {N : Nat} {c : Zd} (h : okC (N + 1) c false) (hd : dpC c ≤ 400) (b : Nat) : Zaq (cg (N + 1)) c 0 none b ≤ Z0 c * 1611 + 2 := by
 have := Zgl (n := N + 1) (c := c) (m := 1) (lp := none) (b := b + 1) (B := 1611) h (fun x hx => by cases hx) (by omega);unfold Zaq
 simpa using this
theorem Zpe {N : Nat} : ∀ (l : List Zaw) (b : Nat), (∀ r ∈ l, okC (N + 1) r.body false ∧ dpC r.body ≤ 400) → (Za5 (cg (N + 1)) l b).2.length ≤ Zb4 l * 1611 + 3 * l.length
 | [], _, _ => by simp [Za5]
 | d :: l, b, h => by
  have h1 := Zre (h d (by simp)).1 (h d (by simp)).2 b;have h2 := Zpe l (b + Zaq (cg (N + 1)) d.body 0 none b + 1) (fun r hr => h r (by simp [hr]));simp only [Za5, Zb4, List.length_append, List.length_cons, Zev, Nat.add_mul]
  omega
def cgA (N : Nat) (p : Zu) (j : Nat) : List Zar × List Ze := Za5 (cg N) (p.routines.take j) 0
theorem Zpf (N : Nat) (p : Zu) : cgA N p p.routines.length = Za5 (cg N) p.routines 0 := by unfold cgA; rw [List.take_length]
theorem Znp (N : Nat) (p : Zu) {j : Nat} (h : j < p.routines.length) : cgA N p (j + 1) = ((cgA N p j).1 ++ [⟨p.routines[j].name, p.routines[j].params, p.routines[j].slots.length, ((cgA N p j).2.length : Nat)⟩], (cgA N p j).2 ++ (bnd (cg N) p.routines[j].body 0 none (cgA N p j).2.length (((cgA N p j).2.length + Zaq (cg N) p.routines[j].body 0 none (cgA N p j).2.length : Nat) : Int) ++ [Zg 25 0 p.routines[j].body.line])) := by
 unfold cgA;rw [List.take_succ_eq_append_getElem h, Zkq];simp only [Nat.zero_add]
theorem Zts (N : Nat) (p : Zu) {j : Nat} (h : j ≤ p.routines.length) : (cgA N p j).1.length = j := by
 unfold cgA;rw [Ziw, List.length_take]
 omega
structure Zox (N : Nat) (p : Zu) : Prop where
 ok : ∀ r ∈ p.routines, okC (N + 1) r.body false ∧ dpC r.body ≤ 400
 n : p.routines.length ≤ 12
 cnt : Zb4 p.routines ≤ 40000
theorem Zhg.rts {N : Nat} {p : Zu} (h : Zhg (N + 1) p = true) : Zox N p := by
 unfold Zhg at h;simp only [Bool.and_eq_true, nJ, List.all_eq_true] at h;obtain ⟨h1, h2, h3, h4, h5, h6, h7, h8, h9⟩ := h;refine ⟨fun r hr => ?_, h2, h9⟩;have h10 := h8 r hr;unfold Zid at h10;simp only [Bool.and_eq_true, nJ] at h10;exact ⟨vC.ok _ _ _ _ h10.2.2.2.2.2.2, h10.2.2.2.2.2.1⟩
theorem Zpg : ∀ (l : List Zaw) (j : Nat) (h : j < l.length), Zb4 (l.take j) + Z0 l[j].body ≤ Zb4 l
 | [], _, h => by simp at h
 | c :: l, 0, _ => by simp [Zb4]
 | c :: l, j + 1, h => by
  have := Zpg l j (by simpa using h);simp only [List.take_succ_cons, Zb4, List.getElem_cons_succ]
  omega
theorem Zox.len {N : Nat} {p : Zu} (h : Zox N p) {j : Nat} (hj : j ≤ p.routines.length) : (cgA (N + 1) p j).2.length ≤ Zb4 (p.routines.take j) * 1611 + 3 * j := by
 have := Zpe (N := N) (p.routines.take j) 0 (fun r hr => h.ok r (List.mem_of_mem_take hr));rw [List.length_take] at this;unfold cgA;have e : min j p.routines.length = j := by omega
 rw [e] at this;exact this
theorem Zox.at_ {N : Nat} {p : Zu} (h : Zox N p) {j : Nat} (hj : j < p.routines.length) : okC (N + 1) p.routines[j].body false ∧ dpC p.routines[j].body ≤ 400 ∧ Z0 p.routines[j].body ≤ 40000 ∧ (cgA (N + 1) p j).2.length + 1 + Z0 p.routines[j].body * 1611 ≤ 134000000 := by
 have h1 := h.ok _ (List.getElem_mem hj);have h2 := Zpg p.routines j hj;have h3 := h.cnt;have h4 := h.len (Nat.le_of_lt hj);have h5 := h.n;exact ⟨h1.1, h1.2, by omega, by omega⟩
section
variable {P : Program} {ops : Array Oper} {Q : Exit → Act → World → Prop} {md : Region.Mode}
theorem Zhb {l : Array Bool} {i : Nat} (h : l.getD i true = false) : (l.setIfInBounds i true).toList.count false + 1 = l.toList.count false := by
 have hi : i < l.size := by
  rcases Nat.lt_or_ge i l.size with h1 | h1
  ·exact h1
  ·simp [Array.getD, Nat.not_lt.2 h1] at h
 have hv : l.toList[i]'(by simpa using hi) = false := by simpa [Array.getD, hi] using h
 have e : (l.setIfInBounds i true).toList = l.toList.set i true := by simp
 have hpos : 0 < l.toList.count false := List.count_pos_iff.2 (hv ▸ List.getElem_mem (by simpa using hi));rw [e, List.count_set (by simpa using hi), hv];have h1 : (false == false) = true := rfl;have h2 : (true == false) = false := rfl;rw [if_pos h1, if_neg (by rw [h2]; decide)]
 omega
def Zkr (Q : Exit → Act → World → Prop) (K : Act → World → Prop) : Exit → Act → World → Prop
 | .normal, a', w' => K a' w'
 | e, a', w' => Q e a' w'
theorem Zus {K : Act → World → Prop} {i : Nat} {o : Oper} {a : Act} {w : World} (ho : ops[i]? = some o) (h : wpList P ops (Zkr Q K) [o] a w) : wpOp P ops Q i K a w := by
 unfold wpList at h;unfold wpOp;rw [ho];have hK : ∀ a' w', wpList P ops (Zkr Q K) [] a' w' → K a' w' := fun a' w' h' => h';have hup : o.wp P a w (wpList P ops (Zkr Q K) []) (Zkr Q K) → o.wp P a w (wpList P ops (Zkr Q K) []) Q := fun h' => by
  unfold Oper.wp at *
  generalize (execOp a.eval o).run P w = r at *
  cases r with
  | ok n w' => cases n <;> exact h'
  | halt x w' => cases x <;> exact h'
 show if Region.wanted o (yielded ops a.tmps) = true then _ else _
 split
 ·rename_i hw;rw [if_pos hw] at h
  rcases h with h | ⟨h1, h2⟩
  ·exact .inl (Oper.wp_mono hK (hup h))
  ·exact .inr ⟨h1, h2⟩
 ·rename_i hw;rw [if_neg hw] at h;exact hK _ _ h
end
section
variable {P : Program} {ops : Array Oper} {Q : Exit → Act → World → Prop}
def Zvb (ops : Array Oper) : Bool := (List.range ops.size).all fun j => match ops[j]? with
 | some o => o.after.all fun e => !Region.binds .any e || decide (e.on < j)
 | none => true
def Zf2 (n : Nat) (L : List Nat) : Array Bool := ((List.range n).map fun i => !L.contains i).toArray
def Znq (ops : Array Oper) (L U : List Nat) : Bool :=
 Zvb ops && (L.all fun j => decide (j < ops.size) && (List.range ops.size).all fun i => L.contains i || U.contains i || Zi8 .any ops ops.size j i) && Zgc ops L (Zf2 ops.size L) &&
  Region.noSelect ops && U.all fun i => decide (i < ops.size) && !L.contains i && Region.free .any ops (Zf2 ops.size (L ++ U)) i && (Region.ready .any ops (Zf2 ops.size (L ++ U))).contains i
theorem Zg0 {n : Nat} {L : List Nat} {i : Nat} (hi : i < n) (b : Bool) : (Zf2 n L).getD i b = !L.contains i := by simp [Zf2, Array.getD, hi]
theorem Zhc {l : Array Bool} {i : Nat} (hi : i < l.size) (b c : Bool) : l.getD i b = l.getD i c := by simp [Array.getD, hi]
theorem Ze9 {listed : Array Bool} (hA : Zvb ops = true) (hs : listed.size = ops.size) : ∀ (j : Nat), j < ops.size → listed.getD j true = false → ∃ i, i ∈ Region.ready .any ops listed := by
 intro j
 induction j using Nat.strongRecOn with
 | _ j ih =>
  intro hj hl
  by_cases hall : ∀ e ∈ ops[j].after, Region.binds .any e = true → listed.getD e.on false = true
  ·exact ⟨j, mem_ready.2 ⟨hl, ops[j], by simp [hj], hall⟩⟩
  ·obtain ⟨e, h1⟩ := Classical.not_forall.1 hall;obtain ⟨he, h1⟩ := Classical.not_imp.1 h1;obtain ⟨hb, h1⟩ := Classical.not_imp.1 h1;have h2 := List.all_eq_true.1 hA j (List.mem_range.2 hj);rw [show ops[j]? = some ops[j] by simp [hj]] at h2;have h3 := Array.all_eq_true_iff_forall_mem.1 h2 e he;simp only [hb, Bool.not_true, Bool.false_or, nJ] at h3;refine ih e.on h3 (by omega) ?_;rw [Zhc (by omega) true false]
   simpa using h1
theorem Zg1 : ∀ (L : List Nat) (os : List Oper) (fuel : Nat) (listed : Array Bool) (a : Act) (w : World), Zgc ops L listed = true → L.map (ops[·]?) = os.map some → listed.toList.count false ≤ fuel →
  wpList P ops Q os a w → wpAny P .any ops Q fuel listed a w
 | [], os, fuel, listed, a, w, hch, hos, _, h => by
  have : os = [] := by cases os with
   | nil => rfl
   | cons => simp at hos
  subst this;have hr : Region.ready .any ops listed = [] := by simpa [Zgc] using hch
  cases fuel with
  | zero => exact ⟨hr, h⟩
  | succ n => exact ⟨fun _ => h, fun i hi => by rw [hr] at hi; cases hi⟩
 | i :: L, os, fuel, listed, a, w, hch, hos, hc, h => by
  obtain ⟨o, os', rfl⟩ : ∃ o os', os = o :: os' := by cases os with
   | nil => simp at hos
   | cons o os' => exact ⟨o, os', rfl⟩
  simp only [List.map_cons, List.cons.injEq] at hos;simp only [Zgc, Bool.and_eq_true, beq_iff_eq] at hch;obtain ⟨hr, hch'⟩ := hch;have hn := Zhb (mem_ready.1 (show i ∈ Region.ready .any ops listed by rw [hr]; simp)).1;obtain ⟨fuel, rfl⟩ : ∃ k, fuel = k + 1 := ⟨fuel - 1, by omega⟩;refine ⟨fun h0 => (by rw [hr] at h0; cases h0), fun j hj => ?_⟩;rw [hr] at hj;obtain rfl : j = i := by simpa using hj
  have hK : ∀ a' w', wpList P ops Q os' a' w' → wpAny P .any ops Q fuel (listed.setIfInBounds j true) a' w' := fun a' w' h' =>
   Zg1 L os' fuel _ a' w' hch' hos.2 (by omega) h'
  unfold wpList at h;unfold wpOp;rw [hos.1];show if Region.wanted o (yielded ops a.tmps) = true then _ else _
  split
  ·rename_i hw;rw [if_pos hw] at h;exact h.imp (Oper.wp_mono hK) id
  ·rename_i hw;rw [if_neg hw] at h;exact hK _ _ h
theorem Zl3 {l : Array Bool} {i j : Nat} (b : Bool) (h : i ≠ j) : (l.setIfInBounds i true).getD j b = l.getD j b := getD_set_ne b h
theorem Zrf : ∀ (fuel : Nat) (listed : Array Bool) (a : Act) (w : World), wpAny P .any ops Q fuel listed a w → Zdg P .any ops Q (fun _ => true) (fun _ => false) (fun _ => True) fuel listed a w := by
 intro fuel
 induction fuel with
 | zero => exact fun _ _ _ h => h
 | succ fuel ih =>
  intro listed a w h;refine ⟨h.1, fun i hi => wpOp_mono (fun a' w' h' => ?_) (h.2 i hi)⟩;exact ⟨⟨fun _ => trivial, fun h0 => by simp at h0⟩, ih _ a' w' h'⟩
theorem Zoy {i : Nat} {oi : Oper} {v : Value} (hi : ops[i]? = some oi) (hsel : ∀ (j : Nat) (o : Oper) cs b, ops[j]? = some o → o.op ≠ .select cs b) (hQ : ∀ c a w, Q (.panic c) (a.put oi.dst v) w → Q (.panic c) a w) (fuel : Nat) (listed : Array Bool) (a : Act) (w : World)
  (hfree : ∀ j oj, ops[j]? = some oj → j ≠ i → listed.getD j true = false → (∀ e ∈ oj.after, Region.binds .any e = true → e.on ≠ i) → oi.apart ops oj = true) (hr : i ∈ Region.ready .any ops listed) (hy : YieldsIf P ops (fun _ => True) oi v a)
  (h : wpAny P .any ops Q fuel (listed.setIfInBounds i true) (a.put oi.dst v) w) : wpAny P .any ops Q (fuel + 1) listed a w :=
 Zgg _ _ _ _ (Zjc (tl := fun _ => true) (pu := fun _ => false) (S := fun _ => True) hi hsel hQ rfl fuel listed a w hfree hr hy (Zrf _ _ _ _ h))
theorem Ztt (hQ : ∀ c (d : Tmp) v a w, Q (.panic c) (Act.put a (some d) v) w → Q (.panic c) a w) (c : List PanicEntry) (d : Option Tmp) (v : Value) (a : Act) (w : World) (h : Q (.panic c) (Act.put a d v) w) : Q (.panic c) a w := by
 cases d with
 | none => exact h
 | some d => exact hQ c d v a w h
theorem unl {listed : Array Bool} {i : Nat} (h : ¬ listed.getD i true = true) : listed.getD i true = false := by simpa using h
theorem Ztu {I : Array Bool → Act → World → Prop} {L U : List Nat} {os : List Oper} (hB : Znq ops L U = true) (hos : L.map (ops[·]?) = os.map some) (hQ : ∀ c (d : Tmp) v a w, Q (.panic c) (Act.put a (some d) v) w → Q (.panic c) a w)
  (hstep : ∀ i o, ops[i]? = some o → L.contains i = false → U.contains i = false → ∀ listed a w, I listed a w → listed.size = ops.size → listed.getD i true = false → (∀ e ∈ o.after, Region.binds .any e = true → listed.getD e.on false = true) → wpOp P ops Q i (I (listed.setIfInBounds i true)) a w)
  (hpure : ∀ i o, ops[i]? = some o → U.contains i = true → ∀ listed a w, I listed a w → listed.size = ops.size → listed.getD i true = false → (∀ e ∈ o.after, Region.binds .any e = true → listed.getD e.on false = true) → ∃ v, YieldsIf P ops (fun _ => True) o v a ∧ I (listed.setIfInBounds i true) (a.put o.dst v) w)
  (hend : ∀ a w, I (Zf2 ops.size L) a w → wpList P ops Q os a w) :
  ∀ (fuel : Nat) (listed : Array Bool) (a : Act) (w : World), I listed a w → Zit .any ops listed → listed.size = ops.size → (∀ i ∈ L, listed.getD i true = false) → listed.toList.count false ≤ fuel → wpAny P .any ops Q fuel listed a w := by
 simp only [Znq, Bool.and_eq_true] at hB;obtain ⟨⟨⟨⟨hA, hR⟩, hC⟩, hNS⟩, hU⟩ := hB;intro fuel
 induction fuel with
 | zero =>
  intro listed a w hI hcl hs hLu hc
  by_cases hall : ∀ i, i < ops.size → L.contains i = false → listed.getD i true = true
  ·have he : listed = Zf2 ops.size L := by
    apply Array.ext
    ·simp [Zf2, hs]
    ·intro i h1 h2;have h3 : i < ops.size := by omega
     have e1 : listed.getD i true = listed[i] := by simp [Array.getD, h1]
     have e2 : (Zf2 ops.size L).getD i true = (Zf2 ops.size L)[i] := by simp [Array.getD, h2]
     rw [← e1, ← e2, Zg0 h3]
     cases hLi : L.contains i with
     | false => exact hall i h3 hLi
     | true => exact hLu i (by simpa using hLi)
   subst he;exact Zg1 L os _ _ a w hC hos hc (hend a w hI)
  ·obtain ⟨i, h1⟩ := Classical.not_forall.1 hall;obtain ⟨h1, h2⟩ := Classical.not_imp.1 h1;obtain ⟨h2, h3⟩ := Classical.not_imp.1 h2;obtain ⟨k, hk⟩ := Ze9 hA hs i h1 (unl h3);have := Zhb (mem_ready.1 hk).1
   omega
 | succ fuel ih =>
  intro listed a w hI hcl hs hLu hc;have hLs : ∀ j, L.contains j = false → ∀ m ∈ L, (listed.setIfInBounds j true).getD m true = false := fun j hjL m hm => by
   have hne : j ≠ m := fun h => by
    subst h;rw [show L.contains j = true by simpa using hm] at hjL
    cases hjL
   rw [Zl3 true hne];exact hLu m hm
  by_cases hall : ∀ i, i < ops.size → L.contains i = false → listed.getD i true = true
  ·have he : listed = Zf2 ops.size L := by
    apply Array.ext
    ·simp [Zf2, hs]
    ·intro i h1 h2;have h3 : i < ops.size := by omega
     have e1 : listed.getD i true = listed[i] := by simp [Array.getD, h1]
     have e2 : (Zf2 ops.size L).getD i true = (Zf2 ops.size L)[i] := by simp [Array.getD, h2]
     rw [← e1, ← e2, Zg0 h3]
     cases hLi : L.contains i with
     | false => exact hall i h3 hLi
     | true => exact hLu i (by simpa using hLi)
   subst he;exact Zg1 L os _ _ a w hC hos hc (hend a w hI)
  by_cases hallU : ∀ i, i < ops.size → L.contains i = false → U.contains i = false → listed.getD i true = true
  ·obtain ⟨i, h1⟩ := Classical.not_forall.1 hall;obtain ⟨h1, h2⟩ := Classical.not_imp.1 h1;obtain ⟨h2, h3⟩ := Classical.not_imp.1 h2;have hiU : U.contains i = true := by
    cases hc' : U.contains i with
    | true => rfl
    | false => exact absurd (hallU i h1 h2 hc') h3
   have h4 := List.all_eq_true.1 hU i (by simpa using hiU);simp only [Bool.and_eq_true] at h4;obtain ⟨⟨_, hfr⟩, hrd⟩ := h4;have hi : ops[i]? = some ops[i] := by simp [h1]
   have hlt : ∀ j, j < ops.size → listed.getD j true = false → (Zf2 ops.size (L ++ U)).getD j true = false := fun j hj hjl => by
    rw [Zg0 hj]
    cases hjL : L.contains j with
    | true => simp at hjL; simp [hjL]
    | false =>
     cases hjU : U.contains j with
     | true => simp at hjU; simp [hjU]
     | false => rw [hallU j hj hjL hjU] at hjl; cases hjl
   have hready : i ∈ Region.ready .any ops listed := by
    obtain ⟨_, o, ho, hdep⟩ := mem_ready.1 (show i ∈ Region.ready .any ops (Zf2 ops.size (L ++ U)) by simpa using hrd);refine mem_ready.2 ⟨unl h3, o, ho, fun e he hb => ?_⟩;have h5 := hdep e he hb;have h6 : e.on < ops.size := by
     rcases Nat.lt_or_ge e.on ops.size with h7 | h7
     ·exact h7
     ·simp [Zf2, Array.getD, Nat.not_lt.2 h7] at h5
    rw [Zg0 h6] at h5;simp only [List.contains_append, Bool.not_or, Bool.and_eq_true, Bool.not_eq_true'] at h5;rw [Zhc (by omega) false true];exact hallU e.on h6 h5.1 h5.2
   obtain ⟨v, hy, hI'⟩ := hpure i _ hi hiU listed a w hI hs (unl h3) (by
    obtain ⟨_, o, ho, hdep⟩ := mem_ready.1 hready;rw [hi] at ho
    cases ho
    exact hdep)
   refine Zoy hi (Region.noSelect_spec hNS) (fun c a w h => Ztt hQ c _ _ a w h) fuel listed a w (fun j oj hj hne hjl hno => ?_) hready hy (ih _ _ w hI' (Zhr hcl hready) (by simp [hs]) (hLs i h2) (by have := Zhb (unl h3); omega));exact Region.free_spec hi hfr j oj hj hne (hlt j (Array.getElem?_eq_some_iff.1 hj).1 hjl) hno
  ·obtain ⟨i, h1⟩ := Classical.not_forall.1 hallU;obtain ⟨h1, h2⟩ := Classical.not_imp.1 h1;obtain ⟨h2, h3⟩ := Classical.not_imp.1 h2;obtain ⟨h3u, h3⟩ := Classical.not_imp.1 h3;obtain ⟨k, hk⟩ := Ze9 hA hs i h1 (unl h3);refine ⟨fun hr => (by rw [hr] at hk; cases hk), fun j hj => ?_⟩;obtain ⟨hjun, oj, hoj, hja⟩ := mem_ready.1 hj;have hjL : L.contains j = false := by
    cases hc' : L.contains j with
    | false => rfl
    | true =>
     have h4 := List.all_eq_true.1 hR j (by simpa using hc');simp only [Bool.and_eq_true] at h4;have h5 := List.all_eq_true.1 h4.2 i (List.mem_range.2 h1);rw [h2, h3u, Bool.false_or, Bool.false_or] at h5;have h6 := Zeb hcl _ j i oj hoj hja h5;rw [Zhc (by omega) false true] at h6;exact absurd h6 h3
   have hK : ∀ a' w', I (listed.setIfInBounds j true) a' w' → wpAny P .any ops Q fuel (listed.setIfInBounds j true) a' w' := fun a' w' h' =>
    ih _ a' w' h' (Zhr hcl hj) (by simp [hs]) (hLs j hjL) (by have := Zhb hjun; omega)
   cases hjU : U.contains j with
   | false => exact wpOp_mono hK (hstep j oj hoj hjL hjU listed a w hI hs hjun hja)
   | true =>
    obtain ⟨v, hy, hI'⟩ := hpure j oj hoj hjU listed a w hI hs hjun hja;exact hy.wpOp hoj trivial (hK _ _ hI')
theorem Zp8 {I : Array Bool → Act → World → Prop} (L U : List Nat) (os : List Oper) {id : Nat} {a : Act} {w : World} (hm : P.follows .mixedOrders = true) (hB : Znq ops L U = true) (hos : L.map (ops[·]?) = os.map some) (hQ : ∀ c (d : Tmp) v a w, Q (.panic c) (Act.put a (some d) v) w → Q (.panic c) a w)
  (h0 : ∀ w1, w1 = w.drew → I (Array.replicate ops.size false) a w1)
  (hstep : ∀ i o, ops[i]? = some o → L.contains i = false → U.contains i = false → ∀ listed a w, I listed a w → listed.size = ops.size → listed.getD i true = false → (∀ e ∈ o.after, Region.binds .any e = true → listed.getD e.on false = true) → wpOp P ops Q i (I (listed.setIfInBounds i true)) a w)
  (hpure : ∀ i o, ops[i]? = some o → U.contains i = true → ∀ listed a w, I listed a w → listed.size = ops.size → listed.getD i true = false → (∀ e ∈ o.after, Region.binds .any e = true → listed.getD e.on false = true) → ∃ v, YieldsIf P ops (fun _ => True) o v a ∧ I (listed.setIfInBounds i true) (a.put o.dst v) w)
  (hend : ∀ a w, I (Zf2 ops.size L) a w → wpList P ops Q os a w) : (Code.region id ops true).wp P Q a w := by
 have hR := hB;simp only [Znq, Bool.and_eq_true] at hR;refine wp_region_any hm (Ztu hB hos hQ hstep hpure hend _ _ _ _ (h0 w.drew rfl) (fun j o ho hl => ?_) (by simp) (fun i hi => ?_) (by simp))
 ·have hj : j < ops.size := (Array.getElem?_eq_some_iff.1 ho).1;simp [Array.getD, hj] at hl
 ·have := List.all_eq_true.1 hR.1.1.1.2 i hi;simp only [Bool.and_eq_true, nJ] at this;simp [Array.getD, this.1]
theorem Zrg {o : Oper} {listed : Array Bool} (h : ∀ e ∈ o.after, Region.binds .any e = true → listed.getD e.on false = true) (D : List Nat) (hD : (D.all fun d => o.after.any fun e => Region.binds .any e && e.on == d) = true) : ∀ d ∈ D, listed.getD d false = true := by
 intro d hd;obtain ⟨e, he, h1⟩ := Array.any_eq_true'.1 (List.all_eq_true.1 hD d hd);simp only [Bool.and_eq_true, beq_iff_eq] at h1;rw [← h1.2];exact h e he h1.1
end
def Zf3 : Value → Nat
 | .pointer (some p) => p.block
 | _ => 0
def bt (l : Array Bool) (i : Nat) : Prop := l.getD i false = true
theorem Zcc {l : Array Bool} {i j : Nat} (hij : i ≠ j) (h : bt (l.setIfInBounds i true) j) : bt l j := by unfold bt at *; rwa [Zl3 false hij] at h
theorem Zfe {l : Array Bool} {i j : Nat} (h : bt l j) : bt (l.setIfInBounds i true) j := by unfold bt at *; exact getD_set_true h
theorem Zbs {n i : Nat} (h : bt (Array.replicate n false) i) : False := by
 unfold bt at h
 rcases Nat.lt_or_ge i n with h1 | h1
 ·simp [Array.getD, h1] at h
 ·simp [Array.getD, Nat.not_lt.2 h1] at h
def AlR (W u : World) (o : Obj) (x : Value) : Prop := ∃ B : Nat, x = .pointer (some ⟨B, 0, none⟩) ∧ u.heap[B]? = some o ∧ W.heap.size ≤ B
theorem AlR.later {W u v : World} {o : Obj} {x : Value} (h : AlR W u o x) (hl : Za u v) : AlR W v o x := by
 obtain ⟨B, h1, h2, h3⟩ := h;exact ⟨B, h1, (hl.block B (Zc h2)).trans h2, h3⟩
theorem AlR.new {W u : World} (o : Obj) (hW : Za W u) : AlR W (u.alloc o) o (.pointer (some ⟨u.heap.size, 0, none⟩)) := ⟨_, rfl, heap_alloc_new u o, hW.size⟩
theorem AlR.lt {W u : World} {o : Obj} {x : Value} (h : AlR W u o x) : Zf3 x < u.heap.size := by
 obtain ⟨B, rfl, h2, _⟩ := h;exact Zc h2
theorem Znr {u : World} {B : Nat} {T : TypeId} {zs : Array Value} (vs : List Value) (hB : u.heap[B]? = some (.cells zs T (0, 0))) (hz : zs.size = vs.length) : (Zbh u B 0 vs).heap[B]? = some (.cells vs.toArray T (0, 0)) := by
 obtain ⟨cur, h1, h2, _, h4⟩ := Zgu vs u 0 zs hB (by omega);rw [h1];have : cur = vs.toArray := by
  apply Array.ext
  ·simp [h2, hz]
  ·intro i h5 h6;have := h4 i vs[i] (by simp at h6; simp [h6]);rw [Nat.zero_add] at this;simp only [List.getElem_toArray];exact (Array.getElem?_eq_some_iff.1 this).2
 rw [this]
theorem kc {l : Array Bool} {i j : Nat} {p : Prop} (F : Hd (bt l j → p)) (h : i ≠ j := by decide) : Hd (bt (l.setIfInBounds i true) j → p) := fun k => F (Zcc h k)
theorem kA {l : Array Bool} {i j : Nat} {W u v : World} {o : Obj} {x : Value} (F : Hd (bt l j → AlR W u o x)) (hb : Za u v) (h : i ≠ j := by decide) : Hd (bt (l.setIfInBounds i true) j → AlR W v o x) := fun k => (F (Zcc h k)).later hb
theorem kX {l : Array Bool} {i j : Nat} {p q : Prop} (F : Hd (bt l j → p ∧ bt l i)) (hun : ¬ bt l i) (h : i ≠ j := by decide) : Hd (bt (l.setIfInBounds i true) j → q) := fun k => absurd (F (Zcc h k)).2 hun
theorem Zg2 {n : Nat} {L : List Nat} {i : Nat} (h : decide (i < n) && !L.contains i) : bt (Zf2 n L) i := by
 simp only [Bool.and_eq_true, nJ] at h;unfold bt;rw [Zg0 h.1];exact h.2
theorem unb {l : Array Bool} {i : Nat} (hun : l.getD i true = false) (hb : bt l i) : False := by
 have hi : i < l.size := by
  rcases Nat.lt_or_ge i l.size with h1 | h1
  ·exact h1
  ·simp [Array.getD, Nat.not_lt.2 h1] at hun
 unfold bt at hb;rw [Zhc hi false true, hun] at hb
 cases hb
theorem Zc9 {P : Program} {ops : Array Oper} {Q : Exit → Act → World → Prop} {I : Array Bool → Act → World → Prop} {n i : Nat} {o o' : Oper} (hn : ops.size = n) (ho : ops[i]? = some o) (D : List Nat) (hD : (D.all fun d => o.after.any fun e => Region.binds .any e && e.on == d) = true)
  (h : ∀ listed a w, I listed a w → listed.size = n → ¬ bt listed i → (∀ d ∈ D, bt listed d) → wpList P ops (Zkr Q (I (listed.setIfInBounds i true))) [o] a w)
  (ho' : ops[i]? = some o') (listed : Array Bool) (a : Act) (w : World) (hI : I listed a w) (hs : listed.size = ops.size) (hun : listed.getD i true = false) (ha : ∀ e ∈ o'.after, Region.binds .any e = true → listed.getD e.on false = true) : wpOp P ops Q i (I (listed.setIfInBounds i true)) a w := by
 obtain rfl : o = o' := by rw [ho] at ho'; exact Option.some.inj ho'
 exact Zus ho (h listed a w hI (hs.trans hn) (unb hun) (Zrg ha D hD))
theorem Zaf {Q : Exit → Act → World → Prop} {K : Act → World → Prop} {a : Act} {w : World} (h : K a w) : Zkr Q K .normal a w := h
theorem Zph {P : Program} {Q : Exit → Act → World → Prop} {c : Code} {a : Act} {w : World} (h : ∀ A, A = a → c.wp P Q A w) : c.wp P Q a w := h a rfl
theorem Zl4 {P : Program} {ops : Array Oper} {Q : Exit → Act → World → Prop} {I : Array Bool → Act → World → Prop} (L U T : List Nat) (os : List Oper) {id : Nat} {a : Act} {w : World} (hm : P.follows .mixedOrders = true) (hB : Znq ops L U = true) (hT : ((List.range ops.size).all fun i => L.contains i || (U.contains i || T.contains i)) = true) (hos : L.map (ops[·]?) = os.map some) (hQ : ∀ c (d : Tmp) v a w, Q (.panic c) (Act.put a (some d) v) w → Q (.panic c) a w)
  (h0 : ∀ w1, w1 = w.drew → I (Array.replicate ops.size false) a w1)
  (hstep : ∀ Q' : Exit → Act → World → Prop, ∀ i ∈ T, ∀ o, ops[i]? = some o → ∀ listed a w, I listed a w → listed.size = ops.size → listed.getD i true = false → (∀ e ∈ o.after, Region.binds .any e = true → listed.getD e.on false = true) → wpOp P ops Q' i (I (listed.setIfInBounds i true)) a w)
  (hpure : ∀ i ∈ U, ∀ o, ops[i]? = some o → ∀ listed a w, I listed a w → listed.size = ops.size → listed.getD i true = false → (∀ e ∈ o.after, Region.binds .any e = true → listed.getD e.on false = true) → ∃ v, YieldsIf P ops (fun _ => True) o v a ∧ I (listed.setIfInBounds i true) (a.put o.dst v) w)
  (hend : ∀ a w, I (Zf2 ops.size L) a w → wpList P ops Q os a w) : (Code.region id ops true).wp P Q a w :=
 Zp8 L U os hm hB hos hQ h0 (fun i o ho hL hU listed a w hI hs hun ha => hstep Q i (by
  have h1 := List.all_eq_true.1 hT i (List.mem_range.2 (Array.getElem?_eq_some_iff.1 ho).1);rw [hL, hU, Bool.false_or, Bool.false_or] at h1
  simpa using h1) o ho listed a w hI hs hun ha) (fun i o ho hU => hpure i (by simpa using hU) o ho) hend
section
abbrev Zdc : TypeId := 32
abbrev TCr : TypeId := 72
abbrev TRe : TypeId := 101
abbrev TSr : TypeId := 9
def Zgo (w : World) (q : Zfi × Bool) (e : Ending) (w' : World) : Prop :=
 ∃ (cs : List Value) (F : Nat → Prop), e = .returned (.tuple #[.agg cs.toArray, .bool q.2]) ∧ Zj6 F w' q.1 cs ∧ (∀ b, F b → w.heap.size ≤ b ∧ b < w'.heap.size) ∧ Below w.heap.size w w'
abbrev Zhn : List Value := [.slice none 0 0, .slice none 0 0, .slice none 0 0, .int .i64 0, .slice none 0 0]
theorem Zvn : Zi 0 := by unfold Zi; omega
theorem Zgo.zero {w w' : World} (h : Below w.heap.size w w') : Zgo w (cdZ, false) (.returned (.tuple #[.agg Zhn.toArray, .bool false])) w' :=
 ⟨Zhn, fun _ => False, rfl, ⟨fun _ => 0, _, _, _, _, rfl, Zah.nil _ _ _ _ _, Zah.nil _ _ _ _ _, Zah.nil _ _ _ _ _, Zvn, Zah.nil _ _ _ _ _⟩, fun _ h => h.elim, h⟩
def Zvd (w : World) (q : Zfi) (cs : List Value) (w' : World) : Prop := ∃ F : Nat → Prop, Zj6 F w' q cs ∧ (∀ b, F b → w.heap.size ≤ b ∧ b < w'.heap.size) ∧ Below w.heap.size w w'
theorem Zgo.of {w x w' : World} {q : Zfi} {cs : List Value} {t : Bool} {ZB : Nat} (hl : Za w x) (h1 : w.heap.size ≤ ZB) (h2 : ZB < x.heap.size) (h : Zvd x q cs w') : Zgo w (q, t) (.returned (.tuple #[.agg cs.toArray, .bool t])) (Zbh w' ZB 0 cs) := by
 obtain ⟨F, hc, hF, hb⟩ := h;have k1 : Zb (fun y => y ≠ ZB) w' (Zbh w' ZB 0 cs) := Zbn (fun h => h rfl) cs w' 0 (Zb.refl _ _);have hs := hl.size;exact ⟨cs, F, rfl, Zz.is.keep hc (fun _ h => h) (k1.mono fun b hb e => by have := (hF b hb).1; omega), fun b hb => ⟨by have := (hF b hb).1; omega, Nat.lt_of_lt_of_le (hF b hb).2 k1.size⟩, Zbg h1 cs w' 0 (Below.trans hl (hb.mono hs))⟩
structure CmS (w0 w : World) (p : Zu) (OB : Nat) (H R U C : Nat → Prop) (crs : List Zar) (rv ev gv : Value) : Prop where
 ob : w.heap[OB]? = some (.cells #[rv, ev, gv, .int .i64 p.main, .slice none 0 0] Zdc (0, 0))
 rr : Zah Zaj 4 TCr H w crs rv
 re : Zah Zaa 3 TRe R w p.aA ev
 gl : Zah Zbe 1 TSr U w p.globals gv
 lo : w0.heap.size ≤ OB
 d : ∀ b, H b ∨ R b ∨ U b → w0.heap.size ≤ b ∧ b < w.heap.size ∧ b ≠ OB ∧ ¬ C b
 dC : ∀ b, C b → w0.heap.size ≤ b ∧ b < w.heap.size ∧ b ≠ OB
 dH : ∀ b, H b → ¬ R b ∧ ¬ U b
 dR : ∀ b, R b → ¬ U b
 bel : Below w0.heap.size w0 w
section
variable {w0 w x X y : World} {p : Zu} {OB : Nat} {H R U C C' : Nat → Prop} {crs : List Zar} {rv ev gv v2 : Value}
theorem CmS.coder (h : CmS w0 w p OB H R U C crs rv ev gv) (ht : Tn C w x) (hC : ∀ b, C' b → C b ∨ w.heap.size ≤ b) (hlt : ∀ b, C' b → b < x.heap.size) : CmS w0 x p OB H R U C' crs rv ev gv := by
 have hob := Zc h.ob;have hs := ht.size;have h0 := h.bel.size;refine ⟨ht.has h.ob fun hc => (h.dC _ hc).2.2 rfl, h.rr.keep Zau (fun _ h => h) (ht.keeps fun b hb hc => (h.d b (.inl hb)).2.2.2 hc), h.re.keep Zj.is (fun _ h => h) (ht.keeps fun b hb hc => (h.d b (.inr (.inl hb))).2.2.2 hc), h.gl.keep Zt (fun _ h => h) (ht.keeps fun b hb hc => (h.d b (.inr (.inr hb))).2.2.2 hc), h.lo, fun b hb => ?_, fun b hb => ?_, h.dH, h.dR, h.bel.trans (Zer ht.keep ht.below (fun b hb => (h.dC b hb).1) h.bel.size)⟩
 ·obtain ⟨h1, h2, h3, h4⟩ := h.d b hb;refine ⟨h1, by omega, h3, fun hc => ?_⟩
  rcases hC b hc with h5 | h5
  ·exact h4 h5
  ·omega
 ·refine ⟨?_, hlt b hb, ?_⟩
  ·rcases hC b hb with h5 | h5
   ·exact (h.dC b h5).1
   ·omega
  ·rcases hC b hb with h5 | h5
   ·exact (h.dC b h5).2.2
   ·omega
theorem CmS.later (h : CmS w0 w p OB H R U C crs rv ev gv) (hl : Za w x) : CmS w0 x p OB H R U C crs rv ev gv :=
 h.coder (Tn.later hl) (fun _ h => .inl h) fun b hb => Nat.lt_of_lt_of_le (h.dC b hb).2.1 hl.size
theorem CmS.push (h : CmS w0 w p OB H R U C crs rv ev gv) (hX : Za w X) {a : Zar} (hrow : Zah Zaj 4 TCr (fun b => H b ∨ False ∨ b = X.heap.size) y (crs ++ [a]) v2) (hk : Zb (fun b => ¬ H b) X y) (hb0 : Below 0 X y) :
  CmS w0 (y.setCell ⟨OB, 0, none⟩ v2) p OB (fun b => (H b ∨ False ∨ b = X.heap.size) ∧ b < y.heap.size) R U C (crs ++ [a]) v2 ev gv := by
 have hob := Zc h.ob;have hs := hX.size;have hs2 := hk.size;have h0 := h.bel.size;have hnO : ¬ H OB := fun hh => (h.d OB (.inl hh)).2.2.1 rfl;have hkw : ∀ {F : Nat → Prop}, (∀ b, F b → ¬ H b ∧ b ≠ OB) → Zb F w (y.setCell ⟨OB, 0, none⟩ v2) := fun hF => ((Zb.later hX).trans (hk.mono fun b hb => (hF b hb).1)).set (fun hb => (hF OB hb).2 rfl) _ _;refine ⟨?_, (hrow.trim Zac).keep Zau (fun _ h => h) ((Zb.refl _ _).set (fun hb => ?_) _ _), h.re.keep Zj.is (fun _ h => h) (hkw fun b hb => ⟨fun hh => (h.dH b hh).1 hb, (h.d b (.inr (.inl hb))).2.2.1⟩), h.gl.keep Zt (fun _ h => h) (hkw fun b hb => ⟨fun hh => (h.dH b hh).2 hb, (h.d b (.inr (.inr hb))).2.2.1⟩), h.lo, fun b hb => ?_, fun b hb => ?_, fun b hb => ?_, h.dR, ?_⟩
 ·have hy : y.heap[OB]? = some (.cells #[rv, ev, gv, .int .i64 p.main, .slice none 0 0] Zdc (0, 0)) := (hk.same OB hnO (by omega)).trans ((hX.block OB hob).trans h.ob);have := Za1 (o := 0) hy v2
  simpa using this
 ·rcases hb.1 with h1 | h1 | h1
  ·exact hnO h1
  ·exact h1
  ·omega
 ·simp only [World.size_setCell];have key : ∀ b', H b' ∨ R b' ∨ U b' → w0.heap.size ≤ b' ∧ b' < y.heap.size ∧ b' ≠ OB ∧ ¬ C b' := fun b' hb' => by
   obtain ⟨h1, h2, h3, h4⟩ := h.d b' hb';exact ⟨h1, by omega, h3, h4⟩
  rcases hb with hb | hb | hb
  ·rcases hb.1 with h1 | h1 | h1
   ·exact key b (.inl h1)
   ·exact h1.elim
   ·refine ⟨by omega, hb.2, by omega, fun hc => ?_⟩;have := (h.dC b hc).2.1
    omega
  ·exact key b (.inr (.inl hb))
  ·exact key b (.inr (.inr hb))
 ·simp only [World.size_setCell];obtain ⟨h1, h2, h3⟩ := h.dC b hb;exact ⟨h1, by omega, h3⟩
 ·rcases hb.1 with h1 | h1 | h1
  ·exact h.dH b h1
  ·exact h1.elim
  ·exact ⟨fun hr => by have := (h.d b (.inr (.inl hr))).2.1; omega, fun hr => by have := (h.d b (.inr (.inr hr))).2.1; omega⟩
 ·have hb1 : Below w0.heap.size X y := Zer hk hb0 (fun b hb => (h.d b (.inl hb)).1) (by omega);exact ((h.bel.trans (hX.mono h0)).trans hb1).setCell h.lo _
theorem CmS.done (h : CmS w0 w p OB H R U C crs rv ev gv) {G : Nat → Prop} {L : List Ze} {iv : Value} (hi : Zah Zbi 5 Zhs G w L iv) (hG : ∀ b, G b → C b) (hm : Zi p.main) :
  Zvd w0 ⟨crs, p.aA, p.globals, p.main, L⟩ [rv, ev, gv, .int .i64 p.main, iv] (w.setCell ⟨OB, 4, none⟩ iv) := by
 classical
 have hkk : ∀ {F : Nat → Prop}, (∀ b, F b → b ≠ OB) → Zb F w (w.setCell ⟨OB, 4, none⟩ iv) := fun hF => (Zb.refl _ _).set (fun hb => hF OB hb rfl) _ _;have hn : ∀ b, H b ∨ R b ∨ U b → b ≠ OB := fun b hb => (h.d b hb).2.2.1;refine ⟨fun b => (H b ∨ R b ∨ U b) ∨ G b, ⟨fun b => if H b then 0 else if R b then 1 else if U b then 2 else 3, rv, ev, gv, iv, rfl, ?_, ?_, ?_, hm, ?_⟩, fun b hb => ?_, h.bel.setCell h.lo _⟩
 ·exact h.rr.keep Zau (fun b hb => ⟨.inl (.inl hb), if_pos hb⟩) (hkk fun b hb => hn b (.inl hb))
 ·exact h.re.keep Zj.is (fun b hb => ⟨.inl (.inr (.inl hb)), by show (if H b then 0 else if R b then 1 else if U b then 2 else 3) = 1; rw [if_neg fun hh => (h.dH b hh).1 hb, if_pos hb]⟩) (hkk fun b hb => hn b (.inr (.inl hb)))
 ·exact h.gl.keep Zt (fun b hb => ⟨.inl (.inr (.inr hb)), by show (if H b then 0 else if R b then 1 else if U b then 2 else 3) = 2; rw [if_neg fun hh => (h.dH b hh).2 hb, if_neg fun hh => h.dR b hh hb, if_pos hb]⟩) (hkk fun b hb => hn b (.inr (.inr hb)))
 ·exact hi.keep Zcf (fun b hb => ⟨.inr hb, by
   have hc := hG b hb;show (if H b then 0 else if R b then 1 else if U b then 2 else 3) = 3;rw [if_neg fun hh => (h.d b (.inl hh)).2.2.2 hc, if_neg fun hh => (h.d b (.inr (.inl hh))).2.2.2 hc, if_neg fun hh => (h.d b (.inr (.inr hh))).2.2.2 hc]⟩) (hkk fun b hb => (h.dC b (hG b hb)).2.2)
 ·simp only [World.size_setCell]
  rcases hb with hb | hb
  ·exact ⟨(h.d b hb).1, (h.d b hb).2.1⟩
  ·exact ⟨(h.dC b (hG b hb)).1, (h.dC b (hG b hb)).2.1⟩
theorem CmS.start {zs : Array Value} (hl : Za w0 w) (hB : w.heap[OB]? = some (.cells zs Zdc (0, 0))) (hz : zs.size = 5) (lo : w0.heap.size ≤ OB) (re : Zah Zaa 3 TRe R w p.aA ev) (gl : Zah Zbe 1 TSr U w p.globals gv) (hR : ∀ b, R b ∨ U b → w0.heap.size ≤ b ∧ b < w.heap.size ∧ b ≠ OB ∧ ¬ C b) (hC : ∀ b, C b → w0.heap.size ≤ b ∧ b < w.heap.size ∧ b ≠ OB) (hd : ∀ b, R b → ¬ U b) :
  CmS w0 (Zbh w OB 0 [.slice none 0 0, ev, gv, .int .i64 p.main, .slice none 0 0]) p OB (fun _ => False) R U C [] (.slice none 0 0) ev gv := by
 have k1 : Zb (fun y => y ≠ OB) w (Zbh w OB 0 [.slice none 0 0, ev, gv, .int .i64 p.main, .slice none 0 0]) := Zbn (fun h => h rfl) _ w 0 (Zb.refl _ _);have hs := k1.size;refine ⟨Znr _ hB hz, Zah.nil _ _ _ _ _, re.keep Zj.is (fun _ h => h) (k1.mono fun b hb => (hR b (.inl hb)).2.2.1), gl.keep Zt (fun _ h => h) (k1.mono fun b hb => (hR b (.inr hb)).2.2.1), lo, fun b hb => ?_, fun b hb => ?_, fun _ h => h.elim, hd, Zbg lo _ w 0 hl⟩
 ·rcases hb with hb | hb
  ·exact hb.elim
  ·obtain ⟨h1, h2, h3, h4⟩ := hR b hb;exact ⟨h1, by omega, h3, h4⟩
 ·obtain ⟨h1, h2, h3⟩ := hC b hb;exact ⟨h1, by omega, h3⟩
theorem CmS.push_keep {K : Nat → Prop} (hk : Zb (fun b => ¬ H b) X y) (hK : ∀ b, K b → ¬ H b ∧ b ≠ OB) (v : Value) : Zb K X (y.setCell ⟨OB, 0, none⟩ v) :=
 (hk.mono fun b hb => (hK b hb).1).set (fun hb => (hK OB hb).2 rfl) _ _
theorem Zri {F : Nat → Prop} (h1 : Za w0 w) (h2 : Za w0 x) (hs : w.heap.size ≤ x.heap.size) (hF : ∀ b, F b → b < w0.heap.size) : Zb F w x :=
 ⟨hs, fun b hb _ => (h2.block b (hF b hb)).trans (h1.block b (hF b hb)).symm⟩
end
theorem SS.carry {w x : World} {MB : Nat} {G : Nat → Prop} {L : List Ze} {ls : List Zak} {m : Nat} {bs : List Int} (h : SS w w MB G G L ls m bs) (hk : Zb (fun b => b = MB ∨ G b) w x) : SS x x MB G G L ls m bs := by
 obtain ⟨Gc, Gl, Gb, cv, lv, bv, hs, hG⟩ := h.st;exact ⟨⟨Gc, Gl, Gb, cv, lv, bv, hs.keep (hk.mono fun b hb => hb.imp id fun h => hG b h), hG⟩, Tn.refl _ _, fun _ h => .inl h, fun b hb => Nat.lt_of_lt_of_le (h.lt b hb) hk.size⟩
theorem CmS.ss {w0 w x : World} {p : Zu} {OB MB : Nat} {H R U G G' : Nat → Prop} {crs : List Zar} {rv ev gv : Value} {L : List Ze} {ls : List Zak} {m : Nat} {bs : List Int} (h : CmS w0 w p OB H R U (fun b => b = MB ∨ G b) crs rv ev gv) (k : SS w x MB G G' L ls m bs) : CmS w0 x p OB H R U (fun b => b = MB ∨ G' b) crs rv ev gv :=
 h.coder k.tn (fun b hb => by
  rcases hb with hb | hb
  ·exact .inl (.inl hb)
  ·exact (k.gG b hb).imp .inr id) (fun b hb => by
  rcases hb with rfl | hb
  ·exact k.below
  ·exact k.lt b hb)
def CmI (N : Nat) (w0 u : World) (p : Zu) (CB OB : Nat) (R U : Nat → Prop) (ev gv : Value) (j : Nat) : Prop :=
 ∃ (G H : Nat → Prop) (crs : List Zar) (rv iv : Value) (L0 : List Ze) (ov : Bool), CmS w0 u p OB H R U (fun b => b = CB ∨ G b) crs rv ev gv ∧ ImK u CB G (cgA (N + 1) p j).2 L0 iv ov ∧ crs.length = j ∧ ((cgA (N + 1) p j).2.length ≤ 60000 → crs = (cgA (N + 1) p j).1)
def CmJ (N : Nat) (w0 u : World) (p : Zu) (MB OB : Nat) (R U : Nat → Prop) (ev gv : Value) (j : Nat) : Prop :=
 ∃ (G H : Nat → Prop) (rv : Value), CmS w0 u p OB H R U (fun b => b = MB ∨ G b) (cgA (N + 1) p j).1 rv ev gv ∧ SS u u MB G G (cgA (N + 1) p j).2 [] 0 []
end
section
open Go
def Has : List (Nat × Value) → Array Value → Prop
 | [], _ => True
 | (k, v) :: t, A => A[k]? = some v ∧ Has t A
structure Fr (n : Nat) (ks : List (Nat × Value)) (a : Act) : Prop where
 size : a.tmps.size = n
 defers : a.defers = []
 has : Has ks a.tmps
theorem Zrj (l : List Value) : (List.range l.length).map (fun k => l.getD k undef) = l := by
 refine List.ext_getElem (by simp) fun i h1 h2 => ?_;simp at h1;simp [h1]
theorem Fr.lit {n : Nat} {ks : List (Nat × Value)} {a : Act} (h : Fr n ks a) : ∃ f : Nat → Value, a = ⟨((List.range n).map f).toArray, []⟩ ∧ ∀ k, k < n → a.tmps[k]? = some (f k) := by
 obtain ⟨⟨l⟩, d⟩ := a;obtain ⟨h1, rfl, -⟩ := h;have h1 : l.length = n := h1;refine ⟨fun k => l.getD k undef, ?_, fun k hk => ?_⟩
 ·rw [← h1, Zrj]
 ·rw [List.getElem?_toArray];show l[k]? = some (l.getD k undef);rw [List.getD_eq_getElem?_getD, List.getElem?_eq_getElem (by omega)]
  rfl
theorem Zf {A : Array Value} {k : Nat} {v u : Value} (h : A[k]? = some v) (h2 : A[k]? = some u) : u = v := by
 rw [h] at h2;exact (Option.some.inj h2).symm
def Zhx (R : Act → World → Prop) : Exit → Act → World → Prop
 | .normal, a, w => R a w
 | _, _, _ => False
variable {P : Program} {c : Code} {R K : Act → World → Prop} {Q : Exit → Act → World → Prop} {a : Act} {w : World}
theorem Zc0 (h : c.wp P (Zhx R) a w) (k : ∀ a' w', R a' w' → K a' w') : c.wp P (Exit.then K Q) a w :=
 wp_mono h fun e a' w' hr => by cases e with | normal => exact k a' w' hr | _ => exact hr.elim
def cL : Code → Code | .seq a _ => a | c => c
def cR : Code → Code | .seq _ b => b | c => c
def cB : Code → Code | .block _ c => c | .loop c => c | c => c
def cT : Code → Code | .cond _ a _ => a | c => c
def Zch (f : Func) : Code := match f.body with | some c => c | none => .skip
end
section
open Go
def Zjk (R Rr : Act → World → Prop) : Exit → Act → World → Prop
 | .normal, a, w => R a w
 | .ret, a, w => Rr a w
 | _, _, _ => False
variable {P : Program} {c : Code} {R Rr K : Act → World → Prop} {Q : Exit → Act → World → Prop} {a : Act} {w : World}
theorem Zew (h : c.wp P (Zjk R Rr) a w) (k : ∀ a' w', R a' w' → K a' w') (k2 : ∀ a' w', Rr a' w' → Q .ret a' w') : c.wp P (Exit.then K Q) a w :=
 wp_mono h fun e a' w' hr => by cases e with | normal => exact k a' w' hr | ret => exact k2 a' w' hr | _ => exact hr.elim
end
section
structure PgV (N : Nat) (F : Nat → Prop) (w : World) (p : Zu) (A1 A2 A3 : Option Addr) (k1 k2 k3 : Nat) : Prop where
 ro : Z5 (Zby (Zds N)) 9 F w p.routines (.slice A1 p.routines.length k1)
 re : Z5 Zao 3 F w p.aA (.slice A2 p.aA.length k2)
 gl : Z5 Zbe 1 F w p.globals (.slice A3 p.globals.length k3)
 m : Zi p.main
theorem PgV.later {N : Nat} {F : Nat → Prop} {w x : World} {p : Zu} {A1 A2 A3 : Option Addr} {k1 k2 k3 : Nat} (h : PgV N F w p A1 A2 A3 k1 k2 k3) (hl : Za w x) : PgV N F x p A1 A2 A3 k1 k2 k3 :=
 ⟨h.ro.keep (Za9 (Zad N)) (fun _ h => h) (Zb.later hl), h.re.keep Z7 (fun _ h => h) (Zb.later hl), h.gl.keep Zt (fun _ h => h) (Zb.later hl), h.m⟩
structure PgB (N : Nat) (F : Nat → Prop) (w : World) (p : Zu) (A1 A2 A3 : Option Addr) (k1 k2 k3 : Nat) (PB : Nat) : Prop where
 pg : PgV N F w p A1 A2 A3 k1 k2 k3
 pb : w.heap[PB]? = some (.cells #[.slice A1 p.routines.length k1, .slice A2 p.aA.length k2, .slice A3 p.globals.length k3, .int .i64 p.main] 37 (0, 0))
 sp : Spc w
theorem PgB.later {N : Nat} {F : Nat → Prop} {w x : World} {p : Zu} {A1 A2 A3 : Option Addr} {k1 k2 k3 PB : Nat} (h : PgB N F w p A1 A2 A3 k1 k2 k3 PB) (hl : Za w x) : PgB N F x p A1 A2 A3 k1 k2 k3 PB :=
 ⟨h.pg.later hl, (hl.block _ (Zc h.pb)).trans h.pb, h.sp.below hl⟩
def ph (p : Zu) : Bool := decide (1 ≤ p.routines.length) && (decide (p.routines.length ≤ 12) && (decide (p.globals.length ≤ 12) && ((p.aA.all Zeu && decide (p.aA.length ≤ 8)) && (p.globals.all Zba && (decide (0 ≤ p.main) && (decide (p.main < (p.routines.length : Int)) && ((p.routines.map (·.params)).getD p.main.toNat 1 == 0)))))))
def FpX (PB : Nat) (a : Act) : Prop := Fr 123 [(1, .pointer (some ⟨PB, 0, none⟩)), (2, .bool false)] a
section
variable {PB : Nat} {a : Act}
theorem FpX.opn (h : FpX PB a) : ∃ f : Nat → Value, a = ⟨#[f 0, .pointer (some ⟨PB, 0, none⟩), .bool false, f 3, f 4, f 5, f 6, f 7, f 8, f 9, f 10, f 11, f 12, f 13, f 14, f 15, f 16, f 17, f 18, f 19, f 20, f 21, f 22, f 23, f 24, f 25, f 26, f 27, f 28, f 29, f 30, f 31, f 32, f 33, f 34, f 35, f 36, f 37, f 38, f 39, f 40, f 41, f 42, f 43, f 44, f 45, f 46, f 47, f 48, f 49, f 50, f 51, f 52, f 53, f 54, f 55, f 56, f 57, f 58, f 59, f 60, f 61, f 62, f 63, f 64, f 65, f 66, f 67, f 68, f 69, f 70, f 71, f 72, f 73, f 74, f 75, f 76, f 77, f 78, f 79, f 80, f 81, f 82, f 83, f 84, f 85, f 86, f 87, f 88, f 89, f 90, f 91, f 92, f 93, f 94, f 95, f 96, f 97, f 98, f 99, f 100, f 101, f 102, f 103, f 104, f 105, f 106, f 107, f 108, f 109, f 110, f 111, f 112, f 113, f 114, f 115, f 116, f 117, f 118, f 119, f 120, f 121, f 122], []⟩ := by
 obtain ⟨f, e, hf⟩ := Fr.lit h;obtain ⟨h1, h2, -⟩ := h.has;refine ⟨f, e.trans ?_⟩;have k1 := Zf h1 (hf 1 (by omega));have k2 := Zf h2 (hf 2 (by omega));rw [← k1];rw [← k2]
 rfl
theorem FpX.mk' {A : Array Value} (hs : A.size = 123) (h1 : A[1]? = some (.pointer (some ⟨PB, 0, none⟩))) (h2 : A[2]? = some (.bool false)) : FpX PB ⟨A, []⟩ := ⟨hs, rfl, h1, h2, trivial⟩
end
def FpA (PB : Nat) (tt : Bool) (a : Act) : Prop := Fr 123 [(1, .pointer (some ⟨PB, 0, none⟩)), (2, .bool false), (57, .bool tt)] a
section
variable {PB : Nat} {tt : Bool} {a : Act}
theorem FpA.opn (h : FpA PB tt a) : ∃ f : Nat → Value, a = ⟨#[f 0, .pointer (some ⟨PB, 0, none⟩), .bool false, f 3, f 4, f 5, f 6, f 7, f 8, f 9, f 10, f 11, f 12, f 13, f 14, f 15, f 16, f 17, f 18, f 19, f 20, f 21, f 22, f 23, f 24, f 25, f 26, f 27, f 28, f 29, f 30, f 31, f 32, f 33, f 34, f 35, f 36, f 37, f 38, f 39, f 40, f 41, f 42, f 43, f 44, f 45, f 46, f 47, f 48, f 49, f 50, f 51, f 52, f 53, f 54, f 55, f 56, .bool tt, f 58, f 59, f 60, f 61, f 62, f 63, f 64, f 65, f 66, f 67, f 68, f 69, f 70, f 71, f 72, f 73, f 74, f 75, f 76, f 77, f 78, f 79, f 80, f 81, f 82, f 83, f 84, f 85, f 86, f 87, f 88, f 89, f 90, f 91, f 92, f 93, f 94, f 95, f 96, f 97, f 98, f 99, f 100, f 101, f 102, f 103, f 104, f 105, f 106, f 107, f 108, f 109, f 110, f 111, f 112, f 113, f 114, f 115, f 116, f 117, f 118, f 119, f 120, f 121, f 122], []⟩ := by
 obtain ⟨f, e, hf⟩ := Fr.lit h;obtain ⟨h1, h2, h57, -⟩ := h.has;refine ⟨f, e.trans ?_⟩;have k1 := Zf h1 (hf 1 (by omega));have k2 := Zf h2 (hf 2 (by omega));have k57 := Zf h57 (hf 57 (by omega));rw [← k1];rw [← k2];rw [← k57]
 rfl
theorem FpA.mk' {A : Array Value} (hs : A.size = 123) (h1 : A[1]? = some (.pointer (some ⟨PB, 0, none⟩))) (h2 : A[2]? = some (.bool false)) (h57 : A[57]? = some (.bool tt)) : FpA PB tt ⟨A, []⟩ := ⟨hs, rfl, h1, h2, h57, trivial⟩
end
noncomputable def ipHd : Code := cL (cL (cR (Zch Tryz.f32)))
end
section
def FmX (PB ZB CB OB : Nat) (a : Act) : Prop := Fr 69 [(1, .pointer (some ⟨PB, 0, none⟩)), (2, .pointer (some ⟨ZB, 0, none⟩)), (3, .bool false), (4, .pointer (some ⟨CB, 0, none⟩)), (5, .pointer (some ⟨OB, 0, none⟩))] a
section
variable {PB ZB CB OB : Nat} {a : Act}
theorem FmX.opn (h : FmX PB ZB CB OB a) : ∃ f : Nat → Value, a = ⟨#[f 0, .pointer (some ⟨PB, 0, none⟩), .pointer (some ⟨ZB, 0, none⟩), .bool false, .pointer (some ⟨CB, 0, none⟩), .pointer (some ⟨OB, 0, none⟩), f 6, f 7, f 8, f 9, f 10, f 11, f 12, f 13, f 14, f 15, f 16, f 17, f 18, f 19, f 20, f 21, f 22, f 23, f 24, f 25, f 26, f 27, f 28, f 29, f 30, f 31, f 32, f 33, f 34, f 35, f 36, f 37, f 38, f 39, f 40, f 41, f 42, f 43, f 44, f 45, f 46, f 47, f 48, f 49, f 50, f 51, f 52, f 53, f 54, f 55, f 56, f 57, f 58, f 59, f 60, f 61, f 62, f 63, f 64, f 65, f 66, f 67, f 68], []⟩ := by
 obtain ⟨f, e, hf⟩ := Fr.lit h;obtain ⟨h1, h2, h3, h4, h5, -⟩ := h.has;refine ⟨f, e.trans ?_⟩;have k1 := Zf h1 (hf 1 (by omega));have k2 := Zf h2 (hf 2 (by omega));have k3 := Zf h3 (hf 3 (by omega));have k4 := Zf h4 (hf 4 (by omega));have k5 := Zf h5 (hf 5 (by omega));rw [← k1];rw [← k2];rw [← k3];rw [← k4];rw [← k5]
 rfl
theorem FmX.mk' {A : Array Value} (hs : A.size = 69) (h1 : A[1]? = some (.pointer (some ⟨PB, 0, none⟩))) (h2 : A[2]? = some (.pointer (some ⟨ZB, 0, none⟩))) (h3 : A[3]? = some (.bool false)) (h4 : A[4]? = some (.pointer (some ⟨CB, 0, none⟩))) (h5 : A[5]? = some (.pointer (some ⟨OB, 0, none⟩))) : FmX PB ZB CB OB ⟨A, []⟩ := ⟨hs, rfl, h1, h2, h3, h4, h5, trivial⟩
end
def FmL (PB ZB CB OB : Nat) (A1 : Option Addr) (nr k1 j : Nat) (a : Act) : Prop := Fr 69 [(1, .pointer (some ⟨PB, 0, none⟩)), (2, .pointer (some ⟨ZB, 0, none⟩)), (3, .bool false), (4, .pointer (some ⟨CB, 0, none⟩)), (5, .pointer (some ⟨OB, 0, none⟩)), (26, .slice A1 nr k1), (27, .int .i64 (nr : Nat)), (28, .int .i64 (j : Nat))] a
section
variable {PB ZB CB OB : Nat} {A1 : Option Addr} {nr k1 j : Nat} {a : Act}
theorem FmL.opn (h : FmL PB ZB CB OB A1 nr k1 j a) : ∃ f : Nat → Value, a = ⟨#[f 0, .pointer (some ⟨PB, 0, none⟩), .pointer (some ⟨ZB, 0, none⟩), .bool false, .pointer (some ⟨CB, 0, none⟩), .pointer (some ⟨OB, 0, none⟩), f 6, f 7, f 8, f 9, f 10, f 11, f 12, f 13, f 14, f 15, f 16, f 17, f 18, f 19, f 20, f 21, f 22, f 23, f 24, f 25, .slice A1 nr k1, .int .i64 (nr : Nat), .int .i64 (j : Nat), f 29, f 30, f 31, f 32, f 33, f 34, f 35, f 36, f 37, f 38, f 39, f 40, f 41, f 42, f 43, f 44, f 45, f 46, f 47, f 48, f 49, f 50, f 51, f 52, f 53, f 54, f 55, f 56, f 57, f 58, f 59, f 60, f 61, f 62, f 63, f 64, f 65, f 66, f 67, f 68], []⟩ := by
 obtain ⟨f, e, hf⟩ := Fr.lit h;obtain ⟨h1, h2, h3, h4, h5, h26, h27, h28, -⟩ := h.has;refine ⟨f, e.trans ?_⟩;have k1 := Zf h1 (hf 1 (by omega));have k2 := Zf h2 (hf 2 (by omega));have k3 := Zf h3 (hf 3 (by omega));have k4 := Zf h4 (hf 4 (by omega));have k5 := Zf h5 (hf 5 (by omega));have k26 := Zf h26 (hf 26 (by omega));have k27 := Zf h27 (hf 27 (by omega));have k28 := Zf h28 (hf 28 (by omega));rw [← k1];rw [← k2];rw [← k3];rw [← k4];rw [← k5];rw [← k26];rw [← k27];rw [← k28]
 rfl
theorem FmL.mk' {A : Array Value} (hs : A.size = 69) (h1 : A[1]? = some (.pointer (some ⟨PB, 0, none⟩))) (h2 : A[2]? = some (.pointer (some ⟨ZB, 0, none⟩))) (h3 : A[3]? = some (.bool false)) (h4 : A[4]? = some (.pointer (some ⟨CB, 0, none⟩))) (h5 : A[5]? = some (.pointer (some ⟨OB, 0, none⟩))) (h26 : A[26]? = some (.slice A1 nr k1)) (h27 : A[27]? = some (.int .i64 (nr : Nat))) (h28 : A[28]? = some (.int .i64 (j : Nat))) : FmL PB ZB CB OB A1 nr k1 j ⟨A, []⟩ := ⟨hs, rfl, h1, h2, h3, h4, h5, h26, h27, h28, trivial⟩
end
def FnX (PB ZB MB OB : Nat) (a : Act) : Prop := Fr 68 [(1, .pointer (some ⟨PB, 0, none⟩)), (2, .pointer (some ⟨ZB, 0, none⟩)), (3, .bool false), (4, .pointer (some ⟨OB, 0, none⟩)), (5, .pointer (some ⟨MB, 0, none⟩))] a
section
variable {PB ZB MB OB : Nat} {a : Act}
theorem FnX.opn (h : FnX PB ZB MB OB a) : ∃ f : Nat → Value, a = ⟨#[f 0, .pointer (some ⟨PB, 0, none⟩), .pointer (some ⟨ZB, 0, none⟩), .bool false, .pointer (some ⟨OB, 0, none⟩), .pointer (some ⟨MB, 0, none⟩), f 6, f 7, f 8, f 9, f 10, f 11, f 12, f 13, f 14, f 15, f 16, f 17, f 18, f 19, f 20, f 21, f 22, f 23, f 24, f 25, f 26, f 27, f 28, f 29, f 30, f 31, f 32, f 33, f 34, f 35, f 36, f 37, f 38, f 39, f 40, f 41, f 42, f 43, f 44, f 45, f 46, f 47, f 48, f 49, f 50, f 51, f 52, f 53, f 54, f 55, f 56, f 57, f 58, f 59, f 60, f 61, f 62, f 63, f 64, f 65, f 66, f 67], []⟩ := by
 obtain ⟨f, e, hf⟩ := Fr.lit h;obtain ⟨h1, h2, h3, h4, h5, -⟩ := h.has;refine ⟨f, e.trans ?_⟩;have k1 := Zf h1 (hf 1 (by omega));have k2 := Zf h2 (hf 2 (by omega));have k3 := Zf h3 (hf 3 (by omega));have k4 := Zf h4 (hf 4 (by omega));have k5 := Zf h5 (hf 5 (by omega));rw [← k1];rw [← k2];rw [← k3];rw [← k4];rw [← k5]
 rfl
theorem FnX.mk' {A : Array Value} (hs : A.size = 68) (h1 : A[1]? = some (.pointer (some ⟨PB, 0, none⟩))) (h2 : A[2]? = some (.pointer (some ⟨ZB, 0, none⟩))) (h3 : A[3]? = some (.bool false)) (h4 : A[4]? = some (.pointer (some ⟨OB, 0, none⟩))) (h5 : A[5]? = some (.pointer (some ⟨MB, 0, none⟩))) : FnX PB ZB MB OB ⟨A, []⟩ := ⟨hs, rfl, h1, h2, h3, h4, h5, trivial⟩
end
def FnL (PB ZB MB OB : Nat) (j : Nat) (a : Act) : Prop := Fr 68 [(1, .pointer (some ⟨PB, 0, none⟩)), (2, .pointer (some ⟨ZB, 0, none⟩)), (3, .bool false), (4, .pointer (some ⟨OB, 0, none⟩)), (5, .pointer (some ⟨MB, 0, none⟩)), (6, .int .i64 (j : Nat))] a
section
variable {PB ZB MB OB : Nat} {j : Nat} {a : Act}
theorem FnL.opn (h : FnL PB ZB MB OB j a) : ∃ f : Nat → Value, a = ⟨#[f 0, .pointer (some ⟨PB, 0, none⟩), .pointer (some ⟨ZB, 0, none⟩), .bool false, .pointer (some ⟨OB, 0, none⟩), .pointer (some ⟨MB, 0, none⟩), .int .i64 (j : Nat), f 7, f 8, f 9, f 10, f 11, f 12, f 13, f 14, f 15, f 16, f 17, f 18, f 19, f 20, f 21, f 22, f 23, f 24, f 25, f 26, f 27, f 28, f 29, f 30, f 31, f 32, f 33, f 34, f 35, f 36, f 37, f 38, f 39, f 40, f 41, f 42, f 43, f 44, f 45, f 46, f 47, f 48, f 49, f 50, f 51, f 52, f 53, f 54, f 55, f 56, f 57, f 58, f 59, f 60, f 61, f 62, f 63, f 64, f 65, f 66, f 67], []⟩ := by
 obtain ⟨f, e, hf⟩ := Fr.lit h;obtain ⟨h1, h2, h3, h4, h5, h6, -⟩ := h.has;refine ⟨f, e.trans ?_⟩;have k1 := Zf h1 (hf 1 (by omega));have k2 := Zf h2 (hf 2 (by omega));have k3 := Zf h3 (hf 3 (by omega));have k4 := Zf h4 (hf 4 (by omega));have k5 := Zf h5 (hf 5 (by omega));have k6 := Zf h6 (hf 6 (by omega));rw [← k1];rw [← k2];rw [← k3];rw [← k4];rw [← k5];rw [← k6]
 rfl
theorem FnL.mk' {A : Array Value} (hs : A.size = 68) (h1 : A[1]? = some (.pointer (some ⟨PB, 0, none⟩))) (h2 : A[2]? = some (.pointer (some ⟨ZB, 0, none⟩))) (h3 : A[3]? = some (.bool false)) (h4 : A[4]? = some (.pointer (some ⟨OB, 0, none⟩))) (h5 : A[5]? = some (.pointer (some ⟨MB, 0, none⟩))) (h6 : A[6]? = some (.int .i64 (j : Nat))) : FnL PB ZB MB OB j ⟨A, []⟩ := ⟨hs, rfl, h1, h2, h3, h4, h5, h6, trivial⟩
end
noncomputable def cmLp : Code := cR (cL (cR (cR (cR (cR (Zch Tryz.f8))))))
noncomputable def cnLp : Code := cR (cL (cR (cR (cR (cR (Zch Tryz.f6))))))
theorem Zrk : (Tryz.prog.info? TCr).map (fun i => (i.zero, i.size, i.bytes)) = some (some (.agg #[.string ⟨#[]⟩, .int .i64 0, .int .i64 0, .int .i64 0]), 4, 40) := by kernel_rfl
end
section
section
variable {S K : Za6 Zd} {mK : Zd → Int → Zd} {cK sK : Zd → Nat}
theorem Zff (l : List ByteArray) (v : Value) (F : Nat → Prop) (w : World) (k : Int) (hl0 : 0 ≤ k) (hl1 : k ≤ 1048576) (hr : Z5 Zbe 1 F w l v) :
  Calls Tryz.prog 23 #[v, .int .i64 k] w fun e w' => e = .returned (.int .i64 (Zck (Zv ByteArray.size l) k)) ∧ Below w.heap.size w w' := by
 obtain ⟨A, c, rfl, hc, hcm, hel⟩ := hr;unfold maxLen at hcm;have HEL := zh hel;clear hel;have hb1 : (l.length : Int) ≤ 9223372036854775807 := by omega
 by_cases h0 : k < (l.length : Int)
 ·have HL := zh (Zan (n := Zv ByteArray.size l) (l := k) (by unfold Zv; omega));have t1 : decide (k - (l.length : Int) < 0) = true := by simp; omega
  go_enter Tryz.func23, Tryz.ntmps23;go_wp2_with fail;go_ret;exact ⟨Zae HL.o.symm, Below.refl _ _⟩
 ·have t1 : decide (k - (l.length : Int) < 0) = false := by simp; omega
  go_enter Tryz.func23, Tryz.ntmps23;go_wp2_with fail
  go_loopw [1, 5] (fun lv i wr => ∃ j : Nat, j ≤ l.length ∧ i = .int .i64 j ∧ lv = .int .i64 (k - l.length - Za8 ByteArray.size (l.take j)) ∧ 0 ≤ k - l.length - Za8 ByteArray.size (l.take j) ∧ Below w.heap.size w wr) (fun _ i _ => l.length - (intOf i).toNat)
  case atStart => exact ⟨0, Nat.zero_le _, rfl, by simp [Za8], by simp [Za8]; omega, Below.refl _ _⟩
  case round =>
  obtain ⟨j, hj, rfl, rfl, hd, hbel⟩ := hrel;have hsz := hbel.size;have hd1 : k - l.length - Za8 ByteArray.size (l.take j) ≤ 1048576 := by omega
  obtain ⟨d, hde⟩ : ∃ d, k - l.length - Za8 ByteArray.size (l.take j) = d := ⟨_, rfl⟩;rw [hde] at hd hd1 ⊢;have HDE := zh hde;clear hde
  by_cases hlt : j < l.length
  ·obtain ⟨b, o, cs, rfl, hF, hbl, hE, hcell⟩ := HEL.o j hlt;have hE' := hE;obtain ⟨rfl, hsm⟩ := hE;have hlt' : (j : Int) < l.length := by omega
   have HS := zh (Zeq ByteArray.size l j hlt);have HT := zh (Zgv ByteArray.size l (j + 1));have e0 := (hbel.cell (p := ⟨b, o + j * 1 + 0, none⟩) hbl).trans (hcell 0 _ rfl);simp only [Nat.mul_one, Nat.add_zero] at e0;have hsm' : (l[j].size : Int) ≤ 9223372036854775807 := by unfold maxLen at hsm; omega
   obtain ⟨s, hs⟩ : ∃ s, l[j] = s := ⟨_, rfl⟩;rw [hs] at e0 hsm' HS;clear hcell hsm hs
   by_cases hin : (s.size : Int) ≤ d
   ·have t2 : decide (d - (s.size : Int) < 0) = false := by simp; omega
    go_wp2_with fail
    go_roundw
    case rel => exact ⟨j + 1, by omega, by go_num, by rw [HS.o, ← HDE.o]; congr 1; omega, by rw [HS.o]; have := HDE.o; omega, hbel⟩
    case measure => simp [intOf]; omega
   ·have t2 : decide (d - (s.size : Int) < 0) = true := by simp; omega
    have HL : Hd (Zck (Zv ByteArray.size l) k = -1) := zh (Zan (by have := HS.o; have := HT.o; have := HDE.o; unfold Zv; omega));go_wp2_with fail;go_ret;exact ⟨Zae HL.o.symm, hbel⟩
  ·have hjl : j = l.length := by omega
   have HL : Hd (Zck (Zv ByteArray.size l) k = d) := zh (by
    have := HDE.o;rw [hjl, List.take_length] at this;unfold Zv;rw [Za3 (by omega)]; omega)
   go_wp2_with fail;go_ret;exact ⟨Zae HL.o.symm, hbel⟩
theorem Zix (r : Zam) (cs : List Value) (F : Nat → Prop) (w : World) (k : Int) (hl0 : 0 ≤ k) (hl1 : k ≤ 1048576) (h : Zao F w r cs) :
  Calls Tryz.prog 64 #[.agg cs.toArray, .int .i64 k] w fun e w' => e = .returned (.int .i64 (Zck (Zo r) k)) ∧ Below w.heap.size w w' := by
 obtain ⟨aE, rfl, aK, aL, aM⟩ := h;have HE := zh (show Zo r = r.name.size + (Zv ByteArray.size r.fields) from rfl);have hbname : (r.name.size : Int) ≤ 9223372036854775807 := by unfold maxLen at aK; omega
 have Hfields := zh aL;clear aL;have HBA := zh ((Below.refl w.heap.size w).alloc (Nat.le_refl _) (.cells #[.string r.name, aE, .int .i64 r.line] 126));have HWA := zh (heap_alloc_new w (.cells #[.string r.name, aE, .int .i64 r.line] 126));go_enter Tryz.func64, Tryz.ntmps64
 by_cases c0 : k < ((r.name.size : Nat) : Int)
 ·have HL := zh (Zan (n := Zo r) (l := k) (by have := HE.o; omega));have t0 : decide (k - ((r.name.size : Nat) : Int) < 0) = true := by simp; omega
  go_wp2_with fail;go_ret;exact ⟨Zae HL.o.symm, HBA.o⟩
 have t0 : decide (k - ((r.name.size : Nat) : Int) < 0) = false := by simp; omega
 obtain ⟨d0, hd0⟩ : ∃ d, k - ((r.name.size : Nat) : Int) = d := ⟨_, rfl⟩;rw [hd0] at t0;have HD := zh (show d0 = k - (((r.name.size) : Nat) : Int) by omega);have n0 : 0 ≤ d0 := by omega
 have m0 : d0 ≤ 1048576 := by omega
 clear c0;go_wp2_with fail;refine (Zff r.fields aE F _ d0 n0 m0 (Hfields.o.later Zt HBA.o)).mono ?_;rintro e w1 ⟨rfl, hb1⟩;have HB1 := zh (HBA.o.trans (Below.mono hb1 HBA.o.size));have HW1 := zC hb1 HWA;have q1_0 := cq HW1.o 0;simp only [nD, nE, nF] at q1_0;have q1_1 := cq HW1.o 1;simp only [nD, nE, nF] at q1_1;have q1_2 := cq HW1.o 2;simp only [nD, nE, nF] at q1_2;clear hb1
 by_cases c1 : d0 < ((Zv ByteArray.size r.fields : Nat) : Int)
 ·rw [Zan c1];have HL := zh (Zan (n := Zo r) (l := k) (by have := HE.o; have := HD.o; omega));go_wp2_with fail;go_ret;exact ⟨Zae HL.o.symm, HB1.o⟩
 rw [Za3 (by omega)];have t1 : decide (d0 - ((Zv ByteArray.size r.fields : Nat) : Int) < 0) = false := by simp; omega
 obtain ⟨d1, hd1⟩ : ∃ d, d0 - ((Zv ByteArray.size r.fields : Nat) : Int) = d := ⟨_, rfl⟩;rw [hd1] at t1 ⊢;replace HD := zh (show d1 = k - (((r.name.size) + (Zv ByteArray.size r.fields) : Nat) : Int) by have := HD.o; omega);have n1 : 0 ≤ d1 := by omega
 have m1 : d1 ≤ 1048576 := by omega
 clear hd1;clear c1;have HL := zh (Za3 (n := Zo r) (l := k) (by have := HE.o; have := HD.o; omega));go_wp2_with fail;go_ret;exact ⟨Zae (by rw [HL.o]; have := HE.o; have := HD.o; omega), HB1.o⟩
theorem Zig (l : List Zam) (v : Value) (F : Nat → Prop) (w : World) (k : Int) (hl0 : 0 ≤ k) (hl1 : k ≤ 1048576) (hr : Z5 Zao 3 F w l v) :
  Calls Tryz.prog 22 #[v, .int .i64 k] w fun e w' => e = .returned (.int .i64 (Zck (Zv Zo l) k)) ∧ Below w.heap.size w w' := by
 obtain ⟨A, c, rfl, hc, hcm, hel⟩ := hr;unfold maxLen at hcm;have HEL := zh hel;clear hel;have hb1 : (l.length : Int) ≤ 9223372036854775807 := by omega
 by_cases h0 : k < (l.length : Int)
 ·have HL := zh (Zan (n := Zv Zo l) (l := k) (by unfold Zv; omega));have t1 : decide (k - (l.length : Int) < 0) = true := by simp; omega
  go_enter Tryz.func22, Tryz.ntmps22;go_wp2_with fail;go_ret;exact ⟨Zae HL.o.symm, Below.refl _ _⟩
 ·have t1 : decide (k - (l.length : Int) < 0) = false := by simp; omega
  go_enter Tryz.func22, Tryz.ntmps22;go_wp2_with fail
  go_loopw [1, 5] (fun lv i wr => ∃ j : Nat, j ≤ l.length ∧ i = .int .i64 j ∧ lv = .int .i64 (k - l.length - Za8 Zo (l.take j)) ∧ 0 ≤ k - l.length - Za8 Zo (l.take j) ∧ Below w.heap.size w wr) (fun _ i _ => l.length - (intOf i).toNat)
  case atStart => exact ⟨0, Nat.zero_le _, rfl, by simp [Za8], by simp [Za8]; omega, Below.refl _ _⟩
  case round =>
  obtain ⟨j, hj, rfl, rfl, hd, hbel⟩ := hrel;have hsz := hbel.size;have hd1 : k - l.length - Za8 Zo (l.take j) ≤ 1048576 := by omega
  obtain ⟨d, hde⟩ : ∃ d, k - l.length - Za8 Zo (l.take j) = d := ⟨_, rfl⟩;rw [hde] at hd hd1 ⊢;have HDE := zh hde;clear hde
  by_cases hlt : j < l.length
  ·obtain ⟨b, o, cs, rfl, hF, hbl, hE, hcell⟩ := HEL.o j hlt;have hE' := hE;obtain ⟨aE, rfl, hfacts⟩ := hE;have hlt' : (j : Int) < l.length := by omega
   have HS := zh (Zeq Zo l j hlt);have HT := zh (Zgv Zo l (j + 1));have e0 := (hbel.cell (p := ⟨b, o + j * 3 + 0, none⟩) hbl).trans (hcell 0 _ rfl);have e1 := (hbel.cell (p := ⟨b, o + j * 3 + 1, none⟩) hbl).trans (hcell 1 _ rfl);have e2 := (hbel.cell (p := ⟨b, o + j * 3 + 2, none⟩) hbl).trans (hcell 2 _ rfl);simp only [Nat.mul_one, Nat.add_zero] at e0;have hE2 := Z7.keep (G := F) hE' (fun _ h => h) (Zb.later hbel);have HE2 := zh hE2;clear hE2 hE' hcell hfacts;go_wp2_with fail;refine (Zix l[j] _ F wr d hd hd1 HE2.o).mono ?_;rintro e w4 ⟨rfl, hb4⟩;have hb5 : Below w.heap.size w w4 := hbel.trans (Below.mono hb4 hsz);clear hb4 e0 e1 e2
   by_cases hin : (Zo l[j] : Int) ≤ d
   ·rw [Za3 hin];have t2 : decide (d - (Zo l[j] : Int) < 0) = false := by simp; omega
    go_wp2_with fail
    go_roundw
    case rel => exact ⟨j + 1, by omega, by go_num, by rw [HS.o, ← HDE.o]; congr 1; omega, by rw [HS.o]; have := HDE.o; omega, hb5⟩
    case measure => simp [intOf]; omega
   ·rw [Zan (by omega)];have HL : Hd (Zck (Zv Zo l) k = -1) := zh (Zan (by have := HS.o; have := HT.o; have := HDE.o; unfold Zv; omega));go_wp2_with fail;go_ret;exact ⟨Zae HL.o.symm, hb5⟩
  ·have hjl : j = l.length := by omega
   have HL : Hd (Zck (Zv Zo l) k = d) := zh (by
    have := HDE.o;rw [hjl, List.take_length] at this;unfold Zv;rw [Za3 (by omega)]; omega)
   go_wp2_with fail;go_ret;exact ⟨Zae HL.o.symm, hbel⟩
def Zkt (K : Za6 Zd) (sK : Zd → Nat) : Prop := ∀ (l : List Zd) (v : Value) (F : Nat → Prop) (w : World) (k : Int) (hl0 : 0 ≤ k) (hl1 : k ≤ 1048576) (hr : Z5 K 6 F w l v),
 Calls Tryz.prog 157 #[v, .int .i64 k] w fun e w' => e = .returned (.int .i64 (Zck (Zv sK l) k)) ∧ Below w.heap.size w w'
theorem Zku (hK : Zb2 K 6) (hkid : Zkt K sK) (r : Zd) (cs : List Value) (F : Nat → Prop) (w : World) (k : Int) (hl0 : 0 ≤ k) (hl1 : k ≤ 1048576) (h : (Zdf K) F w r cs) :
  Calls Tryz.prog 119 #[.agg cs.toArray, .int .i64 k] w fun e w' => e = .returned (.int .i64 (Zck ((Za2 sK) r) k)) ∧ Below w.heap.size w w' := by
 obtain ⟨vkids, rfl, aH, hop, aI, aM, aJ, hkids⟩ := h;have HE := zh (show (Za2 sK) r = r.text.size + (Zv sK r.kids) from rfl);have hbtext : (r.text.size : Int) ≤ 9223372036854775807 := by unfold maxLen at aJ; omega
 have Hkids := zh hkids;clear hkids;have HBA := zh ((Below.refl w.heap.size w).alloc (Nat.le_refl _) (.cells #[.int .i64 r.kind, .int .i64 r.op, .int .i64 r.aB, .int .i64 r.line, .string r.text, vkids] 122));have HWA := zh (heap_alloc_new w (.cells #[.int .i64 r.kind, .int .i64 r.op, .int .i64 r.aB, .int .i64 r.line, .string r.text, vkids] 122));go_enter Tryz.func119, Tryz.ntmps119
 by_cases c0 : k < ((r.text.size : Nat) : Int)
 ·have HL := zh (Zan (n := (Za2 sK) r) (l := k) (by have := HE.o; omega));have t0 : decide (k - ((r.text.size : Nat) : Int) < 0) = true := by simp; omega
  go_wp2_with fail;go_ret;exact ⟨Zae HL.o.symm, HBA.o⟩
 have t0 : decide (k - ((r.text.size : Nat) : Int) < 0) = false := by simp; omega
 obtain ⟨d0, hd0⟩ : ∃ d, k - ((r.text.size : Nat) : Int) = d := ⟨_, rfl⟩;rw [hd0] at t0;have HD := zh (show d0 = k - (((r.text.size) : Nat) : Int) by omega);have n0 : 0 ≤ d0 := by omega
 have m0 : d0 ≤ 1048576 := by omega
 clear c0;go_wp2_with fail;refine (hkid r.kids vkids F _ d0 n0 m0 (Hkids.o.later hK HBA.o)).mono ?_;rintro e w1 ⟨rfl, hb1⟩;have HB1 := zh (HBA.o.trans (Below.mono hb1 HBA.o.size));have HW1 := zC hb1 HWA;have q1_0 := cq HW1.o 0;simp only [nD, nE, nF] at q1_0;have q1_1 := cq HW1.o 1;simp only [nD, nE, nF] at q1_1;have q1_2 := cq HW1.o 2;simp only [nD, nE, nF] at q1_2;have q1_3 := cq HW1.o 3;simp only [nD, nE, nF] at q1_3;have q1_4 := cq HW1.o 4;simp only [nD, nE, nF] at q1_4;have q1_5 := cq HW1.o 5;simp only [nD, nE, nF] at q1_5;clear hb1
 by_cases c1 : d0 < ((Zv sK r.kids : Nat) : Int)
 ·rw [Zan c1];have HL := zh (Zan (n := (Za2 sK) r) (l := k) (by have := HE.o; have := HD.o; omega));go_wp2_with fail;go_ret;exact ⟨Zae HL.o.symm, HB1.o⟩
 rw [Za3 (by omega)];have t1 : decide (d0 - ((Zv sK r.kids : Nat) : Int) < 0) = false := by simp; omega
 obtain ⟨d1, hd1⟩ : ∃ d, d0 - ((Zv sK r.kids : Nat) : Int) = d := ⟨_, rfl⟩;rw [hd1] at t1 ⊢;replace HD := zh (show d1 = k - (((r.text.size) + (Zv sK r.kids) : Nat) : Int) by have := HD.o; omega);have n1 : 0 ≤ d1 := by omega
 have m1 : d1 ≤ 1048576 := by omega
 clear hd1;clear c1;have HL := zh (Za3 (n := (Za2 sK) r) (l := k) (by have := HE.o; have := HD.o; omega));go_wp2_with fail;go_ret;exact ⟨Zae (by rw [HL.o]; have := HE.o; have := HD.o; omega), HB1.o⟩
theorem Zmp (hK : Zb2 K 6) (hkid : Zkt K sK) : Zkt (Zdf K) (Za2 sK) := by
 intro l v F w k hl0 hl1 hr;obtain ⟨A, c, rfl, hc, hcm, hel⟩ := hr;unfold maxLen at hcm;have HEL := zh hel;clear hel;have hb1 : (l.length : Int) ≤ 9223372036854775807 := by omega
 by_cases h0 : k < (l.length : Int)
 ·have HL := zh (Zan (n := Zv (Za2 sK) l) (l := k) (by unfold Zv; omega));have t1 : decide (k - (l.length : Int) < 0) = true := by simp; omega
  go_enter Tryz.func157, Tryz.ntmps157;go_wp2_with fail;go_ret;exact ⟨Zae HL.o.symm, Below.refl _ _⟩
 ·have t1 : decide (k - (l.length : Int) < 0) = false := by simp; omega
  go_enter Tryz.func157, Tryz.ntmps157;go_wp2_with fail
  go_loopw [1, 5] (fun lv i wr => ∃ j : Nat, j ≤ l.length ∧ i = .int .i64 j ∧ lv = .int .i64 (k - l.length - Za8 (Za2 sK) (l.take j)) ∧ 0 ≤ k - l.length - Za8 (Za2 sK) (l.take j) ∧ Below w.heap.size w wr) (fun _ i _ => l.length - (intOf i).toNat)
  case atStart => exact ⟨0, Nat.zero_le _, rfl, by simp [Za8], by simp [Za8]; omega, Below.refl _ _⟩
  case round =>
  obtain ⟨j, hj, rfl, rfl, hd, hbel⟩ := hrel;have hsz := hbel.size;have hd1 : k - l.length - Za8 (Za2 sK) (l.take j) ≤ 1048576 := by omega
  obtain ⟨d, hde⟩ : ∃ d, k - l.length - Za8 (Za2 sK) (l.take j) = d := ⟨_, rfl⟩;rw [hde] at hd hd1 ⊢;have HDE := zh hde;clear hde
  by_cases hlt : j < l.length
  ·obtain ⟨b, o, cs, rfl, hF, hbl, hE, hcell⟩ := HEL.o j hlt;have hE' := hE;obtain ⟨vkids, rfl, hfacts⟩ := hE;have hlt' : (j : Int) < l.length := by omega
   have HS := zh (Zeq (Za2 sK) l j hlt);have HT := zh (Zgv (Za2 sK) l (j + 1));have e0 := (hbel.cell (p := ⟨b, o + j * 6 + 0, none⟩) hbl).trans (hcell 0 _ rfl);have e1 := (hbel.cell (p := ⟨b, o + j * 6 + 1, none⟩) hbl).trans (hcell 1 _ rfl);have e2 := (hbel.cell (p := ⟨b, o + j * 6 + 2, none⟩) hbl).trans (hcell 2 _ rfl);have e3 := (hbel.cell (p := ⟨b, o + j * 6 + 3, none⟩) hbl).trans (hcell 3 _ rfl);have e4 := (hbel.cell (p := ⟨b, o + j * 6 + 4, none⟩) hbl).trans (hcell 4 _ rfl);have e5 := (hbel.cell (p := ⟨b, o + j * 6 + 5, none⟩) hbl).trans (hcell 5 _ rfl);simp only [Nat.mul_one, Nat.add_zero] at e0;have hE2 := (Zcl hK).keep (G := F) hE' (fun _ h => h) (Zb.later hbel);have HE2 := zh hE2;clear hE2 hE' hcell hfacts;go_wp2_with fail;refine (Zku hK hkid l[j] _ F wr d hd hd1 HE2.o).mono ?_;rintro e w4 ⟨rfl, hb4⟩;have hb5 : Below w.heap.size w w4 := hbel.trans (Below.mono hb4 hsz);clear hb4 e0 e1 e2 e3 e4 e5
   by_cases hin : ((Za2 sK) l[j] : Int) ≤ d
   ·rw [Za3 hin];have t2 : decide (d - ((Za2 sK) l[j] : Int) < 0) = false := by simp; omega
    go_wp2_with fail
    go_roundw
    case rel => exact ⟨j + 1, by omega, by go_num, by rw [HS.o, ← HDE.o]; congr 1; omega, by rw [HS.o]; have := HDE.o; omega, hb5⟩
    case measure => simp [intOf]; omega
   ·rw [Zan (by omega)];have HL : Hd (Zck (Zv (Za2 sK) l) k = -1) := zh (Zan (by have := HS.o; have := HT.o; have := HDE.o; unfold Zv; omega));go_wp2_with fail;go_ret;exact ⟨Zae HL.o.symm, hb5⟩
  ·have hjl : j = l.length := by omega
   have HL : Hd (Zck (Zv (Za2 sK) l) k = d) := zh (by
    have := HDE.o;rw [hjl, List.take_length] at this;unfold Zv;rw [Za3 (by omega)]; omega)
   go_wp2_with fail;go_ret;exact ⟨Zae HL.o.symm, hbel⟩
theorem Zg3 : ∀ n, Zkt (Zds n) (szN n)
 | 0 => by
  intro l v F w k hl0 hl1 hr;obtain ⟨A, c, rfl, hc, hcm, hel⟩ := hr;unfold maxLen at hcm;have h0 : l.length = 0 := by
   rcases Nat.eq_zero_or_pos l.length with h | h
   ·exact h
   ·obtain ⟨b, o, cs, e, hF, hbl, hE, hcell⟩ := hel 0 h;exact hE.elim
  obtain rfl : l = [] := List.eq_nil_of_length_eq_zero h0;clear hel h0;have t1 : decide (k < 0) = false := nU (by omega);have HL := zh (Za3 (n := Zv (szN 0) ([] : List Zd)) (l := k) (by simp [Zv, Za8]; omega));go_enter Tryz.func157, Tryz.ntmps157;go_wp2_with fail;refine wp_loop_rounds 1 ?_;rw [rounds_succ];go_wp2_with fail;go_ret;exact ⟨Zae (by rw [HL.o]; simp [Zv, Za8]), Below.refl _ _⟩
 | n + 1 => Zmp (Zad n) (Zg3 n)
theorem Zls (hK : Zb2 K 6) (hkid : Zkt K sK) (r : Zaw) (cs : List Value) (F : Nat → Prop) (w : World) (k : Int) (hl0 : 0 ≤ k) (hl1 : k ≤ 1048576) (h : (Zby K) F w r cs) :
  Calls Tryz.prog 63 #[.agg cs.toArray, .int .i64 k] w fun e w' => e = .returned (.int .i64 (Zck ((Zy sK) r) k)) ∧ Below w.heap.size w w' := by
 obtain ⟨vslots, vbodykids, rfl, aK, hparams, hslots, hbody_kind, hbody_op, hbody_number, hbody_line, hbody_text, hbody_kids⟩ := h;have HE := zh (show (Zy sK) r = r.name.size + (Zv ByteArray.size r.slots + ((Za2 sK) r.body)) from rfl);have Hbody := zh (show (Zdf K) F w r.body [.int .i64 r.body.kind, .int .i64 r.body.op, .int .i64 r.body.aB, .int .i64 r.body.line, .string r.body.text, vbodykids] from ⟨vbodykids, rfl, hbody_kind, hbody_op, hbody_number, hbody_line, hbody_text, hbody_kids⟩);have hbname : (r.name.size : Int) ≤ 9223372036854775807 := by unfold maxLen at aK; omega
 have Hslots := zh hslots;clear hslots;have HBA := zh ((Below.refl w.heap.size w).alloc (Nat.le_refl _) (.cells #[.string r.name, .int .i64 r.params, vslots, .int .i64 r.body.kind, .int .i64 r.body.op, .int .i64 r.body.aB, .int .i64 r.body.line, .string r.body.text, vbodykids] 124));have HWA := zh (heap_alloc_new w (.cells #[.string r.name, .int .i64 r.params, vslots, .int .i64 r.body.kind, .int .i64 r.body.op, .int .i64 r.body.aB, .int .i64 r.body.line, .string r.body.text, vbodykids] 124));go_enter Tryz.func63, Tryz.ntmps63
 by_cases c0 : k < ((r.name.size : Nat) : Int)
 ·have HL := zh (Zan (n := (Zy sK) r) (l := k) (by have := HE.o; omega));have t0 : decide (k - ((r.name.size : Nat) : Int) < 0) = true := by simp; omega
  go_wp2_with fail;go_ret;exact ⟨Zae HL.o.symm, HBA.o⟩
 have t0 : decide (k - ((r.name.size : Nat) : Int) < 0) = false := by simp; omega
 obtain ⟨d0, hd0⟩ : ∃ d, k - ((r.name.size : Nat) : Int) = d := ⟨_, rfl⟩;rw [hd0] at t0;have HD := zh (show d0 = k - (((r.name.size) : Nat) : Int) by omega);have n0 : 0 ≤ d0 := by omega
 have m0 : d0 ≤ 1048576 := by omega
 clear c0;go_wp2_with fail;refine (Zff r.slots vslots F _ d0 n0 m0 (Hslots.o.later Zt HBA.o)).mono ?_;rintro e w1 ⟨rfl, hb1⟩;have HB1 := zh (HBA.o.trans (Below.mono hb1 HBA.o.size));have HW1 := zC hb1 HWA;have q1_0 := cq HW1.o 0;simp only [nD, nE, nF] at q1_0;have q1_1 := cq HW1.o 1;simp only [nD, nE, nF] at q1_1;have q1_2 := cq HW1.o 2;simp only [nD, nE, nF] at q1_2;have q1_3 := cq HW1.o 3;simp only [nD, nE, nF] at q1_3;have q1_4 := cq HW1.o 4;simp only [nD, nE, nF] at q1_4;have q1_5 := cq HW1.o 5;simp only [nD, nE, nF] at q1_5;have q1_6 := cq HW1.o 6;simp only [nD, nE, nF] at q1_6;have q1_7 := cq HW1.o 7;simp only [nD, nE, nF] at q1_7;have q1_8 := cq HW1.o 8;simp only [nD, nE, nF] at q1_8;clear hb1
 by_cases c1 : d0 < ((Zv ByteArray.size r.slots : Nat) : Int)
 ·rw [Zan c1];have HL := zh (Zan (n := (Zy sK) r) (l := k) (by have := HE.o; have := HD.o; omega));go_wp2_with fail;go_ret;exact ⟨Zae HL.o.symm, HB1.o⟩
 rw [Za3 (by omega)];have t1 : decide (d0 - ((Zv ByteArray.size r.slots : Nat) : Int) < 0) = false := by simp; omega
 obtain ⟨d1, hd1⟩ : ∃ d, d0 - ((Zv ByteArray.size r.slots : Nat) : Int) = d := ⟨_, rfl⟩;rw [hd1] at t1 ⊢;replace HD := zh (show d1 = k - (((r.name.size) + (Zv ByteArray.size r.slots) : Nat) : Int) by have := HD.o; omega);have n1 : 0 ≤ d1 := by omega
 have m1 : d1 ≤ 1048576 := by omega
 clear hd1;clear c1;go_wp2_with fail;refine (Zku hK hkid r.body _ F _ d1 n1 m1 ((Zcl hK).keep Hbody.o (fun _ h => h) (Zb.later HB1.o))).mono ?_;rintro e w2 ⟨rfl, hb2⟩;have HB2 := zh (HB1.o.trans (Below.mono hb2 HB1.o.size));have HW2 := zC hb2 HW1;have q2_0 := cq HW2.o 0;simp only [nD, nE, nF] at q2_0;have q2_1 := cq HW2.o 1;simp only [nD, nE, nF] at q2_1;have q2_2 := cq HW2.o 2;simp only [nD, nE, nF] at q2_2;have q2_3 := cq HW2.o 3;simp only [nD, nE, nF] at q2_3;have q2_4 := cq HW2.o 4;simp only [nD, nE, nF] at q2_4;have q2_5 := cq HW2.o 5;simp only [nD, nE, nF] at q2_5;have q2_6 := cq HW2.o 6;simp only [nD, nE, nF] at q2_6;have q2_7 := cq HW2.o 7;simp only [nD, nE, nF] at q2_7;have q2_8 := cq HW2.o 8;simp only [nD, nE, nF] at q2_8;clear hb2
 by_cases c2 : d1 < (((Za2 sK) r.body : Nat) : Int)
 ·rw [Zan c2];have HL := zh (Zan (n := (Zy sK) r) (l := k) (by have := HE.o; have := HD.o; omega));go_wp2_with fail;go_ret;exact ⟨Zae HL.o.symm, HB2.o⟩
 rw [Za3 (by omega)];have t2 : decide (d1 - (((Za2 sK) r.body : Nat) : Int) < 0) = false := by simp; omega
 obtain ⟨d2, hd2⟩ : ∃ d, d1 - (((Za2 sK) r.body : Nat) : Int) = d := ⟨_, rfl⟩;rw [hd2] at t2 ⊢;replace HD := zh (show d2 = k - (((r.name.size) + (Zv ByteArray.size r.slots) + ((Za2 sK) r.body) : Nat) : Int) by have := HD.o; omega);have n2 : 0 ≤ d2 := by omega
 have m2 : d2 ≤ 1048576 := by omega
 clear hd2;clear c2;have HL := zh (Za3 (n := (Zy sK) r) (l := k) (by have := HE.o; have := HD.o; omega));go_wp2_with fail;go_ret;exact ⟨Zae (by rw [HL.o]; have := HE.o; have := HD.o; omega), HB2.o⟩
theorem Zkv (hK : Zb2 K 6) (hkid : Zkt K sK) (l : List Zaw) (v : Value) (F : Nat → Prop) (w : World) (k : Int) (hl0 : 0 ≤ k) (hl1 : k ≤ 1048576) (hr : Z5 (Zby K) 9 F w l v) :
  Calls Tryz.prog 21 #[v, .int .i64 k] w fun e w' => e = .returned (.int .i64 (Zck (Zv (Zy sK) l) k)) ∧ Below w.heap.size w w' := by
 obtain ⟨A, c, rfl, hc, hcm, hel⟩ := hr;unfold maxLen at hcm;have HEL := zh hel;clear hel;have hb1 : (l.length : Int) ≤ 9223372036854775807 := by omega
 by_cases h0 : k < (l.length : Int)
 ·have HL := zh (Zan (n := Zv (Zy sK) l) (l := k) (by unfold Zv; omega));have t1 : decide (k - (l.length : Int) < 0) = true := by simp; omega
  go_enter Tryz.func21, Tryz.ntmps21;go_wp2_with fail;go_ret;exact ⟨Zae HL.o.symm, Below.refl _ _⟩
 ·have t1 : decide (k - (l.length : Int) < 0) = false := by simp; omega
  go_enter Tryz.func21, Tryz.ntmps21;go_wp2_with fail
  go_loopw [1, 5] (fun lv i wr => ∃ j : Nat, j ≤ l.length ∧ i = .int .i64 j ∧ lv = .int .i64 (k - l.length - Za8 (Zy sK) (l.take j)) ∧ 0 ≤ k - l.length - Za8 (Zy sK) (l.take j) ∧ Below w.heap.size w wr) (fun _ i _ => l.length - (intOf i).toNat)
  case atStart => exact ⟨0, Nat.zero_le _, rfl, by simp [Za8], by simp [Za8]; omega, Below.refl _ _⟩
  case round =>
  obtain ⟨j, hj, rfl, rfl, hd, hbel⟩ := hrel;have hsz := hbel.size;have hd1 : k - l.length - Za8 (Zy sK) (l.take j) ≤ 1048576 := by omega
  obtain ⟨d, hde⟩ : ∃ d, k - l.length - Za8 (Zy sK) (l.take j) = d := ⟨_, rfl⟩;rw [hde] at hd hd1 ⊢;have HDE := zh hde;clear hde
  by_cases hlt : j < l.length
  ·obtain ⟨b, o, cs, rfl, hF, hbl, hE, hcell⟩ := HEL.o j hlt;have hE' := hE;obtain ⟨vslots, vbodykids, rfl, hfacts⟩ := hE;have hlt' : (j : Int) < l.length := by omega
   have HS := zh (Zeq (Zy sK) l j hlt);have HT := zh (Zgv (Zy sK) l (j + 1));have e0 := (hbel.cell (p := ⟨b, o + j * 9 + 0, none⟩) hbl).trans (hcell 0 _ rfl);have e1 := (hbel.cell (p := ⟨b, o + j * 9 + 1, none⟩) hbl).trans (hcell 1 _ rfl);have e2 := (hbel.cell (p := ⟨b, o + j * 9 + 2, none⟩) hbl).trans (hcell 2 _ rfl);have e3 := (hbel.cell (p := ⟨b, o + j * 9 + 3, none⟩) hbl).trans (hcell 3 _ rfl);have e4 := (hbel.cell (p := ⟨b, o + j * 9 + 4, none⟩) hbl).trans (hcell 4 _ rfl);have e5 := (hbel.cell (p := ⟨b, o + j * 9 + 5, none⟩) hbl).trans (hcell 5 _ rfl);have e6 := (hbel.cell (p := ⟨b, o + j * 9 + 6, none⟩) hbl).trans (hcell 6 _ rfl);have e7 := (hbel.cell (p := ⟨b, o + j * 9 + 7, none⟩) hbl).trans (hcell 7 _ rfl);have e8 := (hbel.cell (p := ⟨b, o + j * 9 + 8, none⟩) hbl).trans (hcell 8 _ rfl);simp only [Nat.mul_one, Nat.add_zero] at e0;have hE2 := (Za9 hK).keep (G := F) hE' (fun _ h => h) (Zb.later hbel);have HE2 := zh hE2;clear hE2 hE' hcell hfacts;go_wp2_with fail;refine (Zls hK hkid l[j] _ F wr d hd hd1 HE2.o).mono ?_;rintro e w4 ⟨rfl, hb4⟩;have hb5 : Below w.heap.size w w4 := hbel.trans (Below.mono hb4 hsz);clear hb4 e0 e1 e2 e3 e4 e5 e6 e7 e8
   by_cases hin : ((Zy sK) l[j] : Int) ≤ d
   ·rw [Za3 hin];have t2 : decide (d - ((Zy sK) l[j] : Int) < 0) = false := by simp; omega
    go_wp2_with fail
    go_roundw
    case rel => exact ⟨j + 1, by omega, by go_num, by rw [HS.o, ← HDE.o]; congr 1; omega, by rw [HS.o]; have := HDE.o; omega, hb5⟩
    case measure => simp [intOf]; omega
   ·rw [Zan (by omega)];have HL : Hd (Zck (Zv (Zy sK) l) k = -1) := zh (Zan (by have := HS.o; have := HT.o; have := HDE.o; unfold Zv; omega));go_wp2_with fail;go_ret;exact ⟨Zae HL.o.symm, hb5⟩
  ·have hjl : j = l.length := by omega
   have HL : Hd (Zck (Zv (Zy sK) l) k = d) := zh (by
    have := HDE.o;rw [hjl, List.take_length] at this;unfold Zv;rw [Za3 (by omega)]; omega)
   go_wp2_with fail;go_ret;exact ⟨Zae HL.o.symm, hbel⟩
theorem Zho (hK : Zb2 K 6) (hkid : Zkt K sK) (r : Zu) (cs : List Value) (F : Nat → Prop) (w : World) (k : Int) (hl0 : 0 ≤ k) (hl1 : k ≤ 1048576) (h : (Zdj K) F w r cs) :
  Calls Tryz.prog 5 #[.agg cs.toArray, .int .i64 k] w fun e w' => e = .returned (.int .i64 (Zck ((Zab sK) r) k)) ∧ Below w.heap.size w w' := by
 obtain ⟨vroutines, aC, aD, rfl, hroutines, aF, aG, hmain⟩ := h;have HE := zh (show (Zab sK) r = Zv (Zy sK) r.routines + (Zv Zo r.aA + (Zv ByteArray.size r.globals)) from rfl);have Hroutines := zh hroutines;clear hroutines;have Hrecords := zh aF;clear aF;have Hglobals := zh aG;clear aG;have HBA := zh ((Below.refl w.heap.size w).alloc (Nat.le_refl _) (.cells #[vroutines, aC, aD, .int .i64 r.main] 26));have HWA := zh (heap_alloc_new w (.cells #[vroutines, aC, aD, .int .i64 r.main] 26));go_enter Tryz.func5, Tryz.ntmps5;go_wp2_with fail;refine (Zkv hK hkid r.routines vroutines F _ k hl0 hl1 (Hroutines.o.later (Za9 hK) HBA.o)).mono ?_;rintro e w0 ⟨rfl, hb0⟩;have HB0 := zh (HBA.o.trans (Below.mono hb0 HBA.o.size));have HW0 := zC hb0 HWA;have q0_0 := cq HW0.o 0;simp only [nD, nE, nF] at q0_0;have q0_1 := cq HW0.o 1;simp only [nD, nE, nF] at q0_1;have q0_2 := cq HW0.o 2;simp only [nD, nE, nF] at q0_2;have q0_3 := cq HW0.o 3;simp only [nD, nE, nF] at q0_3;clear hb0
 by_cases c0 : k < ((Zv (Zy sK) r.routines : Nat) : Int)
 ·rw [Zan c0];have HL := zh (Zan (n := (Zab sK) r) (l := k) (by have := HE.o; omega));go_wp2_with fail;go_ret;exact ⟨Zae HL.o.symm, HB0.o⟩
 rw [Za3 (by omega)];have t0 : decide (k - ((Zv (Zy sK) r.routines : Nat) : Int) < 0) = false := by simp; omega
 obtain ⟨d0, hd0⟩ : ∃ d, k - ((Zv (Zy sK) r.routines : Nat) : Int) = d := ⟨_, rfl⟩;rw [hd0] at t0 ⊢;have HD := zh (show d0 = k - (((Zv (Zy sK) r.routines) : Nat) : Int) by omega);have n0 : 0 ≤ d0 := by omega
 have m0 : d0 ≤ 1048576 := by omega
 clear hd0;clear c0;go_wp2_with fail;refine (Zig r.aA aC F _ d0 n0 m0 (Hrecords.o.later Z7 HB0.o)).mono ?_;rintro e w1 ⟨rfl, hb1⟩;have HB1 := zh (HB0.o.trans (Below.mono hb1 HB0.o.size));have HW1 := zC hb1 HW0;have q1_0 := cq HW1.o 0;simp only [nD, nE, nF] at q1_0;have q1_1 := cq HW1.o 1;simp only [nD, nE, nF] at q1_1;have q1_2 := cq HW1.o 2;simp only [nD, nE, nF] at q1_2;have q1_3 := cq HW1.o 3;simp only [nD, nE, nF] at q1_3;clear hb1
 by_cases c1 : d0 < ((Zv Zo r.aA : Nat) : Int)
 ·rw [Zan c1];have HL := zh (Zan (n := (Zab sK) r) (l := k) (by have := HE.o; have := HD.o; omega));go_wp2_with fail;go_ret;exact ⟨Zae HL.o.symm, HB1.o⟩
 rw [Za3 (by omega)];have t1 : decide (d0 - ((Zv Zo r.aA : Nat) : Int) < 0) = false := by simp; omega
 obtain ⟨d1, hd1⟩ : ∃ d, d0 - ((Zv Zo r.aA : Nat) : Int) = d := ⟨_, rfl⟩;rw [hd1] at t1 ⊢;replace HD := zh (show d1 = k - (((Zv (Zy sK) r.routines) + (Zv Zo r.aA) : Nat) : Int) by have := HD.o; omega);have n1 : 0 ≤ d1 := by omega
 have m1 : d1 ≤ 1048576 := by omega
 clear hd1;clear c1;go_wp2_with fail;refine (Zff r.globals aD F _ d1 n1 m1 (Hglobals.o.later Zt HB1.o)).mono ?_;rintro e w2 ⟨rfl, hb2⟩;have HB2 := zh (HB1.o.trans (Below.mono hb2 HB1.o.size));have HW2 := zC hb2 HW1;have q2_0 := cq HW2.o 0;simp only [nD, nE, nF] at q2_0;have q2_1 := cq HW2.o 1;simp only [nD, nE, nF] at q2_1;have q2_2 := cq HW2.o 2;simp only [nD, nE, nF] at q2_2;have q2_3 := cq HW2.o 3;simp only [nD, nE, nF] at q2_3;clear hb2
 by_cases c2 : d1 < ((Zv ByteArray.size r.globals : Nat) : Int)
 ·rw [Zan c2];have HL := zh (Zan (n := (Zab sK) r) (l := k) (by have := HE.o; have := HD.o; omega));go_wp2_with fail;go_ret;exact ⟨Zae HL.o.symm, HB2.o⟩
 rw [Za3 (by omega)];have t2 : decide (d1 - ((Zv ByteArray.size r.globals : Nat) : Int) < 0) = false := by simp; omega
 obtain ⟨d2, hd2⟩ : ∃ d, d1 - ((Zv ByteArray.size r.globals : Nat) : Int) = d := ⟨_, rfl⟩;rw [hd2] at t2 ⊢;replace HD := zh (show d2 = k - (((Zv (Zy sK) r.routines) + (Zv Zo r.aA) + (Zv ByteArray.size r.globals) : Nat) : Int) by have := HD.o; omega);have n2 : 0 ≤ d2 := by omega
 have m2 : d2 ≤ 1048576 := by omega
 clear hd2;clear c2;have HL := zh (Za3 (n := (Zab sK) r) (l := k) (by have := HE.o; have := HD.o; omega));go_wp2_with fail;go_ret;exact ⟨Zae (by rw [HL.o]; have := HE.o; have := HD.o; omega), HB2.o⟩
end
end
section
theorem Zbj (w : World) (o : Obj) : (w.alloc o).heap.size = w.heap.size + 1 := by simp
section
variable {S K : Za6 Zd} {mK : Zd → Int → Zd} {cK sK : Zd → Nat}
theorem Zd6 : (Tryz.prog.info? 9).map (fun i => (i.zero, i.size, i.bytes)) = some (some (.string ⟨#[]⟩), 1, 16) := by kernel_rfl
theorem Zns (n : Nat) (hn : n ≤ 2097152) : ∃ cur : Array Value, cur.size = n * 1 ∧ ∀ w : World, (Instr.makeSlice 24 (.int .i64 (n : Int)) (.int .i64 (n : Int))).run Tryz.prog w = .ok (.slice (some ⟨w.heap.size, 0, none⟩) n n) (w.alloc (.cells cur 9)) := by
 obtain ⟨i, hi, hz0, hz1, hz2⟩ := info_parts Zd6;refine ⟨madeCells (Value.cells (.string ⟨#[]⟩)) (n * 1), size_madeCells _ _, fun w => ?_⟩;have := run_make (P := Tryz.prog) w 24 9 i _ Tryz.underlying24 hi hz0 .i64 .i64 n n (by omega) (by omega) (by rw [hz2]; omega) (by omega);rw [hz1] at this
 simpa using this
theorem Zfg (l : List ByteArray) (v : Value) (F : Nat → Prop) (w : World) (hsz : Zv ByteArray.size l ≤ 1048576) (hr : Z5 Zbe 1 F w l v) :
  Calls Tryz.prog 31 #[v] w fun e w' => ∃ v', e = .returned v' ∧ Zah Zbe 1 9 (fun b => w.heap.size ≤ b) w' l v' ∧ Below w.heap.size w w' := by
 obtain ⟨A, c, rfl, hc, hcm, hel⟩ := hr;have HEL := zh hel;have hlen : l.length ≤ 1048576 := by unfold Zv at hsz; omega
 have HSZ := zh (show Za8 ByteArray.size l ≤ 1048576 by unfold Zv at hsz; omega);clear hel hsz hcm;obtain ⟨cur0, hcur0, hmkr⟩ := Zns l.length (by omega);have HC0 := zh hcur0;clear hcur0;go_enter Tryz.func31, Tryz.ntmps31;go_wp2_with fail;obtain ⟨B, hB⟩ : ∃ B, w.heap.size = B := ⟨_, rfl⟩;have hwB : w.heap.size ≤ B := by omega
 have HS0 : Hd (SMk Zbe 1 9 B l 0 (w.alloc (.cells cur0 9))) := zh (SMk.start (by rw [← hB]; exact heap_alloc_new w _) HC0.o);have HBe := zh ((Below.refl w.heap.size w).alloc (Nat.le_refl _) (.cells cur0 9));rw [hB];clear hmkr HC0;have HBw := zh hB;clear hB
 go_loopw [4] (fun i wr => ∃ j : Nat, j ≤ l.length ∧ i = .int .i64 j ∧ SMk Zbe 1 9 B l j wr ∧ Below w.heap.size w wr) (fun i _ => l.length - (intOf i).toNat)
 case atStart => exact ⟨0, Nat.zero_le _, rfl, HS0.o, HBe.o⟩
 case round =>
  obtain ⟨j, hj, rfl, hmk, hbel⟩ := hrel;have hBw : B < wr.heap.size := hmk.lt
  by_cases hlt : j < l.length
  ·obtain ⟨b, o, cs, rfl, hF, hbl, hE, hcell⟩ := HEL.o j hlt
   skip
   obtain ⟨rfl, hsm⟩ := hE;have hlt' : (j : Int) < l.length := by omega
   have e0 := (hbel.cell (p := ⟨b, o + j * 1 + 0, none⟩) hbl).trans (hcell 0 _ rfl);simp only [Nat.mul_one, Nat.add_zero] at e0;have hmk4 := hmk;have hB4 := hmk4.at_ hlt;have HN := zh (SMk.next Zw hmk (Za.refl _) hlt (cs := [.string l[j]]) ⟨rfl, hsm⟩);have HB5 := zh (Zbg hwB [.string l[j]] wr (j * 1) hbel);rw [Nat.mul_one] at HN HB5;obtain ⟨hce, hfr⟩ := hB4;have f0 := hfr (j * 1 + 0);obtain ⟨u0, c0⟩ := hce 0 (by decide);simp only [Nat.mul_one, Nat.add_zero] at c0 f0;clear hce hfr hmk4 hmk;go_wp2_with fail
   go_roundw
   case rel => exact ⟨j + 1, by omega, by go_num, HN.o, HB5.o⟩
   case measure => simp [intOf]; omega
  ·have hjl : j = l.length := by omega
   have HD := zh (SMk.done Zw (by rw [hjl] at hmk; exact hmk) (G := fun b => w.heap.size ≤ b) (fun b h => by have := HBw.o; omega) (by unfold maxLen; omega));clear hmk;go_wp2_with fail;go_ret;exact ⟨_, rfl, HD.o, hbel⟩
theorem Ziy (r : Zam) (cs : List Value) (F : Nat → Prop) (w : World) (hsz : Zo r ≤ 1048576) (h : Zao F w r cs) :
  Calls Tryz.prog 73 #[.agg cs.toArray] w fun e w' => ∃ cs', e = .returned (.agg cs'.toArray) ∧ Zaa (fun b => w.heap.size ≤ b) w' r cs' ∧ Below w.heap.size w w' := by
 obtain ⟨aE, rfl, aK, aL, aM⟩ := h;have HSZ := zh (show r.name.size + (Zv ByteArray.size r.fields) ≤ 1048576 from hsz);clear hsz;have Hname := zh aK;clear aK;have Hfields := zh aL;clear aL;have Hline := zh aM;clear aM;have HP := zh (((Za.refl _).alloc (.cells #[.string ⟨#[]⟩, .slice none 0 0, .int .i64 0] 101)).alloc (.cells #[.string r.name, .slice none 0 0, .int .i64 0] 101) |>.block _ (by simp) |>.trans (heap_alloc_new w (.cells #[.string r.name, aE, .int .i64 r.line] 126)));have HZ := zh ((Za.refl _).alloc (.cells #[.string r.name, .slice none 0 0, .int .i64 0] 101) |>.block _ (by simp) |>.trans (heap_alloc_new (w.alloc (.cells #[.string r.name, aE, .int .i64 r.line] 126)) (.cells #[.string ⟨#[]⟩, .slice none 0 0, .int .i64 0] 101)));have HO := zh (heap_alloc_new ((w.alloc (.cells #[.string r.name, aE, .int .i64 r.line] 126)).alloc (.cells #[.string ⟨#[]⟩, .slice none 0 0, .int .i64 0] 101)) (.cells #[.string r.name, .slice none 0 0, .int .i64 0] 101));simp only [Zbj] at HZ HO;have HB := zh ((((Below.refl w.heap.size w).alloc (Nat.le_refl _) (.cells #[.string r.name, aE, .int .i64 r.line] 126)).alloc (by simp) (.cells #[.string ⟨#[]⟩, .slice none 0 0, .int .i64 0] 101)).alloc (by simp; omega) (.cells #[.string r.name, .slice none 0 0, .int .i64 0] 101));have hne1 : ¬ w.heap.size = w.heap.size + 2 := by omega
 have hne2 : ¬ w.heap.size + 1 = w.heap.size + 2 := by omega
 have hne3 : ¬ w.heap.size + 2 = w.heap.size + 1 := by omega
 have hne4 : ¬ w.heap.size = w.heap.size + 1 := by omega
 go_enter Tryz.func73, Tryz.ntmps73;go_wp2_with fail;have hlo := (Array.getElem?_eq_some_iff.1 HO.o).1;refine (Zfg r.fields aE F _ (by have := HSZ.o; omega) (Hfields.o.later Zt HB.o)).mono ?_;rintro e w1 ⟨v', rfl, hr1, hb1⟩;obtain ⟨A1, c1, rfl, _⟩ := id hr1;have HR1 := zh ((hr1.trim Zw).keep Zw.is (G := fun b => w.heap.size + 2 < b ∧ b < w1.heap.size) (fun b h => ⟨by have := h.1; have := hlo; omega, h.2⟩) (Zb.refl _ _));have HM1 := zh (show w.heap.size + 3 ≤ w1.heap.size from by have := hlo; have := Below.size hb1; omega);replace HP := zC hb1 HP;replace HZ := zC hb1 HZ;replace HO := zC hb1 HO;replace HB := zh (HB.o.trans (Below.mono hb1 HB.o.size));clear hr1 hb1 hlo;have p0 := cz3 HP.o;have z0 := cz3 HZ.o;have o0 := cz3 HO.o;have fz0 := fz HZ.o;have fo0 := fz HO.o;replace HO := zh (Za1 (o := 2) (Za1 (o := 1) HO.o (.slice A1 r.fields.length c1)) (.int .i64 r.line));simp only [List.setIfInBounds_toArray, List.set_cons_zero, List.set_cons_succ] at HO;replace HP := zh ((Below.heap_setCell _ ⟨w.heap.size + 2, 2, none⟩ (.int .i64 r.line) _ hne1).trans ((Below.heap_setCell _ ⟨w.heap.size + 2, 1, none⟩ (.slice A1 r.fields.length c1) _ hne1).trans HP.o));replace HZ := zh ((Below.heap_setCell _ ⟨w.heap.size + 2, 2, none⟩ (.int .i64 r.line) _ hne2).trans ((Below.heap_setCell _ ⟨w.heap.size + 2, 1, none⟩ (.slice A1 r.fields.length c1) _ hne2).trans HZ.o));replace HB := zh ((HB.o.setCell (p := ⟨w.heap.size + 2, 1, none⟩) (by simp) (.slice A1 r.fields.length c1)).setCell (p := ⟨w.heap.size + 2, 2, none⟩) (by simp) (.int .i64 r.line))
 replace HR1 := zh (HR1.o.keep Zw.is (fun _ h => h) (((Zb.later (F := _) (Za.refl w1)).set (B := w.heap.size + 2) (by have := HM1.o; omega) 1 (.slice A1 r.fields.length c1)).set (B := w.heap.size + 2) (by have := HM1.o; omega) 2 (.int .i64 r.line)));have HN := zh (show w1.heap.size ≤ _ from ((((Zb.later (F := fun _ => False) (Za.refl w1)).set (B := w.heap.size + 2) (fun h => h) 1 (.slice A1 r.fields.length c1)).set (B := w.heap.size + 2) (fun h => h) 2 (.int .i64 r.line))).size);go_upto_region 5 with (fail);clear p0 z0 o0 fz0 fo0;obtain ⟨wf, hwf⟩ : ∃ wf, wf = ((w1.setCell ⟨w.heap.size + 2, 1, none⟩ (.slice A1 r.fields.length c1)).setCell ⟨w.heap.size + 2, 2, none⟩ (.int .i64 r.line)) := ⟨_, rfl⟩;rw [← hwf] at HO HP HZ HB HR1 ⊢;clear hwf;have z0 := cz3 HZ.o;have o0 := cz3 HO.o;have fz0 := fz HZ.o;go_wp2_with fail;refine bodyPost_ret (v := .agg #[.string r.name, .slice A1 r.fields.length c1, .int .i64 r.line]) (by simp [results, Tryz.results73, go_sem, z0, o0, fz0, hne3]) rfl ⟨[.string r.name, .slice A1 r.fields.length c1, .int .i64 r.line], rfl, ?_, (((HB.o.setCell (p := ⟨w.heap.size + 1, 0, none⟩) (by simp) _).setCell (p := ⟨w.heap.size + 1, 1, none⟩) (by simp) _).setCell (p := ⟨w.heap.size + 1, 2, none⟩) (by simp) _)⟩;have := HM1.o;have kk := Zbn (F := fun y => y ≠ w.heap.size + 1) (fun h => h rfl) [.string r.name, .slice A1 r.fields.length c1, .int .i64 r.line] wf 0 (Zb.refl _ _);simp only [Zbh, Nat.zero_add, Nat.reduceAdd] at kk
 exact ⟨(fun y => (0 : Nat)), _, rfl, Hname.o, HR1.o.keep Zw.is (fun b h => ⟨by have := h.1; omega, rfl⟩) (kk.mono fun b h => by have := h.1; have := h.2; omega), Hline.o⟩
theorem Zed : (Tryz.prog.info? 101).map (fun i => (i.zero, i.size, i.bytes)) = some (some (.agg #[.string ⟨#[]⟩, .slice none 0 0, .int .i64 0]), 3, 48) := by kernel_rfl
theorem Zjv (n : Nat) (hn : n ≤ 2097152) : ∃ cur : Array Value, cur.size = n * 3 ∧ ∀ w : World, (Instr.makeSlice 29 (.int .i64 (n : Int)) (.int .i64 (n : Int))).run Tryz.prog w = .ok (.slice (some ⟨w.heap.size, 0, none⟩) n n) (w.alloc (.cells cur 101)) := by
 obtain ⟨i, hi, hz0, hz1, hz2⟩ := info_parts Zed;refine ⟨madeCells (Value.cells (.agg #[.string ⟨#[]⟩, .slice none 0 0, .int .i64 0])) (n * 3), size_madeCells _ _, fun w => ?_⟩;have := run_make (P := Tryz.prog) w 29 101 i _ Tryz.underlying29 hi hz0 .i64 .i64 n n (by omega) (by omega) (by rw [hz2]; omega) (by omega);rw [hz1] at this
 simpa using this
theorem Zih (l : List Zam) (v : Value) (F : Nat → Prop) (w : World) (hsz : Zv Zo l ≤ 1048576) (hr : Z5 Zao 3 F w l v) :
  Calls Tryz.prog 30 #[v] w fun e w' => ∃ v', e = .returned v' ∧ Zah Zaa 3 101 (fun b => w.heap.size ≤ b) w' l v' ∧ Below w.heap.size w w' := by
 obtain ⟨A, c, rfl, hc, hcm, hel⟩ := hr;have HEL := zh hel;have hlen : l.length ≤ 1048576 := by unfold Zv at hsz; omega
 have HSZ := zh (show Za8 Zo l ≤ 1048576 by unfold Zv at hsz; omega);clear hel hsz hcm;obtain ⟨cur0, hcur0, hmkr⟩ := Zjv l.length (by omega);have HC0 := zh hcur0;clear hcur0;go_enter Tryz.func30, Tryz.ntmps30;go_wp2_with fail;obtain ⟨B, hB⟩ : ∃ B, w.heap.size = B := ⟨_, rfl⟩;have hwB : w.heap.size ≤ B := by omega
 have HS0 : Hd (SMk Zaa 3 101 B l 0 (w.alloc (.cells cur0 101))) := zh (SMk.start (by rw [← hB]; exact heap_alloc_new w _) HC0.o);have HBe := zh ((Below.refl w.heap.size w).alloc (Nat.le_refl _) (.cells cur0 101));rw [hB];clear hmkr HC0;have HBw := zh hB;clear hB
 go_loopw [4] (fun i wr => ∃ j : Nat, j ≤ l.length ∧ i = .int .i64 j ∧ SMk Zaa 3 101 B l j wr ∧ Below w.heap.size w wr) (fun i _ => l.length - (intOf i).toNat)
 case atStart => exact ⟨0, Nat.zero_le _, rfl, HS0.o, HBe.o⟩
 case round =>
  obtain ⟨j, hj, rfl, hmk, hbel⟩ := hrel;have hBw : B < wr.heap.size := hmk.lt
  by_cases hlt : j < l.length
  ·obtain ⟨b, o, cs, rfl, hF, hbl, hE, hcell⟩ := HEL.o j hlt;have hE' := hE;obtain ⟨aE, rfl, hfacts⟩ := hE;have hlt' : (j : Int) < l.length := by omega
   have e0 := (hbel.cell (p := ⟨b, o + j * 3 + 0, none⟩) hbl).trans (hcell 0 _ rfl);have e1 := (hbel.cell (p := ⟨b, o + j * 3 + 1, none⟩) hbl).trans (hcell 1 _ rfl);have e2 := (hbel.cell (p := ⟨b, o + j * 3 + 2, none⟩) hbl).trans (hcell 2 _ rfl);simp only [Nat.mul_one, Nat.add_zero] at e0;have HE2 := zh (Z7.keep (G := F) hE' (fun _ h => h) (Zb.later hbel));have HS := zh (Nat.le_trans (Zek Zo l l[j] (List.getElem_mem hlt)) (HSZ.o));clear hE' hcell hfacts;go_wp2_with fail;refine (Ziy l[j] _ F wr HS.o HE2.o).mono ?_;rintro e w4 ⟨cs4, rfl, hE4, hb4⟩;have hmk4 := hmk.later Zj.is hb4;have hB4 := hmk4.at_ hlt;have HN := zh (SMk.next Zj hmk hb4 hlt hE4);have hbel4 : Below w.heap.size w w4 := hbel.trans (Below.mono hb4 hbel.size);have HB5 := zh (Zbg hwB cs4 w4 (j * 3) hbel4);obtain ⟨tag4, aE, rfl, hfacts⟩ := hE4;obtain ⟨_, _, rfl, _⟩ := hfacts.2.1;obtain ⟨hce, hfr⟩ := hB4;have f0 := hfr (j * 3 + 0);obtain ⟨u0, c0⟩ := hce 0 (by decide);have f1 := hfr (j * 3 + 1);obtain ⟨u1, c1⟩ := hce 1 (by decide);have f2 := hfr (j * 3 + 2);obtain ⟨u2, c2⟩ := hce 2 (by decide);simp only [Nat.add_zero] at c0 f0;clear hce hfr hmk4 hmk hb4 hbel4;go_wp2_with fail
   go_roundw
   case rel => exact ⟨j + 1, by omega, by go_num, HN.o, HB5.o⟩
   case measure => simp [intOf]; omega
  ·have hjl : j = l.length := by omega
   have HD := zh (SMk.done Zj (by rw [hjl] at hmk; exact hmk) (G := fun b => w.heap.size ≤ b) (fun b h => by have := HBw.o; omega) (by unfold maxLen; omega));clear hmk;go_wp2_with fail;go_ret;exact ⟨_, rfl, HD.o, hbel⟩
def Zkw (S : Za6 Zd) (K : Za6 Zd) (sK : Zd → Nat) : Prop := ∀ (l : List Zd) (v : Value) (F : Nat → Prop) (w : World) (hsz : Zv sK l ≤ 1048576) (hr : Z5 K 6 F w l v),
 Calls Tryz.prog 165 #[v] w fun e w' => ∃ v', e = .returned v' ∧ Zah S 6 68 (fun b => w.heap.size ≤ b) w' l v' ∧ Below w.heap.size w w'
theorem Zkx (hS : Zc2 S K 6) (hK : Zb2 K 6) (hkid : Zkw S K sK) (r : Zd) (cs : List Value) (F : Nat → Prop) (w : World) (hsz : (Za2 sK) r ≤ 1048576) (h : (Zdf K) F w r cs) :
  Calls Tryz.prog 130 #[.agg cs.toArray] w fun e w' => ∃ cs', e = .returned (.agg cs'.toArray) ∧ (Zge S) (fun b => w.heap.size ≤ b) w' r cs' ∧ Below w.heap.size w w' := by
 obtain ⟨vkids, rfl, aH, hop, aI, aM, aJ, hkids⟩ := h;have HSZ := zh (show r.text.size + (Zv sK r.kids) ≤ 1048576 from hsz);clear hsz;have Hkind := zh aH;clear aH;have Hop := zh hop;clear hop;have Hnumber := zh aI;clear aI;have Hline := zh aM;clear aM;have Htext := zh aJ;clear aJ;have Hkids := zh hkids;clear hkids;have HP := zh (((Za.refl _).alloc (.cells #[.int .i64 0, .int .i64 0, .int .i64 0, .int .i64 0, .string ⟨#[]⟩, .slice none 0 0] 68)).alloc (.cells #[.int .i64 r.kind, .int .i64 r.op, .int .i64 r.aB, .int .i64 r.line, .string r.text, .slice none 0 0] 68) |>.block _ (by simp) |>.trans (heap_alloc_new w (.cells #[.int .i64 r.kind, .int .i64 r.op, .int .i64 r.aB, .int .i64 r.line, .string r.text, vkids] 122)));have HZ := zh ((Za.refl _).alloc (.cells #[.int .i64 r.kind, .int .i64 r.op, .int .i64 r.aB, .int .i64 r.line, .string r.text, .slice none 0 0] 68) |>.block _ (by simp) |>.trans (heap_alloc_new (w.alloc (.cells #[.int .i64 r.kind, .int .i64 r.op, .int .i64 r.aB, .int .i64 r.line, .string r.text, vkids] 122)) (.cells #[.int .i64 0, .int .i64 0, .int .i64 0, .int .i64 0, .string ⟨#[]⟩, .slice none 0 0] 68)));have HO := zh (heap_alloc_new ((w.alloc (.cells #[.int .i64 r.kind, .int .i64 r.op, .int .i64 r.aB, .int .i64 r.line, .string r.text, vkids] 122)).alloc (.cells #[.int .i64 0, .int .i64 0, .int .i64 0, .int .i64 0, .string ⟨#[]⟩, .slice none 0 0] 68)) (.cells #[.int .i64 r.kind, .int .i64 r.op, .int .i64 r.aB, .int .i64 r.line, .string r.text, .slice none 0 0] 68))
 simp only [Zbj] at HZ HO;have HB := zh ((((Below.refl w.heap.size w).alloc (Nat.le_refl _) (.cells #[.int .i64 r.kind, .int .i64 r.op, .int .i64 r.aB, .int .i64 r.line, .string r.text, vkids] 122)).alloc (by simp) (.cells #[.int .i64 0, .int .i64 0, .int .i64 0, .int .i64 0, .string ⟨#[]⟩, .slice none 0 0] 68)).alloc (by simp; omega) (.cells #[.int .i64 r.kind, .int .i64 r.op, .int .i64 r.aB, .int .i64 r.line, .string r.text, .slice none 0 0] 68));have hne1 : ¬ w.heap.size = w.heap.size + 2 := by omega
 have hne2 : ¬ w.heap.size + 1 = w.heap.size + 2 := by omega
 have hne3 : ¬ w.heap.size + 2 = w.heap.size + 1 := by omega
 have hne4 : ¬ w.heap.size = w.heap.size + 1 := by omega
 go_enter Tryz.func130, Tryz.ntmps130;go_wp2_with fail;have hlo := (Array.getElem?_eq_some_iff.1 HO.o).1;refine (hkid r.kids vkids F _ (by have := HSZ.o; omega) (Hkids.o.later hK HB.o)).mono ?_;rintro e w5 ⟨v', rfl, hr5, hb5⟩;obtain ⟨A5, c5, rfl, _⟩ := id hr5;have HR5 := zh ((hr5.trim hS).keep hS.is (G := fun b => w.heap.size + 2 < b ∧ b < w5.heap.size) (fun b h => ⟨by have := h.1; have := hlo; omega, h.2⟩) (Zb.refl _ _));have HM5 := zh (show w.heap.size + 3 ≤ w5.heap.size from by have := hlo; have := Below.size hb5; omega);replace HP := zC hb5 HP;replace HZ := zC hb5 HZ;replace HO := zC hb5 HO;replace HB := zh (HB.o.trans (Below.mono hb5 HB.o.size));clear hr5 hb5 hlo;have p0 := cz6 HP.o;have z0 := cz6 HZ.o;have o0 := cz6 HO.o;have fz0 := fz HZ.o;have fo0 := fz HO.o;replace HO := zh (Za1 (o := 5) HO.o (.slice A5 r.kids.length c5));simp only [List.setIfInBounds_toArray, List.set_cons_zero, List.set_cons_succ] at HO;replace HP := zh ((Below.heap_setCell _ ⟨w.heap.size + 2, 5, none⟩ (.slice A5 r.kids.length c5) _ hne1).trans HP.o);replace HZ := zh ((Below.heap_setCell _ ⟨w.heap.size + 2, 5, none⟩ (.slice A5 r.kids.length c5) _ hne2).trans HZ.o);replace HB := zh (HB.o.setCell (p := ⟨w.heap.size + 2, 5, none⟩) (by simp) (.slice A5 r.kids.length c5));replace HR5 := zh (HR5.o.keep hS.is (fun _ h => h) ((Zb.later (F := _) (Za.refl w5)).set (B := w.heap.size + 2) (by have := HM5.o; omega) 5 (.slice A5 r.kids.length c5)))
 have HN := zh (show w5.heap.size ≤ _ from (((Zb.later (F := fun _ => False) (Za.refl w5)).set (B := w.heap.size + 2) (fun h => h) 5 (.slice A5 r.kids.length c5))).size);go_upto_region 8 with (fail);clear p0 z0 o0 fz0 fo0;obtain ⟨wf, hwf⟩ : ∃ wf, wf = (w5.setCell ⟨w.heap.size + 2, 5, none⟩ (.slice A5 r.kids.length c5)) := ⟨_, rfl⟩;rw [← hwf] at HO HP HZ HB HR5 ⊢;clear hwf;have z0 := cz6 HZ.o;have o0 := cz6 HO.o;have fz0 := fz HZ.o;go_wp2_with fail;refine bodyPost_ret (v := .agg #[.int .i64 r.kind, .int .i64 r.op, .int .i64 r.aB, .int .i64 r.line, .string r.text, .slice A5 r.kids.length c5]) (by simp [results, Tryz.results130, go_sem, z0, o0, fz0, hne3]) rfl ⟨[.int .i64 r.kind, .int .i64 r.op, .int .i64 r.aB, .int .i64 r.line, .string r.text, .slice A5 r.kids.length c5], rfl, ?_, ((((((HB.o.setCell (p := ⟨w.heap.size + 1, 0, none⟩) (by simp) _).setCell (p := ⟨w.heap.size + 1, 1, none⟩) (by simp) _).setCell (p := ⟨w.heap.size + 1, 2, none⟩) (by simp) _).setCell (p := ⟨w.heap.size + 1, 3, none⟩) (by simp) _).setCell (p := ⟨w.heap.size + 1, 4, none⟩) (by simp) _).setCell (p := ⟨w.heap.size + 1, 5, none⟩) (by simp) _)⟩;have := HM5.o;have kk := Zbn (F := fun y => y ≠ w.heap.size + 1) (fun h => h rfl) [.int .i64 r.kind, .int .i64 r.op, .int .i64 r.aB, .int .i64 r.line, .string r.text, .slice A5 r.kids.length c5] wf 0 (Zb.refl _ _)
 simp only [Zbh, Nat.zero_add, Nat.reduceAdd] at kk;exact ⟨(fun y => (0 : Nat)), _, rfl, Hkind.o, Hop.o, Hnumber.o, Hline.o, Htext.o, HR5.o.keep hS.is (fun b h => ⟨by have := h.1; omega, rfl⟩) (kk.mono fun b h => by have := h.1; have := h.2; omega)⟩
theorem Zqb : (Tryz.prog.info? 68).map (fun i => (i.zero, i.size, i.bytes)) = some (some (.agg #[.int .i64 0, .int .i64 0, .int .i64 0, .int .i64 0, .string ⟨#[]⟩, .slice none 0 0]), 6, 72) := by kernel_rfl
theorem Zl5 (n : Nat) (hn : n ≤ 2097152) : ∃ cur : Array Value, cur.size = n * 6 ∧ ∀ w : World, (Instr.makeSlice 66 (.int .i64 (n : Int)) (.int .i64 (n : Int))).run Tryz.prog w = .ok (.slice (some ⟨w.heap.size, 0, none⟩) n n) (w.alloc (.cells cur 68)) := by
 obtain ⟨i, hi, hz0, hz1, hz2⟩ := info_parts Zqb;refine ⟨madeCells (Value.cells (.agg #[.int .i64 0, .int .i64 0, .int .i64 0, .int .i64 0, .string ⟨#[]⟩, .slice none 0 0])) (n * 6), size_madeCells _ _, fun w => ?_⟩;have := run_make (P := Tryz.prog) w 66 68 i _ Tryz.underlying66 hi hz0 .i64 .i64 n n (by omega) (by omega) (by rw [hz2]; omega) (by omega);rw [hz1] at this
 simpa using this
theorem Zmq (hS : Zc2 S K 6) (hK : Zb2 K 6) (hkid : Zkw S K sK) : Zkw (Zge S) (Zdf K) (Za2 sK) := by
 intro l v F w hsz hr;obtain ⟨A, c, rfl, hc, hcm, hel⟩ := hr;have HEL := zh hel;have hlen : l.length ≤ 1048576 := by unfold Zv at hsz; omega
 have HSZ := zh (show Za8 (Za2 sK) l ≤ 1048576 by unfold Zv at hsz; omega);clear hel hsz hcm;obtain ⟨cur0, hcur0, hmkr⟩ := Zl5 l.length (by omega);have HC0 := zh hcur0;clear hcur0;go_enter Tryz.func165, Tryz.ntmps165;go_wp2_with fail;obtain ⟨B, hB⟩ : ∃ B, w.heap.size = B := ⟨_, rfl⟩;have hwB : w.heap.size ≤ B := by omega
 have HS0 : Hd (SMk (Zge S) 6 68 B l 0 (w.alloc (.cells cur0 68))) := zh (SMk.start (by rw [← hB]; exact heap_alloc_new w _) HC0.o);have HBe := zh ((Below.refl w.heap.size w).alloc (Nat.le_refl _) (.cells cur0 68));rw [hB];clear hmkr HC0;have HBw := zh hB;clear hB
 go_loopw [4] (fun i wr => ∃ j : Nat, j ≤ l.length ∧ i = .int .i64 j ∧ SMk (Zge S) 6 68 B l j wr ∧ Below w.heap.size w wr) (fun i _ => l.length - (intOf i).toNat)
 case atStart => exact ⟨0, Nat.zero_le _, rfl, HS0.o, HBe.o⟩
 case round =>
  obtain ⟨j, hj, rfl, hmk, hbel⟩ := hrel;have hBw : B < wr.heap.size := hmk.lt
  by_cases hlt : j < l.length
  ·obtain ⟨b, o, cs, rfl, hF, hbl, hE, hcell⟩ := HEL.o j hlt;have hE' := hE;obtain ⟨vkids, rfl, hfacts⟩ := hE;have hlt' : (j : Int) < l.length := by omega
   have e0 := (hbel.cell (p := ⟨b, o + j * 6 + 0, none⟩) hbl).trans (hcell 0 _ rfl);have e1 := (hbel.cell (p := ⟨b, o + j * 6 + 1, none⟩) hbl).trans (hcell 1 _ rfl);have e2 := (hbel.cell (p := ⟨b, o + j * 6 + 2, none⟩) hbl).trans (hcell 2 _ rfl);have e3 := (hbel.cell (p := ⟨b, o + j * 6 + 3, none⟩) hbl).trans (hcell 3 _ rfl);have e4 := (hbel.cell (p := ⟨b, o + j * 6 + 4, none⟩) hbl).trans (hcell 4 _ rfl);have e5 := (hbel.cell (p := ⟨b, o + j * 6 + 5, none⟩) hbl).trans (hcell 5 _ rfl);simp only [Nat.mul_one, Nat.add_zero] at e0;have HE2 := zh ((Zcl hK).keep (G := F) hE' (fun _ h => h) (Zb.later hbel));have HS := zh (Nat.le_trans (Zek (Za2 sK) l l[j] (List.getElem_mem hlt)) (HSZ.o));clear hE' hcell hfacts;go_wp2_with fail;refine (Zkx hS hK hkid l[j] _ F wr HS.o HE2.o).mono ?_;rintro e w4 ⟨cs4, rfl, hE4, hb4⟩;have hmk4 := hmk.later (Zel hS hK).is hb4;have hB4 := hmk4.at_ hlt;have HN := zh (SMk.next (Zel hS hK) hmk hb4 hlt hE4);have hbel4 : Below w.heap.size w w4 := hbel.trans (Below.mono hb4 hbel.size);have HB5 := zh (Zbg hwB cs4 w4 (j * 6) hbel4);obtain ⟨tag4, vkids, rfl, hfacts⟩ := hE4;obtain ⟨_, _, rfl, _⟩ := hfacts.2.2.2.2.2;obtain ⟨hce, hfr⟩ := hB4;have f0 := hfr (j * 6 + 0);obtain ⟨u0, c0⟩ := hce 0 (by decide);have f1 := hfr (j * 6 + 1);obtain ⟨u1, c1⟩ := hce 1 (by decide);have f2 := hfr (j * 6 + 2);obtain ⟨u2, c2⟩ := hce 2 (by decide);have f3 := hfr (j * 6 + 3);obtain ⟨u3, c3⟩ := hce 3 (by decide);have f4 := hfr (j * 6 + 4)
   obtain ⟨u4, c4⟩ := hce 4 (by decide);have f5 := hfr (j * 6 + 5);obtain ⟨u5, c5⟩ := hce 5 (by decide);simp only [Nat.add_zero] at c0 f0;clear hce hfr hmk4 hmk hb4 hbel4;go_wp2_with fail
   go_roundw
   case rel => exact ⟨j + 1, by omega, by go_num, HN.o, HB5.o⟩
   case measure => simp [intOf]; omega
  ·have hjl : j = l.length := by omega
   have HD := zh (SMk.done (Zel hS hK) (by rw [hjl] at hmk; exact hmk) (G := fun b => w.heap.size ≤ b) (fun b h => by have := HBw.o; omega) (by unfold maxLen; omega));clear hmk;go_wp2_with fail;go_ret;exact ⟨_, rfl, HD.o, hbel⟩
theorem Zd7 : ∀ n, Zkw (Zm6 n) (Zds n) (szN n)
 | 0 => by
  intro l v F w hsz hr;obtain ⟨A, c, rfl, hc, hcm, hel⟩ := hr;unfold maxLen at hcm;have h0 : l.length = 0 := by
   rcases Nat.eq_zero_or_pos l.length with h | h
   ·exact h
   ·obtain ⟨b, o, cs, e, hF, hbl, hE, hcell⟩ := hel 0 h;exact hE.elim
  obtain rfl : l = [] := List.eq_nil_of_length_eq_zero h0;clear hel h0;obtain ⟨cur0, hcur0, hmkr⟩ := Zl5 0 (by omega);have hmk : ∀ w : World, (Instr.makeSlice 66 (.int .i64 0) (.int .i64 0)).run Tryz.prog w = .ok (.slice (some ⟨w.heap.size, 0, none⟩) 0 0) (w.alloc (.cells cur0 68)) := hmkr;clear hcur0 hmkr;go_enter Tryz.func165, Tryz.ntmps165;go_wp2_with fail;refine wp_loop_rounds 1 ?_;rw [rounds_succ];go_wp2_with fail;go_ret;exact ⟨_, rfl, ⟨_, 0, rfl, Nat.le_refl _, Nat.zero_le _, fun h => absurd h (by omega)⟩, (Below.refl _ _).alloc (Nat.le_refl _) _⟩
 | n + 1 => Zmq (Zbl n) (Zad n) (Zd7 n)
theorem Zlt (hS : Zc2 S K 6) (hK : Zb2 K 6) (hkid : Zkw S K sK) (r : Zaw) (cs : List Value) (F : Nat → Prop) (w : World) (hsz : (Zy sK) r ≤ 1048576) (h : (Zby K) F w r cs) :
  Calls Tryz.prog 72 #[.agg cs.toArray] w fun e w' => ∃ cs', e = .returned (.agg cs'.toArray) ∧ (Zcw S) (fun b => w.heap.size ≤ b) w' r cs' ∧ Below w.heap.size w w' := by
 obtain ⟨vslots, vbodykids, rfl, aK, hparams, hslots, hbody_kind, hbody_op, hbody_number, hbody_line, hbody_text, hbody_kids⟩ := h;have HSZ := zh (show r.name.size + (Zv ByteArray.size r.slots + ((Za2 sK) r.body)) ≤ 1048576 from hsz);clear hsz;have Hbody := zh (show (Zdf K) F w r.body [.int .i64 r.body.kind, .int .i64 r.body.op, .int .i64 r.body.aB, .int .i64 r.body.line, .string r.body.text, vbodykids] from ⟨vbodykids, rfl, hbody_kind, hbody_op, hbody_number, hbody_line, hbody_text, hbody_kids⟩);have Hname := zh aK;clear aK;have Hparams := zh hparams;clear hparams;have Hslots := zh hslots;clear hslots;clear hbody_kind;clear hbody_op;clear hbody_number;clear hbody_line;clear hbody_text;clear hbody_kids;have HP := zh (((Za.refl _).alloc (.cells #[.string ⟨#[]⟩, .int .i64 0, .slice none 0 0, .int .i64 0, .int .i64 0, .int .i64 0, .int .i64 0, .string ⟨#[]⟩, .slice none 0 0] 70)).alloc (.cells #[.string r.name, .int .i64 r.params, .slice none 0 0, .int .i64 0, .int .i64 0, .int .i64 0, .int .i64 0, .string ⟨#[]⟩, .slice none 0 0] 70) |>.block _ (by simp) |>.trans (heap_alloc_new w (.cells #[.string r.name, .int .i64 r.params, vslots, .int .i64 r.body.kind, .int .i64 r.body.op, .int .i64 r.body.aB, .int .i64 r.body.line, .string r.body.text, vbodykids] 124)));have HZ := zh ((Za.refl _).alloc (.cells #[.string r.name, .int .i64 r.params, .slice none 0 0, .int .i64 0, .int .i64 0, .int .i64 0, .int .i64 0, .string ⟨#[]⟩, .slice none 0 0] 70) |>.block _ (by simp) |>.trans (heap_alloc_new (w.alloc (.cells #[.string r.name, .int .i64 r.params, vslots, .int .i64 r.body.kind, .int .i64 r.body.op, .int .i64 r.body.aB, .int .i64 r.body.line, .string r.body.text, vbodykids] 124)) (.cells #[.string ⟨#[]⟩, .int .i64 0, .slice none 0 0, .int .i64 0, .int .i64 0, .int .i64 0, .int .i64 0, .string ⟨#[]⟩, .slice none 0 0] 70)))
 have HO := zh (heap_alloc_new ((w.alloc (.cells #[.string r.name, .int .i64 r.params, vslots, .int .i64 r.body.kind, .int .i64 r.body.op, .int .i64 r.body.aB, .int .i64 r.body.line, .string r.body.text, vbodykids] 124)).alloc (.cells #[.string ⟨#[]⟩, .int .i64 0, .slice none 0 0, .int .i64 0, .int .i64 0, .int .i64 0, .int .i64 0, .string ⟨#[]⟩, .slice none 0 0] 70)) (.cells #[.string r.name, .int .i64 r.params, .slice none 0 0, .int .i64 0, .int .i64 0, .int .i64 0, .int .i64 0, .string ⟨#[]⟩, .slice none 0 0] 70));simp only [Zbj] at HZ HO;have HB := zh ((((Below.refl w.heap.size w).alloc (Nat.le_refl _) (.cells #[.string r.name, .int .i64 r.params, vslots, .int .i64 r.body.kind, .int .i64 r.body.op, .int .i64 r.body.aB, .int .i64 r.body.line, .string r.body.text, vbodykids] 124)).alloc (by simp) (.cells #[.string ⟨#[]⟩, .int .i64 0, .slice none 0 0, .int .i64 0, .int .i64 0, .int .i64 0, .int .i64 0, .string ⟨#[]⟩, .slice none 0 0] 70)).alloc (by simp; omega) (.cells #[.string r.name, .int .i64 r.params, .slice none 0 0, .int .i64 0, .int .i64 0, .int .i64 0, .int .i64 0, .string ⟨#[]⟩, .slice none 0 0] 70));have hne1 : ¬ w.heap.size = w.heap.size + 2 := by omega
 have hne2 : ¬ w.heap.size + 1 = w.heap.size + 2 := by omega
 have hne3 : ¬ w.heap.size + 2 = w.heap.size + 1 := by omega
 have hne4 : ¬ w.heap.size = w.heap.size + 1 := by omega
 go_enter Tryz.func72, Tryz.ntmps72;go_wp2_with fail;have hlo := (Array.getElem?_eq_some_iff.1 HO.o).1;refine (Zfg r.slots vslots F _ (by have := HSZ.o; omega) (Hslots.o.later Zt HB.o)).mono ?_;rintro e w2 ⟨v', rfl, hr2, hb2⟩;obtain ⟨A2, c2, rfl, _⟩ := id hr2;have HR2 := zh ((hr2.trim Zw).keep Zw.is (G := fun b => w.heap.size + 2 < b ∧ b < w2.heap.size) (fun b h => ⟨by have := h.1; have := hlo; omega, h.2⟩) (Zb.refl _ _));have HM2 := zh (show w.heap.size + 3 ≤ w2.heap.size from by have := hlo; have := Below.size hb2; omega);replace HP := zC hb2 HP;replace HZ := zC hb2 HZ;replace HO := zC hb2 HO;replace HB := zh (HB.o.trans (Below.mono hb2 HB.o.size));clear hr2 hb2 hlo;have p0 := cz9 HP.o;have z0 := cz9 HZ.o;have o0 := cz9 HO.o;have fz0 := fz HZ.o;have fo0 := fz HO.o;replace HO := zh (Za1 (o := 2) HO.o (.slice A2 r.slots.length c2));simp only [List.setIfInBounds_toArray, List.set_cons_zero, List.set_cons_succ] at HO;replace HP := zh ((Below.heap_setCell _ ⟨w.heap.size + 2, 2, none⟩ (.slice A2 r.slots.length c2) _ hne1).trans HP.o);replace HZ := zh ((Below.heap_setCell _ ⟨w.heap.size + 2, 2, none⟩ (.slice A2 r.slots.length c2) _ hne2).trans HZ.o);replace HB := zh (HB.o.setCell (p := ⟨w.heap.size + 2, 2, none⟩) (by simp) (.slice A2 r.slots.length c2));replace HR2 := zh (HR2.o.keep Zw.is (fun _ h => h) ((Zb.later (F := _) (Za.refl w2)).set (B := w.heap.size + 2) (by have := HM2.o; omega) 2 (.slice A2 r.slots.length c2)))
 have HN := zh (show w2.heap.size ≤ _ from (((Zb.later (F := fun _ => False) (Za.refl w2)).set (B := w.heap.size + 2) (fun h => h) 2 (.slice A2 r.slots.length c2))).size);go_upto_region 5 with (fail);clear p0 z0 o0 fz0 fo0;have p0 := cz9 HP.o;go_wp2_with fail;have hlo := (Array.getElem?_eq_some_iff.1 HO.o).1;refine (Zkx hS hK hkid r.body _ F _ (by have := HSZ.o; omega) ((Zcl hK).keep Hbody.o (fun _ h => h) (Zb.later HB.o))).mono ?_;rintro e w3 ⟨cs3, rfl, hr3, hb3⟩;obtain ⟨tg3, vr3, rfl, g3_0, g3_1, g3_2, g3_3, g3_4, g3_5⟩ := hr3;have hq3 := g3_5;obtain ⟨A3, c3, rfl, _⟩ := id hq3;have HR3 := zh ((hq3.trim hS).keep hS.is (G := fun b => w2.heap.size ≤ b ∧ b < w3.heap.size) (fun b h => ⟨by have := h.1.1; have := HN.o; omega, h.2⟩) (Zb.refl _ _));have HM3 := zh (show w2.heap.size ≤ w3.heap.size from by have := HN.o; have := Below.size hb3; omega);clear hq3 g3_0 g3_1 g3_2 g3_3 g3_4 g3_5;replace HR2 := zh (HR2.o.keep Zw.is (fun _ h => h) (Zb.later hb3));replace HP := zC hb3 HP;replace HZ := zC hb3 HZ;replace HO := zC hb3 HO;replace HB := zh (HB.o.trans (Below.mono hb3 HB.o.size));clear hb3 hlo;have p0 := cz9 HP.o;have z0 := cz9 HZ.o;have o0 := cz9 HO.o;have fz0 := fz HZ.o;have fo0 := fz HO.o;replace HO := zh (Za1 (o := 8) (Za1 (o := 7) (Za1 (o := 6) (Za1 (o := 5) (Za1 (o := 4) (Za1 (o := 3) HO.o (.int .i64 r.body.kind)) (.int .i64 r.body.op)) (.int .i64 r.body.aB)) (.int .i64 r.body.line)) (.string r.body.text)) (.slice A3 r.body.kids.length c3))
 simp only [List.setIfInBounds_toArray, List.set_cons_zero, List.set_cons_succ] at HO;replace HP := zh ((Below.heap_setCell _ ⟨w.heap.size + 2, 8, none⟩ (.slice A3 r.body.kids.length c3) _ hne1).trans ((Below.heap_setCell _ ⟨w.heap.size + 2, 7, none⟩ (.string r.body.text) _ hne1).trans ((Below.heap_setCell _ ⟨w.heap.size + 2, 6, none⟩ (.int .i64 r.body.line) _ hne1).trans ((Below.heap_setCell _ ⟨w.heap.size + 2, 5, none⟩ (.int .i64 r.body.aB) _ hne1).trans ((Below.heap_setCell _ ⟨w.heap.size + 2, 4, none⟩ (.int .i64 r.body.op) _ hne1).trans ((Below.heap_setCell _ ⟨w.heap.size + 2, 3, none⟩ (.int .i64 r.body.kind) _ hne1).trans HP.o))))));replace HZ := zh ((Below.heap_setCell _ ⟨w.heap.size + 2, 8, none⟩ (.slice A3 r.body.kids.length c3) _ hne2).trans ((Below.heap_setCell _ ⟨w.heap.size + 2, 7, none⟩ (.string r.body.text) _ hne2).trans ((Below.heap_setCell _ ⟨w.heap.size + 2, 6, none⟩ (.int .i64 r.body.line) _ hne2).trans ((Below.heap_setCell _ ⟨w.heap.size + 2, 5, none⟩ (.int .i64 r.body.aB) _ hne2).trans ((Below.heap_setCell _ ⟨w.heap.size + 2, 4, none⟩ (.int .i64 r.body.op) _ hne2).trans ((Below.heap_setCell _ ⟨w.heap.size + 2, 3, none⟩ (.int .i64 r.body.kind) _ hne2).trans HZ.o))))));replace HB := zh ((((((HB.o.setCell (p := ⟨w.heap.size + 2, 3, none⟩) (by simp) (.int .i64 r.body.kind)).setCell (p := ⟨w.heap.size + 2, 4, none⟩) (by simp) (.int .i64 r.body.op)).setCell (p := ⟨w.heap.size + 2, 5, none⟩) (by simp) (.int .i64 r.body.aB)).setCell (p := ⟨w.heap.size + 2, 6, none⟩) (by simp) (.int .i64 r.body.line)).setCell (p := ⟨w.heap.size + 2, 7, none⟩) (by simp) (.string r.body.text)).setCell (p := ⟨w.heap.size + 2, 8, none⟩) (by simp) (.slice A3 r.body.kids.length c3))
 replace HR2 := zh (HR2.o.keep Zw.is (fun _ h => h) (((((((Zb.later (F := _) (Za.refl w3)).set (B := w.heap.size + 2) (by have := HM2.o; have := HM3.o; omega) 3 (.int .i64 r.body.kind)).set (B := w.heap.size + 2) (by have := HM2.o; have := HM3.o; omega) 4 (.int .i64 r.body.op)).set (B := w.heap.size + 2) (by have := HM2.o; have := HM3.o; omega) 5 (.int .i64 r.body.aB)).set (B := w.heap.size + 2) (by have := HM2.o; have := HM3.o; omega) 6 (.int .i64 r.body.line)).set (B := w.heap.size + 2) (by have := HM2.o; have := HM3.o; omega) 7 (.string r.body.text)).set (B := w.heap.size + 2) (by have := HM2.o; have := HM3.o; omega) 8 (.slice A3 r.body.kids.length c3)));replace HR3 := zh (HR3.o.keep hS.is (fun _ h => h) (((((((Zb.later (F := _) (Za.refl w3)).set (B := w.heap.size + 2) (by have := HM2.o; have := HM3.o; omega) 3 (.int .i64 r.body.kind)).set (B := w.heap.size + 2) (by have := HM2.o; have := HM3.o; omega) 4 (.int .i64 r.body.op)).set (B := w.heap.size + 2) (by have := HM2.o; have := HM3.o; omega) 5 (.int .i64 r.body.aB)).set (B := w.heap.size + 2) (by have := HM2.o; have := HM3.o; omega) 6 (.int .i64 r.body.line)).set (B := w.heap.size + 2) (by have := HM2.o; have := HM3.o; omega) 7 (.string r.body.text)).set (B := w.heap.size + 2) (by have := HM2.o; have := HM3.o; omega) 8 (.slice A3 r.body.kids.length c3)));replace HN := zh (show w3.heap.size ≤ _ from ((((((((Zb.later (F := fun _ => False) (Za.refl w3)).set (B := w.heap.size + 2) (fun h => h) 3 (.int .i64 r.body.kind)).set (B := w.heap.size + 2) (fun h => h) 4 (.int .i64 r.body.op)).set (B := w.heap.size + 2) (fun h => h) 5 (.int .i64 r.body.aB)).set (B := w.heap.size + 2) (fun h => h) 6 (.int .i64 r.body.line)).set (B := w.heap.size + 2) (fun h => h) 7 (.string r.body.text)).set (B := w.heap.size + 2) (fun h => h) 8 (.slice A3 r.body.kids.length c3))).size)
 go_upto_region 6 with (fail);clear p0 z0 o0 fz0 fo0;obtain ⟨wf, hwf⟩ : ∃ wf, wf = ((((((w3.setCell ⟨w.heap.size + 2, 3, none⟩ (.int .i64 r.body.kind)).setCell ⟨w.heap.size + 2, 4, none⟩ (.int .i64 r.body.op)).setCell ⟨w.heap.size + 2, 5, none⟩ (.int .i64 r.body.aB)).setCell ⟨w.heap.size + 2, 6, none⟩ (.int .i64 r.body.line)).setCell ⟨w.heap.size + 2, 7, none⟩ (.string r.body.text)).setCell ⟨w.heap.size + 2, 8, none⟩ (.slice A3 r.body.kids.length c3)) := ⟨_, rfl⟩;rw [← hwf] at HO HP HZ HB HR2 HR3 ⊢;clear hwf;have z0 := cz9 HZ.o;have o0 := cz9 HO.o;have fz0 := fz HZ.o;go_wp2_with fail;refine bodyPost_ret (v := .agg #[.string r.name, .int .i64 r.params, .slice A2 r.slots.length c2, .int .i64 r.body.kind, .int .i64 r.body.op, .int .i64 r.body.aB, .int .i64 r.body.line, .string r.body.text, .slice A3 r.body.kids.length c3]) (by simp [results, Tryz.results72, go_sem, z0, o0, fz0, hne3]) rfl ⟨[.string r.name, .int .i64 r.params, .slice A2 r.slots.length c2, .int .i64 r.body.kind, .int .i64 r.body.op, .int .i64 r.body.aB, .int .i64 r.body.line, .string r.body.text, .slice A3 r.body.kids.length c3], rfl, ?_, (((((((((HB.o.setCell (p := ⟨w.heap.size + 1, 0, none⟩) (by simp) _).setCell (p := ⟨w.heap.size + 1, 1, none⟩) (by simp) _).setCell (p := ⟨w.heap.size + 1, 2, none⟩) (by simp) _).setCell (p := ⟨w.heap.size + 1, 3, none⟩) (by simp) _).setCell (p := ⟨w.heap.size + 1, 4, none⟩) (by simp) _).setCell (p := ⟨w.heap.size + 1, 5, none⟩) (by simp) _).setCell (p := ⟨w.heap.size + 1, 6, none⟩) (by simp) _).setCell (p := ⟨w.heap.size + 1, 7, none⟩) (by simp) _).setCell (p := ⟨w.heap.size + 1, 8, none⟩) (by simp) _)⟩
 obtain ⟨_, e3, k3_0, k3_1, k3_2, k3_3, k3_4, k3_5⟩ := Hbody.o;have := HM2.o; have := HM3.o;have kk := Zbn (F := fun y => y ≠ w.heap.size + 1) (fun h => h rfl) [.string r.name, .int .i64 r.params, .slice A2 r.slots.length c2, .int .i64 r.body.kind, .int .i64 r.body.op, .int .i64 r.body.aB, .int .i64 r.body.line, .string r.body.text, .slice A3 r.body.kids.length c3] wf 0 (Zb.refl _ _);simp only [Zbh, Nat.zero_add, Nat.reduceAdd] at kk;exact ⟨(fun y => if y < w2.heap.size then 0 else (1 : Nat)), _, _, rfl, Hname.o, Hparams.o, HR2.o.keep Zw.is (fun b h => ⟨by have := h.1; omega, by have := h.1; have := h.2; dsimp only; (repeat' split) <;> omega⟩) (kk.mono fun b h => by have := h.1; have := h.2; omega), k3_0, k3_1, k3_2, k3_3, k3_4, HR3.o.keep hS.is (fun b h => ⟨by have := h.1; omega, by have := h.1; have := h.2; dsimp only; (repeat' split) <;> omega⟩) (kk.mono fun b h => by have := h.1; have := h.2; omega)⟩
theorem Zmr : (Tryz.prog.info? 70).map (fun i => (i.zero, i.size, i.bytes)) = some (some (.agg #[.string ⟨#[]⟩, .int .i64 0, .slice none 0 0, .int .i64 0, .int .i64 0, .int .i64 0, .int .i64 0, .string ⟨#[]⟩, .slice none 0 0]), 9, 120) := by kernel_rfl
theorem Zms (n : Nat) (hn : n ≤ 2097152) : ∃ cur : Array Value, cur.size = n * 9 ∧ ∀ w : World, (Instr.makeSlice 35 (.int .i64 (n : Int)) (.int .i64 (n : Int))).run Tryz.prog w = .ok (.slice (some ⟨w.heap.size, 0, none⟩) n n) (w.alloc (.cells cur 70)) := by
 obtain ⟨i, hi, hz0, hz1, hz2⟩ := info_parts Zmr;refine ⟨madeCells (Value.cells (.agg #[.string ⟨#[]⟩, .int .i64 0, .slice none 0 0, .int .i64 0, .int .i64 0, .int .i64 0, .int .i64 0, .string ⟨#[]⟩, .slice none 0 0])) (n * 9), size_madeCells _ _, fun w => ?_⟩;have := run_make (P := Tryz.prog) w 35 70 i _ Tryz.underlying35 hi hz0 .i64 .i64 n n (by omega) (by omega) (by rw [hz2]; omega) (by omega);rw [hz1] at this
 simpa using this
theorem Zky (hS : Zc2 S K 6) (hK : Zb2 K 6) (hkid : Zkw S K sK) (l : List Zaw) (v : Value) (F : Nat → Prop) (w : World) (hsz : Zv (Zy sK) l ≤ 1048576) (hr : Z5 (Zby K) 9 F w l v) :
  Calls Tryz.prog 29 #[v] w fun e w' => ∃ v', e = .returned v' ∧ Zah (Zcw S) 9 70 (fun b => w.heap.size ≤ b) w' l v' ∧ Below w.heap.size w w' := by
 obtain ⟨A, c, rfl, hc, hcm, hel⟩ := hr;have HEL := zh hel;have hlen : l.length ≤ 1048576 := by unfold Zv at hsz; omega
 have HSZ := zh (show Za8 (Zy sK) l ≤ 1048576 by unfold Zv at hsz; omega);clear hel hsz hcm;obtain ⟨cur0, hcur0, hmkr⟩ := Zms l.length (by omega);have HC0 := zh hcur0;clear hcur0;go_enter Tryz.func29, Tryz.ntmps29;go_wp2_with fail;obtain ⟨B, hB⟩ : ∃ B, w.heap.size = B := ⟨_, rfl⟩;have hwB : w.heap.size ≤ B := by omega
 have HS0 : Hd (SMk (Zcw S) 9 70 B l 0 (w.alloc (.cells cur0 70))) := zh (SMk.start (by rw [← hB]; exact heap_alloc_new w _) HC0.o);have HBe := zh ((Below.refl w.heap.size w).alloc (Nat.le_refl _) (.cells cur0 70));rw [hB];clear hmkr HC0;have HBw := zh hB;clear hB
 go_loopw [4] (fun i wr => ∃ j : Nat, j ≤ l.length ∧ i = .int .i64 j ∧ SMk (Zcw S) 9 70 B l j wr ∧ Below w.heap.size w wr) (fun i _ => l.length - (intOf i).toNat)
 case atStart => exact ⟨0, Nat.zero_le _, rfl, HS0.o, HBe.o⟩
 case round =>
  obtain ⟨j, hj, rfl, hmk, hbel⟩ := hrel;have hBw : B < wr.heap.size := hmk.lt
  by_cases hlt : j < l.length
  ·obtain ⟨b, o, cs, rfl, hF, hbl, hE, hcell⟩ := HEL.o j hlt;have hE' := hE;obtain ⟨vslots, vbodykids, rfl, hfacts⟩ := hE;have hlt' : (j : Int) < l.length := by omega
   have e0 := (hbel.cell (p := ⟨b, o + j * 9 + 0, none⟩) hbl).trans (hcell 0 _ rfl);have e1 := (hbel.cell (p := ⟨b, o + j * 9 + 1, none⟩) hbl).trans (hcell 1 _ rfl);have e2 := (hbel.cell (p := ⟨b, o + j * 9 + 2, none⟩) hbl).trans (hcell 2 _ rfl);have e3 := (hbel.cell (p := ⟨b, o + j * 9 + 3, none⟩) hbl).trans (hcell 3 _ rfl);have e4 := (hbel.cell (p := ⟨b, o + j * 9 + 4, none⟩) hbl).trans (hcell 4 _ rfl);have e5 := (hbel.cell (p := ⟨b, o + j * 9 + 5, none⟩) hbl).trans (hcell 5 _ rfl);have e6 := (hbel.cell (p := ⟨b, o + j * 9 + 6, none⟩) hbl).trans (hcell 6 _ rfl);have e7 := (hbel.cell (p := ⟨b, o + j * 9 + 7, none⟩) hbl).trans (hcell 7 _ rfl);have e8 := (hbel.cell (p := ⟨b, o + j * 9 + 8, none⟩) hbl).trans (hcell 8 _ rfl);simp only [Nat.mul_one, Nat.add_zero] at e0;have HE2 := zh ((Za9 hK).keep (G := F) hE' (fun _ h => h) (Zb.later hbel));have HS := zh (Nat.le_trans (Zek (Zy sK) l l[j] (List.getElem_mem hlt)) (HSZ.o));clear hE' hcell hfacts;go_wp2_with fail;refine (Zlt hS hK hkid l[j] _ F wr HS.o HE2.o).mono ?_;rintro e w4 ⟨cs4, rfl, hE4, hb4⟩;have hmk4 := hmk.later (Zai hS hK).is hb4;have hB4 := hmk4.at_ hlt;have HN := zh (SMk.next (Zai hS hK) hmk hb4 hlt hE4);have hbel4 : Below w.heap.size w w4 := hbel.trans (Below.mono hb4 hbel.size);have HB5 := zh (Zbg hwB cs4 w4 (j * 9) hbel4);obtain ⟨tag4, vslots, vbodykids, rfl, hfacts⟩ := hE4;obtain ⟨_, _, rfl, _⟩ := hfacts.2.2.1;obtain ⟨_, _, rfl, _⟩ := hfacts.2.2.2.2.2.2.2.2
   obtain ⟨hce, hfr⟩ := hB4;have f0 := hfr (j * 9 + 0);obtain ⟨u0, c0⟩ := hce 0 (by decide);have f1 := hfr (j * 9 + 1);obtain ⟨u1, c1⟩ := hce 1 (by decide);have f2 := hfr (j * 9 + 2);obtain ⟨u2, c2⟩ := hce 2 (by decide);have f3 := hfr (j * 9 + 3);obtain ⟨u3, c3⟩ := hce 3 (by decide);have f4 := hfr (j * 9 + 4);obtain ⟨u4, c4⟩ := hce 4 (by decide);have f5 := hfr (j * 9 + 5);obtain ⟨u5, c5⟩ := hce 5 (by decide);have f6 := hfr (j * 9 + 6);obtain ⟨u6, c6⟩ := hce 6 (by decide);have f7 := hfr (j * 9 + 7);obtain ⟨u7, c7⟩ := hce 7 (by decide);have f8 := hfr (j * 9 + 8);obtain ⟨u8, c8⟩ := hce 8 (by decide);simp only [Nat.add_zero] at c0 f0;clear hce hfr hmk4 hmk hb4 hbel4;go_wp2_with fail
   go_roundw
   case rel => exact ⟨j + 1, by omega, by go_num, HN.o, HB5.o⟩
   case measure => simp [intOf]; omega
  ·have hjl : j = l.length := by omega
   have HD := zh (SMk.done (Zai hS hK) (by rw [hjl] at hmk; exact hmk) (G := fun b => w.heap.size ≤ b) (fun b h => by have := HBw.o; omega) (by unfold maxLen; omega));clear hmk;go_wp2_with fail;go_ret;exact ⟨_, rfl, HD.o, hbel⟩
theorem Zd3 (hS : Zc2 S K 6) (hK : Zb2 K 6) (hkid : Zkw S K sK) (r : Zu) (cs : List Value) (F : Nat → Prop) (w : World) (hsz : (Zab sK) r ≤ 1048576) (h : (Zdj K) F w r cs) :
  Calls Tryz.prog 7 #[.agg cs.toArray] w fun e w' => ∃ cs', e = .returned (.agg cs'.toArray) ∧ (Zfh S) (fun b => w.heap.size ≤ b) w' r cs' ∧ Below w.heap.size w w' := by
 obtain ⟨vroutines, aC, aD, rfl, hroutines, aF, aG, hmain⟩ := h;have HSZ := zh (show Zv (Zy sK) r.routines + (Zv Zo r.aA + (Zv ByteArray.size r.globals)) ≤ 1048576 from hsz);clear hsz;have Hroutines := zh hroutines;clear hroutines;have Hrecords := zh aF;clear aF;have Hglobals := zh aG;clear aG;have Hmain := zh hmain;clear hmain;have HP := zh (((Za.refl _).alloc (.cells #[.slice none 0 0, .slice none 0 0, .slice none 0 0, .int .i64 0] 37)).alloc (.cells #[.slice none 0 0, .slice none 0 0, .slice none 0 0, .int .i64 0] 37) |>.block _ (by simp) |>.trans (heap_alloc_new w (.cells #[vroutines, aC, aD, .int .i64 r.main] 26)));have HZ := zh ((Za.refl _).alloc (.cells #[.slice none 0 0, .slice none 0 0, .slice none 0 0, .int .i64 0] 37) |>.block _ (by simp) |>.trans (heap_alloc_new (w.alloc (.cells #[vroutines, aC, aD, .int .i64 r.main] 26)) (.cells #[.slice none 0 0, .slice none 0 0, .slice none 0 0, .int .i64 0] 37)));have HO := zh (heap_alloc_new ((w.alloc (.cells #[vroutines, aC, aD, .int .i64 r.main] 26)).alloc (.cells #[.slice none 0 0, .slice none 0 0, .slice none 0 0, .int .i64 0] 37)) (.cells #[.slice none 0 0, .slice none 0 0, .slice none 0 0, .int .i64 0] 37));simp only [Zbj] at HZ HO;have HB := zh ((((Below.refl w.heap.size w).alloc (Nat.le_refl _) (.cells #[vroutines, aC, aD, .int .i64 r.main] 26)).alloc (by simp) (.cells #[.slice none 0 0, .slice none 0 0, .slice none 0 0, .int .i64 0] 37)).alloc (by simp; omega) (.cells #[.slice none 0 0, .slice none 0 0, .slice none 0 0, .int .i64 0] 37))
 have hne1 : ¬ w.heap.size = w.heap.size + 2 := by omega
 have hne2 : ¬ w.heap.size + 1 = w.heap.size + 2 := by omega
 have hne3 : ¬ w.heap.size + 2 = w.heap.size + 1 := by omega
 have hne4 : ¬ w.heap.size = w.heap.size + 1 := by omega
 go_enter Tryz.func7, Tryz.ntmps7;go_wp2_with fail;have hlo := (Array.getElem?_eq_some_iff.1 HO.o).1;refine (Zky hS hK hkid r.routines vroutines F _ (by have := HSZ.o; omega) (Hroutines.o.later (Za9 hK) HB.o)).mono ?_;rintro e w0 ⟨v', rfl, hr0, hb0⟩;obtain ⟨A0, c0, rfl, _⟩ := id hr0;have HR0 := zh ((hr0.trim (Zai hS hK)).keep (Zai hS hK).is (G := fun b => w.heap.size + 2 < b ∧ b < w0.heap.size) (fun b h => ⟨by have := h.1; have := hlo; omega, h.2⟩) (Zb.refl _ _));have HM0 := zh (show w.heap.size + 3 ≤ w0.heap.size from by have := hlo; have := Below.size hb0; omega);replace HP := zC hb0 HP;replace HZ := zC hb0 HZ;replace HO := zC hb0 HO;replace HB := zh (HB.o.trans (Below.mono hb0 HB.o.size));clear hr0 hb0 hlo;have p0 := cz4 HP.o;have z0 := cz4 HZ.o;have o0 := cz4 HO.o;have fz0 := fz HZ.o;have fo0 := fz HO.o;replace HO := zh (Za1 (o := 0) HO.o (.slice A0 r.routines.length c0));simp only [List.setIfInBounds_toArray, List.set_cons_zero, List.set_cons_succ] at HO;replace HP := zh ((Below.heap_setCell _ ⟨w.heap.size + 2, 0, none⟩ (.slice A0 r.routines.length c0) _ hne1).trans HP.o);replace HZ := zh ((Below.heap_setCell _ ⟨w.heap.size + 2, 0, none⟩ (.slice A0 r.routines.length c0) _ hne2).trans HZ.o);replace HB := zh (HB.o.setCell (p := ⟨w.heap.size + 2, 0, none⟩) (by simp) (.slice A0 r.routines.length c0));replace HR0 := zh (HR0.o.keep (Zai hS hK).is (fun _ h => h) ((Zb.later (F := _) (Za.refl w0)).set (B := w.heap.size + 2) (by have := HM0.o; omega) 0 (.slice A0 r.routines.length c0)))
 have HN := zh (show w0.heap.size ≤ _ from (((Zb.later (F := fun _ => False) (Za.refl w0)).set (B := w.heap.size + 2) (fun h => h) 0 (.slice A0 r.routines.length c0))).size);go_upto_region 3 with (fail);clear p0 z0 o0 fz0 fo0;have p0 := cz4 HP.o;go_wp2_with fail;have hlo := (Array.getElem?_eq_some_iff.1 HO.o).1;refine (Zih r.aA aC F _ (by have := HSZ.o; omega) (Hrecords.o.later Z7 HB.o)).mono ?_;rintro e w1 ⟨v', rfl, hr1, hb1⟩;obtain ⟨A1, c1, rfl, _⟩ := id hr1;have HR1 := zh ((hr1.trim Zj).keep Zj.is (G := fun b => w0.heap.size ≤ b ∧ b < w1.heap.size) (fun b h => ⟨by have := h.1; have := HN.o; omega, h.2⟩) (Zb.refl _ _));have HM1 := zh (show w0.heap.size ≤ w1.heap.size from by have := HN.o; have := Below.size hb1; omega);replace HR0 := zh (HR0.o.keep (Zai hS hK).is (fun _ h => h) (Zb.later hb1));replace HP := zC hb1 HP;replace HZ := zC hb1 HZ;replace HO := zC hb1 HO;replace HB := zh (HB.o.trans (Below.mono hb1 HB.o.size));clear hr1 hb1 hlo;have p0 := cz4 HP.o;have z0 := cz4 HZ.o;have o0 := cz4 HO.o;have fz0 := fz HZ.o;have fo0 := fz HO.o;replace HO := zh (Za1 (o := 1) HO.o (.slice A1 r.aA.length c1));simp only [List.setIfInBounds_toArray, List.set_cons_zero, List.set_cons_succ] at HO;replace HP := zh ((Below.heap_setCell _ ⟨w.heap.size + 2, 1, none⟩ (.slice A1 r.aA.length c1) _ hne1).trans HP.o)
 replace HZ := zh ((Below.heap_setCell _ ⟨w.heap.size + 2, 1, none⟩ (.slice A1 r.aA.length c1) _ hne2).trans HZ.o);replace HB := zh (HB.o.setCell (p := ⟨w.heap.size + 2, 1, none⟩) (by simp) (.slice A1 r.aA.length c1));replace HR0 := zh (HR0.o.keep (Zai hS hK).is (fun _ h => h) ((Zb.later (F := _) (Za.refl w1)).set (B := w.heap.size + 2) (by have := HM0.o; have := HM1.o; omega) 1 (.slice A1 r.aA.length c1)));replace HR1 := zh (HR1.o.keep Zj.is (fun _ h => h) ((Zb.later (F := _) (Za.refl w1)).set (B := w.heap.size + 2) (by have := HM0.o; have := HM1.o; omega) 1 (.slice A1 r.aA.length c1)));replace HN := zh (show w1.heap.size ≤ _ from (((Zb.later (F := fun _ => False) (Za.refl w1)).set (B := w.heap.size + 2) (fun h => h) 1 (.slice A1 r.aA.length c1))).size);go_upto_region 4 with (fail);clear p0 z0 o0 fz0 fo0;have p0 := cz4 HP.o;go_wp2_with fail;have hlo := (Array.getElem?_eq_some_iff.1 HO.o).1;refine (Zfg r.globals aD F _ (by have := HSZ.o; omega) (Hglobals.o.later Zt HB.o)).mono ?_;rintro e w2 ⟨v', rfl, hr2, hb2⟩;obtain ⟨A2, c2, rfl, _⟩ := id hr2;have HR2 := zh ((hr2.trim Zw).keep Zw.is (G := fun b => w1.heap.size ≤ b ∧ b < w2.heap.size) (fun b h => ⟨by have := h.1; have := HN.o; omega, h.2⟩) (Zb.refl _ _));have HM2 := zh (show w1.heap.size ≤ w2.heap.size from by have := HN.o; have := Below.size hb2; omega);replace HR0 := zh (HR0.o.keep (Zai hS hK).is (fun _ h => h) (Zb.later hb2))
 replace HR1 := zh (HR1.o.keep Zj.is (fun _ h => h) (Zb.later hb2));replace HP := zC hb2 HP;replace HZ := zC hb2 HZ;replace HO := zC hb2 HO;replace HB := zh (HB.o.trans (Below.mono hb2 HB.o.size));clear hr2 hb2 hlo;have p0 := cz4 HP.o;have z0 := cz4 HZ.o;have o0 := cz4 HO.o;have fz0 := fz HZ.o;have fo0 := fz HO.o;replace HO := zh (Za1 (o := 3) (Za1 (o := 2) HO.o (.slice A2 r.globals.length c2)) (.int .i64 r.main));simp only [List.setIfInBounds_toArray, List.set_cons_zero, List.set_cons_succ] at HO;replace HP := zh ((Below.heap_setCell _ ⟨w.heap.size + 2, 3, none⟩ (.int .i64 r.main) _ hne1).trans ((Below.heap_setCell _ ⟨w.heap.size + 2, 2, none⟩ (.slice A2 r.globals.length c2) _ hne1).trans HP.o));replace HZ := zh ((Below.heap_setCell _ ⟨w.heap.size + 2, 3, none⟩ (.int .i64 r.main) _ hne2).trans ((Below.heap_setCell _ ⟨w.heap.size + 2, 2, none⟩ (.slice A2 r.globals.length c2) _ hne2).trans HZ.o));replace HB := zh ((HB.o.setCell (p := ⟨w.heap.size + 2, 2, none⟩) (by simp) (.slice A2 r.globals.length c2)).setCell (p := ⟨w.heap.size + 2, 3, none⟩) (by simp) (.int .i64 r.main));replace HR0 := zh (HR0.o.keep (Zai hS hK).is (fun _ h => h) (((Zb.later (F := _) (Za.refl w2)).set (B := w.heap.size + 2) (by have := HM0.o; have := HM1.o; have := HM2.o; omega) 2 (.slice A2 r.globals.length c2)).set (B := w.heap.size + 2) (by have := HM0.o; have := HM1.o; have := HM2.o; omega) 3 (.int .i64 r.main)));replace HR1 := zh (HR1.o.keep Zj.is (fun _ h => h) (((Zb.later (F := _) (Za.refl w2)).set (B := w.heap.size + 2) (by have := HM0.o; have := HM1.o; have := HM2.o; omega) 2 (.slice A2 r.globals.length c2)).set (B := w.heap.size + 2) (by have := HM0.o; have := HM1.o; have := HM2.o; omega) 3 (.int .i64 r.main)))
 replace HR2 := zh (HR2.o.keep Zw.is (fun _ h => h) (((Zb.later (F := _) (Za.refl w2)).set (B := w.heap.size + 2) (by have := HM0.o; have := HM1.o; have := HM2.o; omega) 2 (.slice A2 r.globals.length c2)).set (B := w.heap.size + 2) (by have := HM0.o; have := HM1.o; have := HM2.o; omega) 3 (.int .i64 r.main)));replace HN := zh (show w2.heap.size ≤ _ from ((((Zb.later (F := fun _ => False) (Za.refl w2)).set (B := w.heap.size + 2) (fun h => h) 2 (.slice A2 r.globals.length c2)).set (B := w.heap.size + 2) (fun h => h) 3 (.int .i64 r.main))).size);go_upto_region 6 with (fail);clear p0 z0 o0 fz0 fo0;obtain ⟨wf, hwf⟩ : ∃ wf, wf = ((w2.setCell ⟨w.heap.size + 2, 2, none⟩ (.slice A2 r.globals.length c2)).setCell ⟨w.heap.size + 2, 3, none⟩ (.int .i64 r.main)) := ⟨_, rfl⟩;rw [← hwf] at HO HP HZ HB HR0 HR1 HR2 ⊢;clear hwf;have z0 := cz4 HZ.o;have o0 := cz4 HO.o;have fz0 := fz HZ.o;go_wp2_with fail;refine bodyPost_ret (v := .agg #[.slice A0 r.routines.length c0, .slice A1 r.aA.length c1, .slice A2 r.globals.length c2, .int .i64 r.main]) (by simp [results, Tryz.results7, go_sem, z0, o0, fz0, hne3]) rfl ⟨[.slice A0 r.routines.length c0, .slice A1 r.aA.length c1, .slice A2 r.globals.length c2, .int .i64 r.main], rfl, ?_, ((((HB.o.setCell (p := ⟨w.heap.size + 1, 0, none⟩) (by simp) _).setCell (p := ⟨w.heap.size + 1, 1, none⟩) (by simp) _).setCell (p := ⟨w.heap.size + 1, 2, none⟩) (by simp) _).setCell (p := ⟨w.heap.size + 1, 3, none⟩) (by simp) _)⟩
 have := HM0.o; have := HM1.o; have := HM2.o;have kk := Zbn (F := fun y => y ≠ w.heap.size + 1) (fun h => h rfl) [.slice A0 r.routines.length c0, .slice A1 r.aA.length c1, .slice A2 r.globals.length c2, .int .i64 r.main] wf 0 (Zb.refl _ _);simp only [Zbh, Nat.zero_add, Nat.reduceAdd] at kk;exact ⟨(fun y => if y < w0.heap.size then 0 else if y < w1.heap.size then 1 else (2 : Nat)), _, _, _, rfl, HR0.o.keep (Zai hS hK).is (fun b h => ⟨by have := h.1; omega, by have := h.1; have := h.2; dsimp only; (repeat' split) <;> omega⟩) (kk.mono fun b h => by have := h.1; have := h.2; omega), HR1.o.keep Zj.is (fun b h => ⟨by have := h.1; omega, by have := h.1; have := h.2; dsimp only; (repeat' split) <;> omega⟩) (kk.mono fun b h => by have := h.1; have := h.2; omega), HR2.o.keep Zw.is (fun b h => ⟨by have := h.1; omega, by have := h.1; have := h.2; dsimp only; (repeat' split) <;> omega⟩) (kk.mono fun b h => by have := h.1; have := h.2; omega), Hmain.o⟩
end
end
theorem Zgm : Ztl Zbe 1 where
 is := Zt
 any := fun h => h
 one := fun h u hu => by
  obtain ⟨e, _⟩ := h;subst e;simp at hu
  rcases hu with rfl <;> rfl
theorem Zc6 {w : World} {o : Array Value} {T : TypeId} {k : Nat} (h : k = w.heap.size) : (w.alloc (.cells o T)).heap[k]? = some (.cells o T (0, 0)) := by subst h; exact heap_alloc_new w _
theorem Zpk (w : World) (l : List Value) (T : TypeId) : ∀ j u, l[j]? = some u → (w.alloc (.cells l.toArray T)).cell? ((⟨w.heap.size, 0, none⟩ : Addr).add j) = some u := fun j u h => by
 rw [Zq0, Nat.zero_add, cell_of_row _ _ _ _ _ _ (heap_alloc_new w _)]
 simpa using h
theorem Zgw.form {α : Type} {S : Za6 α} {size : Nat} {T : TypeId} {base : Nat} {l : List α} {v : Value} {w : World} {xs : List Value} {tag : Nat → Nat} (h : Zgw S size T base l v w xs tag) : ∃ A c, v = .slice A l.length c := by
 obtain ⟨A, c, e, _⟩ := h.row.form;exact ⟨A, c, e⟩
theorem Zjw (l : List Zam) (v : Value) (F : Nat → Prop) (w : World) (hsz : Zv Zo l ≤ 2097152) (hr : Z5 Zao 3 F w l v) :
  Calls Tryz.prog 33 #[v] w fun e w' => ∃ v', e = .returned v' ∧ Zah Zaa 3 101 (fun b => w.heap.size ≤ b) w' l v' ∧ Below w.heap.size w w' := by
 obtain ⟨iStringS, hiStringS, hzStringS0, hzStringS1, hzStringS2⟩ := info_parts Zd6;obtain ⟨iRecordTypeS, hiRecordTypeS, hzRecordTypeS0, hzRecordTypeS1, hzRecordTypeS2⟩ := info_parts Zed;obtain ⟨A, c, rfl, hc, hcm, hel⟩ := hr;unfold maxLen at hcm;have HEL := zh hel;have HSZ := zh (show l.length + Za8 Zo l ≤ 2097152 from hsz);have hlen : l.length ≤ 2097152 := by have := HSZ.o; omega
 clear hel hsz;go_enter Tryz.func33, Tryz.ntmps33;go_wp2_with fail;have HS0 : Hd (Zkb Zaa 3 101 w.heap.size [] (.slice (some ⟨w.heap.size, 0, none⟩) 0 0) (w.alloc (.cells #[] 101))) := zh (Zkb.fresh (Zc6 rfl) (Nat.le_refl _))
 go_loopw [3, 9] (fun ov iv wr => ∃ (j : Nat) (vo : Value) (dl : List Zam), vo = ov ∧ iv = .int .i64 j ∧ j ≤ l.length ∧ Hd (dl = l.take j) ∧ Zkb Zaa 3 101 w.heap.size dl vo wr ∧ Below w.heap.size w wr) (fun _ iv _ => l.length - (intOf iv).toNat)
 case atStart => exact ⟨0, _, [], rfl, rfl, Nat.zero_le _, zh (by simp), HS0.o, (Below.refl _ _).alloc (Nat.le_refl _) _⟩
 case round =>
  obtain ⟨j, vo, dl, rfl, rfl, hj, HDL, hso, hbel⟩ := hrel;have HB := zh hbel
  by_cases hlt : j < l.length
  ·have hlt' : (j : Int) < l.length := by omega
   obtain ⟨xs, tg, hat⟩ := hso;have HAT := zh hat;obtain ⟨Ao, co, hvo⟩ := hat.form;subst hvo;have hdl : dl.length ≤ 2097152 := by rw [HDL.o, List.length_take]; omega
   have hwb : w.heap.size ≤ wr.heap.size := hbel.size;clear hat hbel;obtain ⟨b, o, cs, rfl, hF, hbl, hE, hcell⟩ := HEL.o j hlt;obtain ⟨vf, rfl, hnm, hfl0, hln⟩ := hE;have HN := zh hnm;have HLN := zh hln;have HF0 := zh (hfl0.keep Zt (G := F) (fun _ h => h) (Zb.later HB.o));have hfl : l[j].fields.length ≤ 2097152 := by
    have h1 := Zek Zo l l[j] (List.getElem_mem hlt);have h2 : Zo l[j] = l[j].name.size + (l[j].fields.length + Za8 ByteArray.size l[j].fields) := rfl;have := HSZ.o
    omega
   obtain ⟨Af, cf, hvf, _⟩ := id hfl0;have e0 := (HB.o.cell (p := ⟨b, o + j * 3 + 0, none⟩) hbl).trans (hcell 0 _ rfl);have e1 := (HB.o.cell (p := ⟨b, o + j * 3 + 1, none⟩) hbl).trans (hcell 1 _ rfl);have e2 := (HB.o.cell (p := ⟨b, o + j * 3 + 2, none⟩) hbl).trans (hcell 2 _ rfl);simp only [Nat.add_zero] at e0;subst hvf;clear hnm hln hfl0 hcell;go_upto_region 5 with (fail);clear e0 e1 e2;have HXB := zh (heap_alloc_new wr (.cells #[.string l[j].name, .slice Af l[j].fields.length cf, .int .i64 l[j].line] 101));have hbx : wr.heap.size < (wr.alloc (.cells #[.string l[j].name, .slice Af l[j].fields.length cf, .int .i64 l[j].line] 101)).heap.size := Zc HXB.o;have e0 := cell_of_row (wr.alloc (.cells #[.string l[j].name, .slice Af l[j].fields.length cf, .int .i64 l[j].line] 101)) wr.heap.size 0 _ _ _ HXB.o;have e1 := cell_of_row (wr.alloc (.cells #[.string l[j].name, .slice Af l[j].fields.length cf, .int .i64 l[j].line] 101)) wr.heap.size 1 _ _ _ HXB.o;have e2 := cell_of_row (wr.alloc (.cells #[.string l[j].name, .slice Af l[j].fields.length cf, .int .i64 l[j].line] 101)) wr.heap.size 2 _ _ _ HXB.o;simp only [nD, nE, nF] at e0 e1 e2;refine Z3 [11, 12] [] (by kernel_rfl) (fun W hW => ?_);have hWL : Za (wr.alloc (.cells #[.string l[j].name, .slice Af l[j].fields.length cf, .int .i64 l[j].line] 101)) W := by rw [hW]; exact (Za.refl _).drew
   have eW0 := (hWL.cell ⟨wr.heap.size, 0, none⟩ hbx).trans e0;have eW1 := (hWL.cell ⟨wr.heap.size, 1, none⟩ hbx).trans e1;have eW2 := (hWL.cell ⟨wr.heap.size, 2, none⟩ hbx).trans e2;have hbW : wr.heap.size < W.heap.size := Nat.lt_of_lt_of_le hbx hWL.size;have HLW := zh (((Za.refl wr).alloc _).trans hWL);have HF := zh (HF0.o.later Zt HLW.o);clear hW hWL e0 e1 e2;refine tU 0 13 (v := ?_) rfl rfl (fun x hx => ?_) ?_;rotate_left
   ·go_simp;first|done|with_reducible rfl
   simp only [Act.put, nA, nB, nC];refine tU 1 14 (v := ?_) rfl rfl (fun x hx => ?_) ?_;rotate_left
   ·go_simp;first|done|with_reducible rfl
   simp only [Act.put, nA, nB, nC];refine tU 2 15 (v := ?_) rfl rfl (fun x hx => ?_) ?_;rotate_left
   ·have x0 := (hx.cell ⟨wr.heap.size, 0, none⟩ hbW).trans eW0; have x1 := (hx.cell ⟨wr.heap.size, 1, none⟩ hbW).trans eW1; have x2 := (hx.cell ⟨wr.heap.size, 2, none⟩ hbW).trans eW2; go_simp;first|done|with_reducible rfl
   simp only [Act.put, nA, nB, nC];refine tU 4 17 (v := ?_) rfl rfl (fun x hx => ?_) ?_;rotate_left
   ·go_simp;first|done|with_reducible rfl
   simp only [Act.put, nA, nB, nC];refine tU 5 18 (v := ?_) rfl rfl (fun x hx => ?_) ?_;rotate_left
   ·have x0 := (hx.cell ⟨wr.heap.size, 0, none⟩ hbW).trans eW0; have x1 := (hx.cell ⟨wr.heap.size, 1, none⟩ hbW).trans eW1; have x2 := (hx.cell ⟨wr.heap.size, 2, none⟩ hbW).trans eW2; go_simp;first|done|with_reducible rfl
   simp only [Act.put, nA, nB, nC];refine tU 7 20 (v := ?_) rfl rfl (fun x hx => ?_) ?_;rotate_left
   ·go_simp;first|done|with_reducible rfl
   simp only [Act.put, nA, nB, nC];refine tU 8 21 (v := ?_) rfl rfl (fun x hx => ?_) ?_;rotate_left
   ·have x0 := (hx.cell ⟨wr.heap.size, 0, none⟩ hbW).trans eW0; have x1 := (hx.cell ⟨wr.heap.size, 1, none⟩ hbW).trans eW1; have x2 := (hx.cell ⟨wr.heap.size, 2, none⟩ hbW).trans eW2; go_simp;first|done|with_reducible rfl
   simp only [Act.put, nA, nB, nC];refine Zca 3 (by kernel_rfl) rfl rfl ?_;go_wp2_with fail;refine ⟨(Za.refl _).alloc _, ?_⟩;have HLX := zh ((Za.refl W).alloc (.cells #[] 9));refine Zca 6 (by kernel_rfl) rfl rfl ?_;refine Zet Zgm (by decide) rfl _ _ 24 rfl 9 iStringS (.string ⟨#[]⟩) 16 Tryz.underlying24 hiStringS hzStringS0 hzStringS1 hzStringS2 rfl rfl (Zc6 rfl) rfl (HF.o.later Zt HLX.o) hfl (by decide) ?_;intro v4 w4 hr4 hl4;have HR4 := zh hr4;have HL4 := zh (HLX.o.trans hl4);obtain ⟨A4, c4, rfl, _⟩ := hr4;go_wp2_with fail;refine ⟨hl4, ?_⟩;clear hl4;refine tU 9 22 (v := ?_) rfl rfl (fun x hx => ?_) ?_;rotate_left
   ·go_simp;first|done|with_reducible rfl|rw[if_neg (by omega)]|rw[if_pos (by omega)]
   simp only [Act.put, nA, nB, nC];refine Zca 10 (by kernel_rfl) rfl rfl ?_;go_wp2_with fail;refine ⟨(Za.refl _).alloc _, ?_⟩;refine Zag [_, _] (by kernel_rfl) rfl rfl ?_;simp only [List.getElem_toArray, List.getElem_cons_succ, List.getElem_cons_zero];have HL5 := zh ((HLW.o.trans HL4.o).alloc (.cells #[.string l[j].name, .slice A4 l[j].fields.length c4, .int .i64 l[j].line] 101));refine Ze7 _ rfl _ _ 29 rfl w.heap.size 101 iRecordTypeS (.agg #[.string ⟨#[]⟩, .slice none 0 0, .int .i64 0]) 3 48 Tryz.underlying29 hiRecordTypeS hzRecordTypeS0 hzRecordTypeS1 hzRecordTypeS2 rfl _ dl.length xs rfl (HAT.o.keep Zj.is (Zb.later HL5.o)).row ⟨w4.heap.size, 0, none⟩ 1 1 [.string l[j].name, .slice A4 l[j].fields.length c4, .int .i64 l[j].line] rfl rfl (Zpk _ _ _) (by simp [Value.oneCell']) (by decide) (by unfold maxLen; omega) (by omega) (by have := HL5.o.size; omega) ?_;intro v6 w6 hown6 hg6 hn6;have HE := zh (show Zaa (fun y => wr.heap.size ≤ y) _ l[j] [.string l[j].name, .slice A4 l[j].fields.length c4, .int .i64 l[j].line] from ⟨fun _ => 0, _, rfl, HN.o, (HR4.o.later Zt ((Za.refl w4).alloc (.cells #[.string l[j].name, .slice A4 l[j].fields.length c4, .int .i64 l[j].line] 101))).keep Zt (fun y hy => ⟨Nat.le_trans HLW.o.size hy, rfl⟩) (Zb.refl _ _), HLN.o⟩);have HSO := zh (HAT.o.push Zj (Zb.later HL5.o) hwb HE.o hown6 hg6 hn6);have HB6 := zh ((HB.o.trans (Below.mono HL5.o HB.o.size)).grown hg6 (by have := HL5.o.size; omega) (fun g hg' => (HAT.o.row.lt g hg').1))
   have HDL6 := zh (show dl ++ [l[j]] = l.take (j + 1) by rw [HDL.o, List.take_succ_eq_append_getElem hlt]);clear hown6 hg6 hn6;go_wp2_with fail
   go_roundw
   case rel => exact ⟨j + 1, _, _, rfl, by go_num, by omega, HDL6, HSO.o, HB6.o⟩
   case measure => simp [intOf]; omega
  ·have hjl : j = l.length := by omega
   have HD := zh (hso.row Zj);have hdl : dl = l := by rw [HDL.o, hjl, List.take_length]
   rw [hdl] at HD;clear hso hbel;go_wp2_with fail;go_ret;exact ⟨_, rfl, HD.o, HB.o⟩
theorem Zkz (l : List Zam) (v : Value) (F : Nat → Prop) (w : World) (hsz : Zv Zo l ≤ 2097152) (hr : Z5 Zao 3 F w l v) :
  Calls Tryz.prog 25 #[v] w fun e w' => ∃ v', e = .returned v' ∧ Zah Zaa 3 101 (fun b => w.heap.size ≤ b) w' l v' ∧ Below w.heap.size w w' := by
 obtain ⟨iStringS, hiStringS, hzStringS0, hzStringS1, hzStringS2⟩ := info_parts Zd6;obtain ⟨iRecordTypeS, hiRecordTypeS, hzRecordTypeS0, hzRecordTypeS1, hzRecordTypeS2⟩ := info_parts Zed;obtain ⟨A, c, rfl, hc, hcm, hel⟩ := hr;unfold maxLen at hcm;have HEL := zh hel;have HSZ := zh (show l.length + Za8 Zo l ≤ 2097152 from hsz);have hlen : l.length ≤ 2097152 := by have := HSZ.o; omega
 clear hel hsz;go_enter Tryz.func25, Tryz.ntmps25;go_wp2_with fail;have HS0 : Hd (Zkb Zaa 3 101 w.heap.size [] (.slice (some ⟨w.heap.size, 0, none⟩) 0 0) (w.alloc (.cells #[] 101))) := zh (Zkb.fresh (Zc6 rfl) (Nat.le_refl _))
 go_loopw [3, 4] (fun ov iv wr => ∃ (j : Nat) (vo : Value) (dl : List Zam), vo = ov ∧ iv = .int .i64 j ∧ j ≤ l.length ∧ Hd (dl = l.take j) ∧ Zkb Zaa 3 101 w.heap.size dl vo wr ∧ Below w.heap.size w wr) (fun _ iv _ => l.length - (intOf iv).toNat)
 case atStart => exact ⟨0, _, [], rfl, rfl, Nat.zero_le _, zh (by simp), HS0.o, (Below.refl _ _).alloc (Nat.le_refl _) _⟩
 case round =>
  obtain ⟨j, vo, dl, rfl, rfl, hj, HDL, hso, hbel⟩ := hrel;have HB := zh hbel
  by_cases hlt : j < l.length
  ·have hlt' : (j : Int) < l.length := by omega
   obtain ⟨xs, tg, hat⟩ := hso;have HAT := zh hat;obtain ⟨Ao, co, hvo⟩ := hat.form;subst hvo;have hdl : dl.length ≤ 2097152 := by rw [HDL.o, List.length_take]; omega
   have hwb : w.heap.size ≤ wr.heap.size := hbel.size;clear hat hbel;obtain ⟨b, o, cs, rfl, hF, hbl, hE, hcell⟩ := HEL.o j hlt;obtain ⟨vf, rfl, hnm, hfl0, hln⟩ := hE;have HN := zh hnm;have HLN := zh hln;have HF0 := zh (hfl0.keep Zt (G := F) (fun _ h => h) (Zb.later HB.o));have hfl : l[j].fields.length ≤ 2097152 := by
    have h1 := Zek Zo l l[j] (List.getElem_mem hlt);have h2 : Zo l[j] = l[j].name.size + (l[j].fields.length + Za8 ByteArray.size l[j].fields) := rfl;have := HSZ.o
    omega
   obtain ⟨Af, cf, hvf, _⟩ := id hfl0;have e0 := (HB.o.cell (p := ⟨b, o + j * 3 + 0, none⟩) hbl).trans (hcell 0 _ rfl);have e1 := (HB.o.cell (p := ⟨b, o + j * 3 + 1, none⟩) hbl).trans (hcell 1 _ rfl);have e2 := (HB.o.cell (p := ⟨b, o + j * 3 + 2, none⟩) hbl).trans (hcell 2 _ rfl);simp only [Nat.add_zero] at e0;subst hvf;clear hnm hln hfl0 hcell;go_upto_region 5 with (fail)
   skip
   have hbx : b < wr.heap.size := Nat.lt_of_lt_of_le hbl HB.o.size;refine Z3 [20, 21] [] (by kernel_rfl) (fun W hW => ?_);have hWL : Za wr W := by rw [hW]; exact (Za.refl _).drew
   have eW0 := (hWL.cell ⟨b, o + j * 3, none⟩ hbx).trans e0;have eW1 := (hWL.cell ⟨b, o + j * 3 + 1, none⟩ hbx).trans e1;have eW2 := (hWL.cell ⟨b, o + j * 3 + 2, none⟩ hbx).trans e2;have hbW : b < W.heap.size := Nat.lt_of_lt_of_le hbx hWL.size;have HLW := zh (hWL);have HF := zh (HF0.o.later Zt HLW.o);clear hW hWL e0 e1 e2;refine tU 0 12 (v := ?_) rfl rfl (fun x hx => ?_) ?_;rotate_left
   ·go_simp;first|done|with_reducible rfl
   simp only [Act.put, nA, nB, nC];refine tU 1 13 (v := ?_) rfl rfl (fun x hx => ?_) ?_;rotate_left
   ·go_simp;first|done|with_reducible rfl
   simp only [Act.put, nA, nB, nC];refine tU 2 14 (v := ?_) rfl rfl (fun x hx => ?_) ?_;rotate_left
   ·go_simp;first|done|with_reducible rfl
   simp only [Act.put, nA, nB, nC];refine tU 3 15 (v := ?_) rfl rfl (fun x hx => ?_) ?_;rotate_left
   ·go_simp;first|done|with_reducible rfl|rw[if_neg (by omega)]|rw[if_pos (by omega)]
   simp only [Act.put, nA, nB, nC];refine tU 4 16 (v := ?_) rfl rfl (fun x hx => ?_) ?_;rotate_left
   ·go_simp;first|done|with_reducible rfl
   simp only [Act.put, nA, nB, nC];refine tU 5 17 (v := ?_) rfl rfl (fun x hx => ?_) ?_;rotate_left
   ·have x0 := (hx.cell ⟨b, o + j * 3, none⟩ hbW).trans eW0; have x1 := (hx.cell ⟨b, o + j * 3 + 1, none⟩ hbW).trans eW1; have x2 := (hx.cell ⟨b, o + j * 3 + 2, none⟩ hbW).trans eW2; go_simp;first|done|with_reducible rfl
   simp only [Act.put, nA, nB, nC];refine tU 7 19 (v := ?_) rfl rfl (fun x hx => ?_) ?_;rotate_left
   ·go_simp;first|done|with_reducible rfl
   simp only [Act.put, nA, nB, nC];refine tU 8 20 (v := ?_) rfl rfl (fun x hx => ?_) ?_;rotate_left
   ·go_simp;first|done|with_reducible rfl
   simp only [Act.put, nA, nB, nC];refine tU 9 21 (v := ?_) rfl rfl (fun x hx => ?_) ?_;rotate_left
   ·go_simp;first|done|with_reducible rfl|rw[if_neg (by omega)]|rw[if_pos (by omega)]
   simp only [Act.put, nA, nB, nC];refine tU 10 22 (v := ?_) rfl rfl (fun x hx => ?_) ?_;rotate_left
   ·go_simp;first|done|with_reducible rfl
   simp only [Act.put, nA, nB, nC];refine tU 11 23 (v := ?_) rfl rfl (fun x hx => ?_) ?_;rotate_left
   ·have x0 := (hx.cell ⟨b, o + j * 3, none⟩ hbW).trans eW0; have x1 := (hx.cell ⟨b, o + j * 3 + 1, none⟩ hbW).trans eW1; have x2 := (hx.cell ⟨b, o + j * 3 + 2, none⟩ hbW).trans eW2; go_simp;first|done|with_reducible rfl
   simp only [Act.put, nA, nB, nC];refine tU 13 25 (v := ?_) rfl rfl (fun x hx => ?_) ?_;rotate_left
   ·go_simp;first|done|with_reducible rfl
   simp only [Act.put, nA, nB, nC];refine tU 14 26 (v := ?_) rfl rfl (fun x hx => ?_) ?_;rotate_left
   ·go_simp;first|done|with_reducible rfl
   simp only [Act.put, nA, nB, nC];refine tU 15 27 (v := ?_) rfl rfl (fun x hx => ?_) ?_;rotate_left
   ·go_simp;first|done|with_reducible rfl|rw[if_neg (by omega)]|rw[if_pos (by omega)]
   simp only [Act.put, nA, nB, nC];refine tU 16 28 (v := ?_) rfl rfl (fun x hx => ?_) ?_;rotate_left
   ·go_simp;first|done|with_reducible rfl
   simp only [Act.put, nA, nB, nC];refine tU 17 29 (v := ?_) rfl rfl (fun x hx => ?_) ?_;rotate_left
   ·have x0 := (hx.cell ⟨b, o + j * 3, none⟩ hbW).trans eW0; have x1 := (hx.cell ⟨b, o + j * 3 + 1, none⟩ hbW).trans eW1; have x2 := (hx.cell ⟨b, o + j * 3 + 2, none⟩ hbW).trans eW2; go_simp;first|done|with_reducible rfl
   simp only [Act.put, nA, nB, nC];refine Zca 6 (by kernel_rfl) rfl rfl ?_;go_wp2_with fail;refine ⟨(Za.refl _).alloc _, ?_⟩;have HLX := zh ((Za.refl W).alloc (.cells #[] 9));refine Zca 12 (by kernel_rfl) rfl rfl ?_;refine Zet Zgm (by decide) rfl _ _ 24 rfl 9 iStringS (.string ⟨#[]⟩) 16 Tryz.underlying24 hiStringS hzStringS0 hzStringS1 hzStringS2 rfl rfl (Zc6 rfl) rfl (HF.o.later Zt HLX.o) hfl (by decide) ?_;intro v4 w4 hr4 hl4;have HR4 := zh hr4;have HL4 := zh (HLX.o.trans hl4);obtain ⟨A4, c4, rfl, _⟩ := hr4;go_wp2_with fail;refine ⟨hl4, ?_⟩;clear hl4;refine tU 18 30 (v := ?_) rfl rfl (fun x hx => ?_) ?_;rotate_left
   ·go_simp;first|done|with_reducible rfl|rw[if_neg (by omega)]|rw[if_pos (by omega)]
   simp only [Act.put, nA, nB, nC];refine Zca 19 (by kernel_rfl) rfl rfl ?_;go_wp2_with fail;refine ⟨(Za.refl _).alloc _, ?_⟩;refine Zag [_, _] (by kernel_rfl) rfl rfl ?_;simp only [List.getElem_toArray, List.getElem_cons_succ, List.getElem_cons_zero];have HL5 := zh ((HLW.o.trans HL4.o).alloc (.cells #[.string l[j].name, .slice A4 l[j].fields.length c4, .int .i64 l[j].line] 101));refine Ze7 _ rfl _ _ 29 rfl w.heap.size 101 iRecordTypeS (.agg #[.string ⟨#[]⟩, .slice none 0 0, .int .i64 0]) 3 48 Tryz.underlying29 hiRecordTypeS hzRecordTypeS0 hzRecordTypeS1 hzRecordTypeS2 rfl _ dl.length xs rfl (HAT.o.keep Zj.is (Zb.later HL5.o)).row ⟨w4.heap.size, 0, none⟩ 1 1 [.string l[j].name, .slice A4 l[j].fields.length c4, .int .i64 l[j].line] rfl rfl (Zpk _ _ _) (by simp [Value.oneCell']) (by decide) (by unfold maxLen; omega) (by omega) (by have := HL5.o.size; omega) ?_;intro v6 w6 hown6 hg6 hn6;have HE := zh (show Zaa (fun y => wr.heap.size ≤ y) _ l[j] [.string l[j].name, .slice A4 l[j].fields.length c4, .int .i64 l[j].line] from ⟨fun _ => 0, _, rfl, HN.o, (HR4.o.later Zt ((Za.refl w4).alloc (.cells #[.string l[j].name, .slice A4 l[j].fields.length c4, .int .i64 l[j].line] 101))).keep Zt (fun y hy => ⟨Nat.le_trans HLW.o.size hy, rfl⟩) (Zb.refl _ _), HLN.o⟩);have HSO := zh (HAT.o.push Zj (Zb.later HL5.o) hwb HE.o hown6 hg6 hn6);have HB6 := zh ((HB.o.trans (Below.mono HL5.o HB.o.size)).grown hg6 (by have := HL5.o.size; omega) (fun g hg' => (HAT.o.row.lt g hg').1))
   have HDL6 := zh (show dl ++ [l[j]] = l.take (j + 1) by rw [HDL.o, List.take_succ_eq_append_getElem hlt]);clear hown6 hg6 hn6;go_wp2_with fail
   go_roundw
   case rel => exact ⟨j + 1, _, _, rfl, by go_num, by omega, HDL6, HSO.o, HB6.o⟩
   case measure => simp [intOf]; omega
  ·have hjl : j = l.length := by omega
   have HD := zh (hso.row Zj);have hdl : dl = l := by rw [HDL.o, hjl, List.take_length]
   rw [hdl] at HD;clear hso hbel;go_wp2_with fail;go_ret;exact ⟨_, rfl, HD.o, HB.o⟩
section
def Zee (W u : World) (p : Zu) (N : Nat → Prop) (x : Value) : Prop := ∃ R : Nat → Prop, Zah Zaa 3 TRe R u p.aA x ∧ (∀ b, R b → W.heap.size ≤ b ∧ b < u.heap.size) ∧ ∀ b, N b → ¬ R b
theorem Zee.fam {W : World} {p : Zu} {x : Value} : ∀ (u v : World) (N N' : Nat → Prop), Zee W u p N x → Za u v → (∀ b, N' b → N b ∨ u.heap.size ≤ b) → Zee W v p N' x := fun u v N N' h hl hN => by
 obtain ⟨R, h1, h2, h3⟩ := h;refine ⟨R, h1.keep Zj.is (fun _ h => h) (Zb.later hl), fun b hb => ⟨(h2 b hb).1, Nat.lt_of_lt_of_le (h2 b hb).2 hl.size⟩, fun b hb hR => ?_⟩
 rcases hN b hb with h | h
 ·exact h3 b h hR
 ·have := (h2 b hR).2; omega
def RGR (W u : World) (p : Zu) (N : Nat → Prop) (x y : Value) : Prop := ∃ R U : Nat → Prop, Zah Zaa 3 TRe R u p.aA x ∧ Zah Zbe 1 TSr U u p.globals y ∧ (∀ b, R b ∨ U b → W.heap.size ≤ b ∧ b < u.heap.size) ∧ (∀ b, R b → ¬ U b) ∧ ∀ b, N b → ¬ (R b ∨ U b)
theorem RGR.fam {W : World} {p : Zu} {x y : Value} : ∀ (u v : World) (N N' : Nat → Prop), RGR W u p N x y → Za u v → (∀ b, N' b → N b ∨ u.heap.size ≤ b) → RGR W v p N' x y := fun u v N N' h hl hN => by
 obtain ⟨R, U, h1, h2, h3, h4, h5⟩ := h;refine ⟨R, U, h1.keep Zj.is (fun _ h => h) (Zb.later hl), h2.keep Zt (fun _ h => h) (Zb.later hl), fun b hb => ⟨(h3 b hb).1, Nat.lt_of_lt_of_le (h3 b hb).2 hl.size⟩, h4, fun b hb hR => ?_⟩
 rcases hN b hb with h | h
 ·exact h5 b h hR
 ·have := (h3 b hR).2; omega
def Zoz (u : World) (x : Value) : Prop := ∃ B : Nat, x = .slice (some ⟨B, 0, none⟩) 0 0 ∧ u.heap[B]? = some (.cells #[] TSr (0, 0))
theorem Zoz.later {u v : World} {x : Value} (h : Zoz u x) (hl : Za u v) : Zoz v x := by
 obtain ⟨B, h1, h2⟩ := h;exact ⟨B, h1, (hl.block B (Zc h2)).trans h2⟩
section
variable {Φ : World → (Nat → Prop) → Prop} {l : Array Bool} {i j a s : Nat} {u v : World} {y : Value}
theorem kQ (hΦ : ∀ u v N N', Φ u N → Za u v → (∀ b, N' b → N b ∨ u.heap.size ≤ b) → Φ v N') (F : Hd (bt l j → Φ u (fun b => bt l a ∧ b = Zf3 y))) (hb : Za u v) (h : i ≠ j := by decide) (ha : i ≠ a := by decide) : Hd (bt (l.setIfInBounds i true) j → Φ v (fun b => bt (l.setIfInBounds i true) a ∧ b = Zf3 y)) := fun k => hΦ _ _ _ _ (F (Zcc h k)) hb fun n hN => .inl ⟨Zcc ha hN.1, hN.2⟩
theorem kQa (hΦ : ∀ u v N N', Φ u N → Za u v → (∀ b, N' b → N b ∨ u.heap.size ≤ b) → Φ v N') (F : Hd (bt l j → Φ u (fun b => bt l i ∧ b = Zf3 y))) (hb : Za u v) (h : i ≠ j := by decide) : Hd (bt (l.setIfInBounds i true) j → Φ v (fun b => bt (l.setIfInBounds i true) i ∧ b = Zf3 (.pointer (some ⟨u.heap.size, 0, none⟩)))) := fun k => hΦ _ _ _ _ (F (Zcc h k)) hb fun n hN => .inr (Nat.le_of_eq hN.2.symm)
theorem kQ2 (hΦ : ∀ u v N N', Φ u N → Za u v → (∀ b, N' b → N b ∨ u.heap.size ≤ b) → Φ v N') (F : Hd (bt l j → (Φ u (fun b => bt l a ∧ b = Zf3 y) ∧ bt l s))) (hb : Za u v) (h : i ≠ j := by decide) (ha : i ≠ a := by decide) : Hd (bt (l.setIfInBounds i true) j → (Φ v (fun b => bt (l.setIfInBounds i true) a ∧ b = Zf3 y) ∧ bt (l.setIfInBounds i true) s)) := fun k => ⟨hΦ _ _ _ _ (F (Zcc h k)).1 hb fun n hN => .inl ⟨Zcc ha hN.1, hN.2⟩, Zfe (F (Zcc h k)).2⟩
theorem Zve (hΦ : ∀ u v N N', Φ u N → Za u v → (∀ b, N' b → N b ∨ u.heap.size ≤ b) → Φ v N') (F : Hd (bt l j → (Φ u (fun b => bt l i ∧ b = Zf3 y) ∧ bt l s))) (hb : Za u v) (h : i ≠ j := by decide) : Hd (bt (l.setIfInBounds i true) j → (Φ v (fun b => bt (l.setIfInBounds i true) i ∧ b = Zf3 (.pointer (some ⟨u.heap.size, 0, none⟩))) ∧ bt (l.setIfInBounds i true) s)) := fun k => ⟨hΦ _ _ _ _ (F (Zcc h k)).1 hb fun n hN => .inr (Nat.le_of_eq hN.2.symm), Zfe (F (Zcc h k)).2⟩
theorem Zf4 {x : Value} (F : Hd (bt l j → Zoz u x)) (hb : Za u v) (h : i ≠ j := by decide) : Hd (bt (l.setIfInBounds i true) j → Zoz v x) := fun k => (F (Zcc h k)).later hb
theorem kM2 {p : Prop} {t : Nat} (F : Hd (bt l j → (p ∧ bt l s ∧ bt l t))) (h : i ≠ j := by decide) : Hd (bt (l.setIfInBounds i true) j → (p ∧ bt (l.setIfInBounds i true) s ∧ bt (l.setIfInBounds i true) t)) := fun k => ⟨(F (Zcc h k)).1, Zfe (F (Zcc h k)).2.1, Zfe (F (Zcc h k)).2.2⟩
theorem kX1 {p q : Prop} {t : Nat} (F : Hd (bt l j → (p ∧ bt l i ∧ bt l t))) (hun : ¬ bt l i) (h : i ≠ j := by decide) : Hd (bt (l.setIfInBounds i true) j → q) := fun k => absurd (F (Zcc h k)).2.1 hun
theorem kX2 {p q : Prop} {t : Nat} (F : Hd (bt l j → (p ∧ bt l t ∧ bt l i))) (hun : ¬ bt l i) (h : i ≠ j := by decide) : Hd (bt (l.setIfInBounds i true) j → q) := fun k => absurd (F (Zcc h k)).2.2 hun
end
def Zd0 (A : Act) (W : World) (p : Zu) (PB : Nat) (A2 A3 : Option Addr) (k2 k3 : Nat) (l : Array Bool) (a : Act) (u : World) : Prop :=
 ∃ x0 x1 x2 x3 x4 x5 x6 x7 x8 x9 x10 : Value, a = (((((((((((A.put (some 15) x0).put (some 16) x1).put (some 17) x2).put (some 18) x3).put (some 19) x4).put (some 20) x5).put (some 21) x6).put (some 22) x7).put (some 23) x8).put (some 24) x9).put (some 5) x10) ∧ Za W u ∧ Hd (bt l 0 → x0 = .pointer (some ⟨PB, 1, none⟩)) ∧ Hd (bt l 1 → x1 = .slice A2 p.aA.length k2) ∧ Hd (bt l 2 → Zee W u p (fun b => bt l 10 ∧ b = Zf3 x10) x2) ∧ Hd (bt l 3 → Zoz u x3) ∧ Hd (bt l 4 → x4 = .pointer (some ⟨PB, 2, none⟩)) ∧ Hd (bt l 5 → x5 = .slice A3 p.globals.length k3) ∧ Hd (bt l 6 → (RGR W u p (fun b => bt l 10 ∧ b = Zf3 x10) x2 x6 ∧ bt l 2)) ∧ Hd (bt l 7 → x7 = .pointer (some ⟨PB, 3, none⟩)) ∧ Hd (bt l 8 → x8 = .int .i64 p.main) ∧ Hd (bt l 9 → (x9 = .agg #[.slice none 0 0, x2, x6, .int .i64 p.main, .slice none 0 0] ∧ bt l 2 ∧ bt l 6)) ∧ Hd (bt l 10 → AlR W u (.cells #[.slice none 0 0, .slice none 0 0, .slice none 0 0, .int .i64 0, .slice none 0 0] Zdc) x10)
def Zd1 (A : Act) (W : World) (p : Zu) (PB : Nat) (A2 A3 : Option Addr) (k2 k3 : Nat) (l : Array Bool) (a : Act) (u : World) : Prop :=
 ∃ x0 x1 x2 x3 x4 x5 x6 x7 x8 x9 x10 : Value, a = (((((((((((A.put (some 12) x0).put (some 13) x1).put (some 14) x2).put (some 15) x3).put (some 16) x4).put (some 17) x5).put (some 18) x6).put (some 19) x7).put (some 20) x8).put (some 21) x9).put (some 4) x10) ∧ Za W u ∧ Hd (bt l 0 → x0 = .pointer (some ⟨PB, 1, none⟩)) ∧ Hd (bt l 1 → x1 = .slice A2 p.aA.length k2) ∧ Hd (bt l 2 → Zee W u p (fun b => bt l 10 ∧ b = Zf3 x10) x2) ∧ Hd (bt l 3 → Zoz u x3) ∧ Hd (bt l 4 → x4 = .pointer (some ⟨PB, 2, none⟩)) ∧ Hd (bt l 5 → x5 = .slice A3 p.globals.length k3) ∧ Hd (bt l 6 → (RGR W u p (fun b => bt l 10 ∧ b = Zf3 x10) x2 x6 ∧ bt l 2)) ∧ Hd (bt l 7 → x7 = .pointer (some ⟨PB, 3, none⟩)) ∧ Hd (bt l 8 → x8 = .int .i64 p.main) ∧ Hd (bt l 9 → (x9 = .agg #[.slice none 0 0, x2, x6, .int .i64 p.main, .slice none 0 0] ∧ bt l 2 ∧ bt l 6)) ∧ Hd (bt l 10 → AlR W u (.cells #[.slice none 0 0, .slice none 0 0, .slice none 0 0, .int .i64 0, .slice none 0 0] Zdc) x10)
end
/-! ### The text of a mark -/
def dch (z : Int) : ByteArray := ⟨[UInt8.ofNat (48 + z % 10).toNat].toArray⟩
def Ziz : Nat → Int → ByteArray → ByteArray
 | 0, _, t => t
 | f + 1, z, t => if z = 0 then t else Ziz f (z / 10) (dch z ++ t)
def Zax (k : Int) : ByteArray := ⟨#[109]⟩ ++ Ziz k.toNat k ⟨#[]⟩
theorem Zqc {f : Nat} {z : Int} {t : ByteArray} (hz : 0 < z) (hf : z ≤ f) : Ziz f z t = Ziz (f - 1) (z / 10) (dch z ++ t) := by
 cases f with
 | zero => omega
 | succ f => simp only [Ziz]; rw [if_neg (by omega)]; rfl
theorem Zqd (f : Nat) (t : ByteArray) : Ziz f 0 t = t := by cases f <;> simp [Ziz]
theorem Zl6 : ∀ (f : Nat) (z : Int) (t : ByteArray), 0 ≤ z → (z ≤ f) → ((Ziz f z t).size : Int) ≤ t.size + z
 | 0, z, t, h0, hf => by simp only [Ziz]; omega
 | f + 1, z, t, h0, hf => by
  simp only [Ziz]
  split
  ·omega
  ·have := Zl6 f (z / 10) (dch z ++ t) (by omega) (by omega);have h1 : (dch z).size = 1 := rfl;rw [ByteArray.size_append, h1] at this
   push_cast at this
   omega
theorem Zdi {k : Int} (h : 1 ≤ k) : ((Zax k).size : Int) ≤ k + 1 := by
 unfold Zax;have := Zl6 k.toNat k ⟨#[]⟩ (by omega) (by omega);have h0 : (⟨#[]⟩ : ByteArray).size = 0 := rfl;have h1 : (⟨#[109]⟩ : ByteArray).size = 1 := rfl;rw [ByteArray.size_append, h1]
 push_cast
 omega
theorem Zrl (x : Int) (h0 : 0 ≤ x) (h1 : x < 256) (w : World) : (convert 192 9 (.slice (some ⟨w.heap.size, 0, none⟩) 1 1)).run Tryz.prog (w.alloc (.cells #[.int .u8 x] 5)) = .ok (.string ⟨[UInt8.ofNat x.toNat].toArray⟩) (w.alloc (.cells #[.int .u8 x] 5)) := by
 have hx : (((UInt8.ofNat x.toNat).toNat : Nat) : Int) = x := by
  rw [UInt8.toNat_ofNat', Nat.mod_eq_of_lt (by omega)]; omega
 exact run_convert_bytes_back (w.alloc (.cells #[.int .u8 x] 5)) 192 9 5 ⟨w.heap.size, 0, none⟩ 1 [UInt8.ofNat x.toNat] Tryz.underlying192 Tryz.underlying5 Tryz.underlying9 (fun j hj => by
  obtain rfl : j = 0 := by simp at hj; omega
  simp [Addr.add]
  omega)
theorem Zbq (k : Int) (w : World) (hk : 1 ≤ k) (hk1 : k ≤ 1099511627776) :
  Calls Tryz.prog 87 #[.int .i64 k] w fun e w' => e = .returned (.string (Zax k)) ∧ Below w.heap.size w w' := by
 have t1 : decide (k ≤ 0) = false := by simp; omega
 go_enter Tryz.func87, Tryz.ntmps87;go_wp2_with fail
 go_loopw [0, 3] (fun kv out wr => ∃ (z : Int) (t : ByteArray) (f : Nat), kv = .int .i64 z ∧ out = .string t ∧ 0 ≤ z ∧ (t.size : Int) + z ≤ k ∧ z ≤ f ∧ Ziz f z t = Ziz k.toNat k ⟨#[]⟩ ∧ Below w.heap.size w wr) (fun kv _ _ => (intOf kv).toNat)
 case atStart => exact ⟨k, ⟨#[]⟩, k.toNat, rfl, rfl, by omega, by show ((0 : Nat) : Int) + k ≤ k; omega, by omega, rfl, Below.refl _ _⟩
 case round =>
  obtain ⟨z, t, f, rfl, rfl, hz, ht, hf, hd, hbel⟩ := hrel;have hsz := hbel.size;have HD := zh hd;clear hd
  by_cases hlt : 0 < z
  ·have hcv := Zrl (48 + z % 10) (by omega) (by omega) wr;obtain ⟨s, hs⟩ : ∃ s : ByteArray, ⟨[UInt8.ofNat (48 + z % 10).toNat].toArray⟩ = s := ⟨_, rfl⟩;have hs1 : s.size = 1 := by rw [← hs]; rfl
   rw [hs] at hcv;have HS := zh hs;have HS1 := zh hs1;have hcat : ¬ (9223372036854775807 : Int) < (s.size : Int) + (t.size : Int) := by omega
   clear hs hs1;go_wp2_with fail
   go_roundw
   case rel => exact ⟨z / 10, s ++ t, f - 1, rfl, rfl, by omega, by rw [ByteArray.size_append, HS1.o]; omega, by omega, by rw [← HD.o, Zqc hlt hf, ← HS.o]; rfl, hbel.alloc hsz _⟩
   case measure => simp [intOf]; omega
  ·obtain rfl : z = 0 := by omega
   have hcat : ¬ (9223372036854775807 : Int) < 1 + (t.size : Int) := by omega
   have HT : Hd (t = Ziz k.toNat k ⟨#[]⟩) := zh (by rw [← HD.o, Zqd]);go_wp2_with fail;go_ret;exact ⟨by rw [HT.o]; rfl, hbel⟩
def Zf5 (_ : ByteArray) (k : Int) : ByteArray := Zax k
def Zbu (r : Zam) (k : Int) : Zam := { name := Zax (k), fields := Zcd Zf5 (fun _ => 1) r.fields (k + 1), line := (k + 1 + (Zh (fun _ => 1) r.fields : Nat)) }
def Zl (r : Zam) : Nat := 2 + (Zh (fun _ => 1) r.fields)
def Zii (mK : Zd → Int → Zd) (cK : Zd → Nat) (r : Zd) (k : Int) : Zd := { kind := k, op := k + 1, aB := k + 2, line := k + 3, text := Zax (k + 4), kids := Zcd mK cK r.kids (k + 5) }
def Zcv (cK : Zd → Nat) (r : Zd) : Nat := 5 + (Zh cK r.kids)
def Zex (mK : Zd → Int → Zd) (cK : Zd → Nat) (r : Zaw) (k : Int) : Zaw := { name := Zax (k), params := k + 1, slots := Zcd Zf5 (fun _ => 1) r.slots (k + 2), body := { kind := (k + 2 + (Zh (fun _ => 1) r.slots : Nat)), op := (k + 2 + (Zh (fun _ => 1) r.slots : Nat)) + 1, aB := (k + 2 + (Zh (fun _ => 1) r.slots : Nat)) + 2, line := (k + 2 + (Zh (fun _ => 1) r.slots : Nat)) + 3, text := Zax ((k + 2 + (Zh (fun _ => 1) r.slots : Nat)) + 4), kids := Zcd mK cK r.body.kids ((k + 2 + (Zh (fun _ => 1) r.slots : Nat)) + 5) } }
def Zat (cK : Zd → Nat) (r : Zaw) : Nat := 7 + (Zh (fun _ => 1) r.slots + (Zh cK r.body.kids))
def Zbx (_ : Zar) (k : Int) : Zar := { name := Zax (k), params := k + 1, slots := k + 2, entry := k + 3 }
def Zn (_ : Zar) : Nat := 4
def Zd8 (_ : Ze) (k : Int) : Ze := { op := k, a := k + 1, b := k + 2, line := k + 3, text := Zax (k + 4) }
def Zal (_ : Ze) : Nat := 5
def Znt (mK : Zd → Int → Zd) (cK : Zd → Nat) (r : Zu) (k : Int) : Zu := { r with routines := Zcd (Zex mK cK) (Zat cK) r.routines (k), aA := Zcd Zbu Zl r.aA (k + (Zh (Zat cK) r.routines : Nat)), globals := Zcd Zf5 (fun _ => 1) r.globals (k + (Zh (Zat cK) r.routines : Nat) + (Zh Zl r.aA : Nat)) }
def Zcr (cK : Zd → Nat) (r : Zu) : Nat := Zh (Zat cK) r.routines + Zh Zl r.aA + Zh (fun _ => 1) r.globals
def Znu (r : Zfi) (k : Int) : Zfi := { r with routines := Zcd Zbx Zn r.routines (k), aA := Zcd Zbu Zl r.aA (k + (Zh Zn r.routines : Nat)), globals := Zcd Zf5 (fun _ => 1) r.globals (k + (Zh Zn r.routines : Nat) + (Zh Zl r.aA : Nat)), instrs := Zcd Zd8 Zal r.instrs (k + (Zh Zn r.routines : Nat) + (Zh Zl r.aA : Nat) + (Zh (fun _ => 1) r.globals : Nat)) }
def Zb8 (r : Zfi) : Nat := Zh Zn r.routines + Zh Zl r.aA + Zh (fun _ => 1) r.globals + Zh Zal r.instrs
def Zk1 : Nat → Zd → Nat
 | 0 => fun _ => 0
 | n + 1 => Zcv (Zk1 n)
def mkN : Nat → Zd → Int → Zd
 | 0 => fun r _ => r
 | n + 1 => Zii (mkN n) (Zk1 n)
end Go.Proofs.YtcmmdchjppaimaaGreatDoor
