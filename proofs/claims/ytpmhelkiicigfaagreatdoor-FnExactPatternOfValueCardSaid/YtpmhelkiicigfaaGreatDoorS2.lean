/- Part of the walks that the claim stands on. -/
import Derived.Test.YtpmhelkiicigfaaGreatDoorS1
import Derived.Test.YtpmhelkiicigfaaGreatDoorChecked
import Derived.Lib.Hide
import Derived.WalkKit
import Derived.WalkSpells
import Derived.WalkLawsBesides
import Derived.Deep.DeepCutAuto
import Derived.Outline
import Derived.Maps.OwnOps
import Derived.Maps.Views
set_option maxRecDepth 100000
set_option maxHeartbeats 40000000
namespace Go.Proofs.YtpmhelkiicigfaaGreatDoor
open Go.RowKit
theorem Zty (aH index low high : Int) (text : ByteArray) (w : World) :
  Calls Tryz.prog 102 #[.agg #[.int .i64 (7), .int .i64 aH, .int .i64 index, .string text, .int .i64 low, .int .i64 high]] w fun e w' => e = .returned (.bool (Zn ⟨7, aH, index, text, ⟨low, high⟩⟩)) ∧ Below w.heap.size w w' := by
 have HTS := zh (fun h => Zr (t := text) h);obtain ⟨R, hR⟩ : ∃ R, Zn ⟨7, aH, index, text, ⟨low, high⟩⟩ = R := ⟨_, rfl⟩;rw [hR];have HR := zh hR;clear hR;go_enter Tryz.func102, Tryz.ntmps102;go_wp2_with fail
 all_goals go_ret
 all_goals (refine ⟨?_, (Below.refl _ _).alloc (Nat.le_refl _) _⟩; rw [← HR.o])
 all_goals first
  | (simp [Zn, *]; done)
  | (simp only [Zn]; simp [*]; omega)
  | (have h0 := HTS.o (by assumption); simp only [Zn]; simp [*] <;> omega)
theorem Ztz (aH index low high : Int) (text : ByteArray) (w : World) :
  Calls Tryz.prog 102 #[.agg #[.int .i64 (8), .int .i64 aH, .int .i64 index, .string text, .int .i64 low, .int .i64 high]] w fun e w' => e = .returned (.bool (Zn ⟨8, aH, index, text, ⟨low, high⟩⟩)) ∧ Below w.heap.size w w' := by
 have HTS := zh (fun h => Zr (t := text) h);obtain ⟨R, hR⟩ : ∃ R, Zn ⟨8, aH, index, text, ⟨low, high⟩⟩ = R := ⟨_, rfl⟩;rw [hR];have HR := zh hR;clear hR;go_enter Tryz.func102, Tryz.ntmps102;go_wp2_with fail
 all_goals go_ret
 all_goals (refine ⟨?_, (Below.refl _ _).alloc (Nat.le_refl _) _⟩; rw [← HR.o])
 all_goals first
  | (simp [Zn, *]; done)
  | (simp only [Zn]; simp [*]; omega)
  | (have h0 := HTS.o (by assumption); simp only [Zn]; simp [*] <;> omega)
theorem Zt0 (aH index low high : Int) (text : ByteArray) (w : World) :
  Calls Tryz.prog 102 #[.agg #[.int .i64 (9), .int .i64 aH, .int .i64 index, .string text, .int .i64 low, .int .i64 high]] w fun e w' => e = .returned (.bool (Zn ⟨9, aH, index, text, ⟨low, high⟩⟩)) ∧ Below w.heap.size w w' := by
 have HTS := zh (fun h => Zr (t := text) h);obtain ⟨R, hR⟩ : ∃ R, Zn ⟨9, aH, index, text, ⟨low, high⟩⟩ = R := ⟨_, rfl⟩;rw [hR];have HR := zh hR;clear hR;go_enter Tryz.func102, Tryz.ntmps102;go_wp2_with fail
 all_goals go_ret
 all_goals (refine ⟨?_, (Below.refl _ _).alloc (Nat.le_refl _) _⟩; rw [← HR.o])
 all_goals first
  | (simp [Zn, *]; done)
  | (simp only [Zn]; simp [*]; omega)
  | (have h0 := HTS.o (by assumption); simp only [Zn]; simp [*] <;> omega)
theorem Zrn (aH index low high : Int) (text : ByteArray) (w : World) :
  Calls Tryz.prog 102 #[.agg #[.int .i64 (10), .int .i64 aH, .int .i64 index, .string text, .int .i64 low, .int .i64 high]] w fun e w' => e = .returned (.bool (Zn ⟨10, aH, index, text, ⟨low, high⟩⟩)) ∧ Below w.heap.size w w' := by
 have HTS := zh (fun h => Zr (t := text) h);obtain ⟨R, hR⟩ : ∃ R, Zn ⟨10, aH, index, text, ⟨low, high⟩⟩ = R := ⟨_, rfl⟩;rw [hR];have HR := zh hR;clear hR;go_enter Tryz.func102, Tryz.ntmps102;go_wp2_with fail
 all_goals go_ret
 all_goals (refine ⟨?_, (Below.refl _ _).alloc (Nat.le_refl _) _⟩; rw [← HR.o])
 all_goals first
  | (simp [Zn, *]; done)
  | (simp only [Zn]; simp [*]; omega)
  | (have h0 := HTS.o (by assumption); simp only [Zn]; simp [*] <;> omega)
theorem Zro (aH index low high : Int) (text : ByteArray) (w : World) :
  Calls Tryz.prog 102 #[.agg #[.int .i64 (11), .int .i64 aH, .int .i64 index, .string text, .int .i64 low, .int .i64 high]] w fun e w' => e = .returned (.bool (Zn ⟨11, aH, index, text, ⟨low, high⟩⟩)) ∧ Below w.heap.size w w' := by
 have HTS := zh (fun h => Zr (t := text) h);obtain ⟨R, hR⟩ : ∃ R, Zn ⟨11, aH, index, text, ⟨low, high⟩⟩ = R := ⟨_, rfl⟩;rw [hR];have HR := zh hR;clear hR;go_enter Tryz.func102, Tryz.ntmps102;go_wp2_with fail
 all_goals go_ret
 all_goals (refine ⟨?_, (Below.refl _ _).alloc (Nat.le_refl _) _⟩; rw [← HR.o])
 all_goals first
  | (simp [Zn, *]; done)
  | (simp only [Zn]; simp [*]; omega)
  | (have h0 := HTS.o (by assumption); simp only [Zn]; simp [*] <;> omega)
theorem Zrp (aH index low high : Int) (text : ByteArray) (w : World) :
  Calls Tryz.prog 102 #[.agg #[.int .i64 (12), .int .i64 aH, .int .i64 index, .string text, .int .i64 low, .int .i64 high]] w fun e w' => e = .returned (.bool (Zn ⟨12, aH, index, text, ⟨low, high⟩⟩)) ∧ Below w.heap.size w w' := by
 have HTS := zh (fun h => Zr (t := text) h);obtain ⟨R, hR⟩ : ∃ R, Zn ⟨12, aH, index, text, ⟨low, high⟩⟩ = R := ⟨_, rfl⟩;rw [hR];have HR := zh hR;clear hR;go_enter Tryz.func102, Tryz.ntmps102;go_wp2_with fail
 all_goals go_ret
 all_goals (refine ⟨?_, (Below.refl _ _).alloc (Nat.le_refl _) _⟩; rw [← HR.o])
 all_goals first
  | (simp [Zn, *]; done)
  | (simp only [Zn]; simp [*]; omega)
  | (have h0 := HTS.o (by assumption); simp only [Zn]; simp [*] <;> omega)
theorem Zrq (aH index low high : Int) (text : ByteArray) (w : World) :
  Calls Tryz.prog 102 #[.agg #[.int .i64 (13), .int .i64 aH, .int .i64 index, .string text, .int .i64 low, .int .i64 high]] w fun e w' => e = .returned (.bool (Zn ⟨13, aH, index, text, ⟨low, high⟩⟩)) ∧ Below w.heap.size w w' := by
 have HTS := zh (fun h => Zr (t := text) h);obtain ⟨R, hR⟩ : ∃ R, Zn ⟨13, aH, index, text, ⟨low, high⟩⟩ = R := ⟨_, rfl⟩;rw [hR];have HR := zh hR;clear hR;go_enter Tryz.func102, Tryz.ntmps102;go_wp2_with fail
 all_goals go_ret
 all_goals (refine ⟨?_, (Below.refl _ _).alloc (Nat.le_refl _) _⟩; rw [← HR.o])
 all_goals first
  | (simp [Zn, *]; done)
  | (simp only [Zn]; simp [*]; omega)
  | (have h0 := HTS.o (by assumption); simp only [Zn]; simp [*] <;> omega)
theorem Zrr (aH index low high : Int) (text : ByteArray) (w : World) :
  Calls Tryz.prog 102 #[.agg #[.int .i64 (14), .int .i64 aH, .int .i64 index, .string text, .int .i64 low, .int .i64 high]] w fun e w' => e = .returned (.bool (Zn ⟨14, aH, index, text, ⟨low, high⟩⟩)) ∧ Below w.heap.size w w' := by
 have HTS := zh (fun h => Zr (t := text) h);obtain ⟨R, hR⟩ : ∃ R, Zn ⟨14, aH, index, text, ⟨low, high⟩⟩ = R := ⟨_, rfl⟩;rw [hR];have HR := zh hR;clear hR;go_enter Tryz.func102, Tryz.ntmps102;go_wp2_with fail
 all_goals go_ret
 all_goals (refine ⟨?_, (Below.refl _ _).alloc (Nat.le_refl _) _⟩; rw [← HR.o])
 all_goals first
  | (simp [Zn, *]; done)
  | (simp only [Zn]; simp [*]; omega)
  | (have h0 := HTS.o (by assumption); simp only [Zn]; simp [*] <;> omega)
theorem Zrs (aH index low high : Int) (text : ByteArray) (w : World) :
  Calls Tryz.prog 102 #[.agg #[.int .i64 (15), .int .i64 aH, .int .i64 index, .string text, .int .i64 low, .int .i64 high]] w fun e w' => e = .returned (.bool (Zn ⟨15, aH, index, text, ⟨low, high⟩⟩)) ∧ Below w.heap.size w w' := by
 have HTS := zh (fun h => Zr (t := text) h);obtain ⟨R, hR⟩ : ∃ R, Zn ⟨15, aH, index, text, ⟨low, high⟩⟩ = R := ⟨_, rfl⟩;rw [hR];have HR := zh hR;clear hR;go_enter Tryz.func102, Tryz.ntmps102;go_wp2_with fail
 all_goals go_ret
 all_goals (refine ⟨?_, (Below.refl _ _).alloc (Nat.le_refl _) _⟩; rw [← HR.o])
 all_goals first
  | (simp [Zn, *]; done)
  | (simp only [Zn]; simp [*]; omega)
  | (have h0 := HTS.o (by assumption); simp only [Zn]; simp [*] <;> omega)
theorem Zrt (aH index low high : Int) (text : ByteArray) (w : World) :
  Calls Tryz.prog 102 #[.agg #[.int .i64 (16), .int .i64 aH, .int .i64 index, .string text, .int .i64 low, .int .i64 high]] w fun e w' => e = .returned (.bool (Zn ⟨16, aH, index, text, ⟨low, high⟩⟩)) ∧ Below w.heap.size w w' := by
 have HTS := zh (fun h => Zr (t := text) h);obtain ⟨R, hR⟩ : ∃ R, Zn ⟨16, aH, index, text, ⟨low, high⟩⟩ = R := ⟨_, rfl⟩;rw [hR];have HR := zh hR;clear hR;go_enter Tryz.func102, Tryz.ntmps102;go_wp2_with fail
 all_goals go_ret
 all_goals (refine ⟨?_, (Below.refl _ _).alloc (Nat.le_refl _) _⟩; rw [← HR.o])
 all_goals first
  | (simp [Zn, *]; done)
  | (simp only [Zn]; simp [*]; omega)
  | (have h0 := HTS.o (by assumption); simp only [Zn]; simp [*] <;> omega)
theorem Zru (aH index low high : Int) (text : ByteArray) (w : World) :
  Calls Tryz.prog 102 #[.agg #[.int .i64 (17), .int .i64 aH, .int .i64 index, .string text, .int .i64 low, .int .i64 high]] w fun e w' => e = .returned (.bool (Zn ⟨17, aH, index, text, ⟨low, high⟩⟩)) ∧ Below w.heap.size w w' := by
 have HTS := zh (fun h => Zr (t := text) h);obtain ⟨R, hR⟩ : ∃ R, Zn ⟨17, aH, index, text, ⟨low, high⟩⟩ = R := ⟨_, rfl⟩;rw [hR];have HR := zh hR;clear hR;go_enter Tryz.func102, Tryz.ntmps102;go_wp2_with fail
 all_goals go_ret
 all_goals (refine ⟨?_, (Below.refl _ _).alloc (Nat.le_refl _) _⟩; rw [← HR.o])
 all_goals first
  | (simp [Zn, *]; done)
  | (simp only [Zn]; simp [*]; omega)
  | (have h0 := HTS.o (by assumption); simp only [Zn]; simp [*] <;> omega)
theorem Zrv (aH index low high : Int) (text : ByteArray) (w : World) :
  Calls Tryz.prog 102 #[.agg #[.int .i64 (18), .int .i64 aH, .int .i64 index, .string text, .int .i64 low, .int .i64 high]] w fun e w' => e = .returned (.bool (Zn ⟨18, aH, index, text, ⟨low, high⟩⟩)) ∧ Below w.heap.size w w' := by
 have HTS := zh (fun h => Zr (t := text) h);obtain ⟨R, hR⟩ : ∃ R, Zn ⟨18, aH, index, text, ⟨low, high⟩⟩ = R := ⟨_, rfl⟩;rw [hR];have HR := zh hR;clear hR;go_enter Tryz.func102, Tryz.ntmps102;go_wp2_with fail
 all_goals go_ret
 all_goals (refine ⟨?_, (Below.refl _ _).alloc (Nat.le_refl _) _⟩; rw [← HR.o])
 all_goals first
  | (simp [Zn, *]; done)
  | (simp only [Zn]; simp [*]; omega)
  | (have h0 := HTS.o (by assumption); simp only [Zn]; simp [*] <;> omega)
theorem Zrw (aH index low high : Int) (text : ByteArray) (w : World) :
  Calls Tryz.prog 102 #[.agg #[.int .i64 (19), .int .i64 aH, .int .i64 index, .string text, .int .i64 low, .int .i64 high]] w fun e w' => e = .returned (.bool (Zn ⟨19, aH, index, text, ⟨low, high⟩⟩)) ∧ Below w.heap.size w w' := by
 have HTS := zh (fun h => Zr (t := text) h);obtain ⟨R, hR⟩ : ∃ R, Zn ⟨19, aH, index, text, ⟨low, high⟩⟩ = R := ⟨_, rfl⟩;rw [hR];have HR := zh hR;clear hR;go_enter Tryz.func102, Tryz.ntmps102;go_wp2_with fail
 all_goals go_ret
 all_goals (refine ⟨?_, (Below.refl _ _).alloc (Nat.le_refl _) _⟩; rw [← HR.o])
 all_goals first
  | (simp [Zn, *]; done)
  | (simp only [Zn]; simp [*]; omega)
  | (have h0 := HTS.o (by assumption); simp only [Zn]; simp [*] <;> omega)
theorem Zrx (aH index low high : Int) (text : ByteArray) (w : World) :
  Calls Tryz.prog 102 #[.agg #[.int .i64 (20), .int .i64 aH, .int .i64 index, .string text, .int .i64 low, .int .i64 high]] w fun e w' => e = .returned (.bool (Zn ⟨20, aH, index, text, ⟨low, high⟩⟩)) ∧ Below w.heap.size w w' := by
 have HTS := zh (fun h => Zr (t := text) h);obtain ⟨R, hR⟩ : ∃ R, Zn ⟨20, aH, index, text, ⟨low, high⟩⟩ = R := ⟨_, rfl⟩;rw [hR];have HR := zh hR;clear hR;go_enter Tryz.func102, Tryz.ntmps102;go_wp2_with fail
 all_goals go_ret
 all_goals (refine ⟨?_, (Below.refl _ _).alloc (Nat.le_refl _) _⟩; rw [← HR.o])
 all_goals first
  | (simp [Zn, *]; done)
  | (simp only [Zn]; simp [*]; omega)
  | (have h0 := HTS.o (by assumption); simp only [Zn]; simp [*] <;> omega)
theorem Zpt (kind aH index low high : Int) (text : ByteArray) (w : World) (hk : kind < 0) :
  Calls Tryz.prog 102 #[.agg #[.int .i64 (kind), .int .i64 aH, .int .i64 index, .string text, .int .i64 low, .int .i64 high]] w fun e w' => e = .returned (.bool (Zn ⟨kind, aH, index, text, ⟨low, high⟩⟩)) ∧ Below w.heap.size w w' := by
 have HTS := zh (fun h => Zr (t := text) h);obtain ⟨R, hR⟩ : ∃ R, Zn ⟨kind, aH, index, text, ⟨low, high⟩⟩ = R := ⟨_, rfl⟩;rw [hR];have HR := zh hR;clear hR;have t0 : (kind == 0) = false := by rw [nH]; omega
 have t1 : (kind == 1) = false := by rw [nH]; omega
 have t2 : (kind == 2) = false := by rw [nH]; omega
 have t3 : (kind == 3) = false := by rw [nH]; omega
 have t4 : (kind == 4) = false := by rw [nH]; omega
 have t5 : (kind == 5) = false := by rw [nH]; omega
 have t6 : (kind == 6) = false := by rw [nH]; omega
 have t7 : (kind == 7) = false := by rw [nH]; omega
 have t8 : (kind == 8) = false := by rw [nH]; omega
 have t9 : (kind == 9) = false := by rw [nH]; omega
 have t10 : (kind == 10) = false := by rw [nH]; omega
 have t11 : (kind == 11) = false := by rw [nH]; omega
 have t12 : (kind == 12) = false := by rw [nH]; omega
 have t13 : (kind == 13) = false := by rw [nH]; omega
 have t14 : (kind == 14) = false := by rw [nH]; omega
 have t15 : (kind == 15) = false := by rw [nH]; omega
 have t16 : (kind == 16) = false := by rw [nH]; omega
 have t17 : (kind == 17) = false := by rw [nH]; omega
 have t18 : (kind == 18) = false := by rw [nH]; omega
 have t19 : (kind == 19) = false := by rw [nH]; omega
 have t20 : (kind == 20) = false := by rw [nH]; omega
 have HK := zh (show kind < 0 ∨ 20 < kind by omega);have s1 : decide (kind < 0) = true := by simp; omega
 have s2 : decide ((20 : Int) < kind) = false := by simp; omega
 clear hk;go_enter Tryz.func102, Tryz.ntmps102;go_wp2_with fail
 all_goals go_ret
 all_goals (refine ⟨?_, (Below.refl _ _).alloc (Nat.le_refl _) _⟩; rw [← HR.o])
 all_goals first
  | (simp [Zn, *]; done)
  | (have h0 := HK.o; simp only [Zn]; rw [if_neg (by omega), if_neg (by omega), if_neg (by omega), if_neg (by omega), if_neg (by omega), if_neg (by omega), if_neg (by omega), if_neg (by omega)]; first | done | rfl | simp)
theorem Zpu (kind aH index low high : Int) (text : ByteArray) (w : World) (hk : 20 < kind) :
  Calls Tryz.prog 102 #[.agg #[.int .i64 (kind), .int .i64 aH, .int .i64 index, .string text, .int .i64 low, .int .i64 high]] w fun e w' => e = .returned (.bool (Zn ⟨kind, aH, index, text, ⟨low, high⟩⟩)) ∧ Below w.heap.size w w' := by
 have HTS := zh (fun h => Zr (t := text) h);obtain ⟨R, hR⟩ : ∃ R, Zn ⟨kind, aH, index, text, ⟨low, high⟩⟩ = R := ⟨_, rfl⟩;rw [hR];have HR := zh hR;clear hR;have t0 : (kind == 0) = false := by rw [nH]; omega
 have t1 : (kind == 1) = false := by rw [nH]; omega
 have t2 : (kind == 2) = false := by rw [nH]; omega
 have t3 : (kind == 3) = false := by rw [nH]; omega
 have t4 : (kind == 4) = false := by rw [nH]; omega
 have t5 : (kind == 5) = false := by rw [nH]; omega
 have t6 : (kind == 6) = false := by rw [nH]; omega
 have t7 : (kind == 7) = false := by rw [nH]; omega
 have t8 : (kind == 8) = false := by rw [nH]; omega
 have t9 : (kind == 9) = false := by rw [nH]; omega
 have t10 : (kind == 10) = false := by rw [nH]; omega
 have t11 : (kind == 11) = false := by rw [nH]; omega
 have t12 : (kind == 12) = false := by rw [nH]; omega
 have t13 : (kind == 13) = false := by rw [nH]; omega
 have t14 : (kind == 14) = false := by rw [nH]; omega
 have t15 : (kind == 15) = false := by rw [nH]; omega
 have t16 : (kind == 16) = false := by rw [nH]; omega
 have t17 : (kind == 17) = false := by rw [nH]; omega
 have t18 : (kind == 18) = false := by rw [nH]; omega
 have t19 : (kind == 19) = false := by rw [nH]; omega
 have t20 : (kind == 20) = false := by rw [nH]; omega
 have HK := zh (show kind < 0 ∨ 20 < kind by omega);have s1 : decide (kind < 0) = false := by simp; omega
 have s2 : decide ((20 : Int) < kind) = true := by simp; omega
 clear hk;go_enter Tryz.func102, Tryz.ntmps102;go_wp2_with fail
 all_goals go_ret
 all_goals (refine ⟨?_, (Below.refl _ _).alloc (Nat.le_refl _) _⟩; rw [← HR.o])
 all_goals first
  | (simp [Zn, *]; done)
  | (have h0 := HK.o; simp only [Zn]; rw [if_neg (by omega), if_neg (by omega), if_neg (by omega), if_neg (by omega), if_neg (by omega), if_neg (by omega), if_neg (by omega), if_neg (by omega)]; first | done | rfl | simp)
theorem Zgo (v : Zd) (cs : List Value) (F : Nat → Prop) (w : World) (h : Zg F w v cs) :
  Calls Tryz.prog 102 #[.agg cs.toArray] w fun e w' => e = .returned (.bool (Zn v)) ∧ Below w.heap.size w w' := by
 obtain ⟨rfl, _⟩ := h;obtain ⟨kind, aH, index, text, low, high⟩ := v;have hk : kind = 0 ∨ kind = 1 ∨ kind = 2 ∨ kind = 3 ∨ kind = 4 ∨ kind = 5 ∨ kind = 6 ∨ kind = 7 ∨ kind = 8 ∨ kind = 9 ∨ kind = 10 ∨ kind = 11 ∨ kind = 12 ∨ kind = 13 ∨ kind = 14 ∨ kind = 15 ∨ kind = 16 ∨ kind = 17 ∨ kind = 18 ∨ kind = 19 ∨ kind = 20 ∨ kind < 0 ∨ 20 < kind := by omega
 rcases hk with rfl | rfl | rfl | rfl | rfl | rfl | rfl | rfl | rfl | rfl | rfl | rfl | rfl | rfl | rfl | rfl | rfl | rfl | rfl | rfl | rfl | hk
 ·exact Ztr aH index low high text w
 ·exact Zts aH index low high text w
 ·exact Ztt aH index low high text w
 ·exact Ztu aH index low high text w
 ·exact Ztv aH index low high text w
 ·exact Ztw aH index low high text w
 ·exact Ztx aH index low high text w
 ·exact Zty aH index low high text w
 ·exact Ztz aH index low high text w
 ·exact Zt0 aH index low high text w
 ·exact Zrn aH index low high text w
 ·exact Zro aH index low high text w
 ·exact Zrp aH index low high text w
 ·exact Zrq aH index low high text w
 ·exact Zrr aH index low high text w
 ·exact Zrs aH index low high text w
 ·exact Zrt aH index low high text w
 ·exact Zru aH index low high text w
 ·exact Zrv aH index low high text w
 ·exact Zrw aH index low high text w
 ·exact Zrx aH index low high text w
 ·rcases hk with hk | hk
  ·exact Zpt kind aH index low high text w hk
  ·exact Zpu kind aH index low high text w hk
theorem Zbr (r : Zf) (B : Nat) (cs : List Value) (F : Nat → Prop) (w : World) (v : Zd) (vs : List Value) (h : Z3 F w B r cs) (hv : Zg F w v vs) :
  Calls Tryz.prog 46 #[.pointer (some ⟨B, 0, none⟩), .agg vs.toArray] w fun e w' => e = .returned (.bool (Zj r v)) ∧ Below w.heap.size w w' := by
 have HWF := zh (fun x => Zgo v vs F x (show Zg F x _ _ from hv));obtain ⟨rfl, hin⟩ := hv;obtain ⟨kind, aH, index, text, low, high⟩ := v;simp only at HWF hin ⊢;have HST := zh (h.later ((Za.refl w).alloc (.cells #[.int .i64 kind, .int .i64 aH, .int .i64 index, .string text, .int .i64 low, .int .i64 high] 34)));have HM := zh (heap_alloc_new w (.cells #[.int .i64 kind, .int .i64 aH, .int .i64 index, .string text, .int .i64 low, .int .i64 high] 34));have HB := zh ((Below.refl w.heap.size w).alloc (Nat.le_refl _) (.cells #[.int .i64 kind, .int .i64 aH, .int .i64 index, .string text, .int .i64 low, .int .i64 high] 34));obtain ⟨p, hp⟩ : ∃ p, Zn ⟨kind, aH, index, text, ⟨low, high⟩⟩ = p := ⟨_, rfl⟩;obtain ⟨R, hR⟩ : ∃ R, Zj r ⟨kind, aH, index, text, ⟨low, high⟩⟩ = R := ⟨_, rfl⟩;rw [hR];rw [hp] at HWF;unfold Zj at hR;rw [hp] at hR;clear h;have HP := zh hp;clear hp
 cases p with
 | false =>
  have HR := zh (show R = false from hR.symm);clear hR;go_enter Tryz.func46, Tryz.ntmps46;go_wp2_with fail;refine (HWF.o _).mono ?_;rintro e w2 ⟨rfl, hb2⟩;have HB2 := zh (HB.o.trans (Below.mono hb2 HB.o.size));clear hb2;go_wp2_with fail;go_ret;exact ⟨Z0 HR.o.symm, HB2.o⟩
 | true =>
  rw [Bool.true_and] at hR;have hkb := Zja HP.o;simp only at hkb;have HR0 := zh hR;clear hR;go_enter Tryz.func46, Tryz.ntmps46;go_wp2_with fail;refine (HWF.o _).mono ?_;rintro e w2 ⟨rfl, hb2⟩;replace HST := zh (HST.o.later hb2);replace HM := zC hb2 HM;replace HB := zh (HB.o.trans (Below.mono hb2 HB.o.size));clear hb2;have m0 := cq HM.o 0;simp only [nD, nE, nF] at m0;go_wp2_with fail;refine (Znx kind _ hkb).mono ?_;rintro e w3 ⟨rfl, rfl⟩;clear m0;obtain ⟨kk, hkk⟩ : ∃ kk, Zbf kind = kk := ⟨_, rfl⟩;rw [hkk];have HKK := zh hkk;clear hkk;obtain ⟨M, hM⟩ : ∃ M, w.heap.size = M := ⟨_, rfl⟩;rw [hM] at HM ⊢
  by_cases h0 : kk = 0
  ·have t0 : (kk != 0) = false := by simp [h0]
   have HK0 := zh (show Zbf kind = 0 by rw [HKK.o, h0]);have HR1 := zh (show R = (if kind = 8 then decide (aH < (r.names.length : Int)) else if kind = 9 then decide (aH ≤ 54) else if kind = 10 then decide (aH < (r.aB.length : Int)) else if kind = 14 then decide (index < (r.globals.length : Int)) else true) by rw [← HR0.o]; simp [Zbi, HK0.o]);clear h0
   by_cases h8 : kind = 8
   ·have t8 : (kind == 8) = true := by simp [h8]
    have HR := zh (show R = decide (aH < (r.names.length : Int)) by rw [HR1.o]; simp [h8]);clear h8;obtain ⟨m0, m1, m2⟩ := cz3 HM.o;go_upto_region 12 with (fail);clear m0 m1 m2;refine Z4 (fun W hW => ?_);have hWL : Za w3 W := by rw [hW]; exact (Za.refl _).drew
    have HMW := zC hWL HM;have HSW := zh (HST.o.later hWL);have HBW := zh (HB.o.trans (Below.mono hWL HB.o.size));have hMW : M < W.heap.size := Zb HMW.o;have mW0 := cz3 HMW.o;obtain ⟨A, c, cW, hc, hcm, hrow⟩ := HSW.o.names;have hSB := HSW.o.lt;unfold maxLen at hcm;clear hW hWL hrow
    repeat go_big_quiet_step (fail)
    refine wpQuiet_nil ?_;go_wp2_with fail;go_ret;exact ⟨Z0 HR.o.symm, HBW.o⟩
   have t8 : (kind == 8) = false := by simp [h8]
   by_cases h9 : kind = 9
   ·have t9 : (kind == 9) = true := by simp [h9]
    have HR := zh (show R = decide (aH ≤ 54) by rw [HR1.o]; simp [h9]);clear h9;obtain ⟨m0, m1, m2⟩ := cz3 HM.o;go_wp2_with fail;go_ret;exact ⟨Z0 HR.o.symm, HB.o⟩
   have t9 : (kind == 9) = false := by simp [h9]
   by_cases h10 : kind = 10
   ·have t10 : (kind == 10) = true := by simp [h10]
    have HR := zh (show R = decide (aH < (r.aB.length : Int)) by rw [HR1.o]; simp [h10]);clear h10;obtain ⟨m0, m1, m2⟩ := cz3 HM.o;go_upto_region 16 with (fail);clear m0 m1 m2;refine Z4 (fun W hW => ?_);have hWL : Za w3 W := by rw [hW]; exact (Za.refl _).drew
    have HMW := zC hWL HM;have HSW := zh (HST.o.later hWL);have HBW := zh (HB.o.trans (Below.mono hWL HB.o.size));have hMW : M < W.heap.size := Zb HMW.o;have mW0 := cz3 HMW.o;obtain ⟨A, c, cW, hc, hcm, hrow⟩ := HSW.o.aB;have hSB := HSW.o.lt;unfold maxLen at hcm;clear hW hWL hrow
    repeat go_big_quiet_step (fail)
    refine wpQuiet_nil ?_;go_wp2_with fail;go_ret;exact ⟨Z0 HR.o.symm, HBW.o⟩
   have t10 : (kind == 10) = false := by simp [h10]
   by_cases h14 : kind = 14
   ·have t14 : (kind == 14) = true := by simp [h14]
    have HR := zh (show R = decide (index < (r.globals.length : Int)) by rw [HR1.o]; simp [h14]);clear h14;obtain ⟨m0, m1, m2⟩ := cz3 HM.o;go_upto_region 18 with (fail);clear m0 m1 m2;refine Z4 (fun W hW => ?_);have hWL : Za w3 W := by rw [hW]; exact (Za.refl _).drew
    have HMW := zC hWL HM;have HSW := zh (HST.o.later hWL);have HBW := zh (HB.o.trans (Below.mono hWL HB.o.size));have hMW : M < W.heap.size := Zb HMW.o;have mW0 := cz3 HMW.o;obtain ⟨A, c, cW, hc, hcm, hrow⟩ := HSW.o.globals;have hSB := HSW.o.lt;unfold maxLen at hcm;clear hW hWL hrow
    repeat go_big_quiet_step (fail)
    refine wpQuiet_nil ?_;go_wp2_with fail;go_ret;exact ⟨Z0 HR.o.symm, HBW.o⟩
   have t14 : (kind == 14) = false := by simp [h14]
   have HR := zh (show R = true by rw [HR1.o]; simp [h8, h9, h10, h14]);clear h8 h9 h10 h14;obtain ⟨m0, m1, m2⟩ := cz3 HM.o;go_wp2_with fail;go_ret;exact ⟨Z0 HR.o.symm, HB.o⟩
  ·have t0 : (kk != 0) = true := by simp [h0]
   have HN := zh (Ze9 HP.o (Or.inl (by show Zbf kind ≠ 0; rw [HKK.o]; exact h0)));obtain ⟨i, hi⟩ : ∃ i : Nat, aH = i := ⟨aH.toNat, by have := HN.o; simp only at this; omega⟩;subst hi;have HR1 := zh (show R = (Za9 r (i : Int) kk && (if kind = 13 ∨ kind = 16 then decide (index < (Zcw r (i : Int) : Int)) else true)) by rw [← HR0.o]; simp [Zbi, HKK.o, h0]);clear h0;go_upto_region 5 with (fail)
   by_cases hlt : i < r.aA.length
   ·have hlt' : (i : Int) < r.aA.length := by omega
    have t5 : decide (r.aA.length ≤ i) = false := decide_eq_false (by omega);have HR2 := zh (show R = ((r.aA[i].kind == kk) && (if kind = 13 ∨ kind = 16 then decide (index < (r.aA[i].aJ.length : Int)) else true)) by rw [HR1.o, Zdi hlt, Zfz hlt]);refine Z4 (fun W hW => ?_);have hWL : Za w3 W := by rw [hW]; exact (Za.refl _).drew
    have HMW := zC hWL HM;have HSW := zh (HST.o.later hWL);have HBW := zh (HB.o.trans (Below.mono hWL HB.o.size));have hMW : M < W.heap.size := Zb HMW.o;have mW0 := cz3 HMW.o;obtain ⟨A, c, cW, hc, hcm, hrow⟩ := HSW.o.aA;have hSB := HSW.o.lt;unfold maxLen at hcm;obtain ⟨b, o, Ai, ci, Ak, ck, rfl, hb, e0, e1, e2, e3, e4, hIt, hKy, _⟩ := Z3.obj hrow hlt;clear hW hWL hrow hIt hKy
    repeat go_big_quiet_step (fail)
    refine wpQuiet_nil ?_;obtain ⟨q, hq⟩ : ∃ q, (r.aA[i].kind == kk) = q := ⟨_, rfl⟩;have hq2 : (r.aA[i].kind != kk) = !q := by rw [← hq]; rfl
    have HQ := zh hq;clear hq
    cases q with
    | false =>
     have HR := zh (show R = false by rw [HR2.o, HQ.o]; rfl);simp only [Bool.not_false] at hq2;clear mW0 cW e0 e1 e2 e3 e4;go_wp2_with fail;go_ret;exact ⟨Z0 HR.o.symm, HBW.o⟩
    | true =>
     simp only [Bool.not_true] at hq2;have HR3 := zh (show R = (if kind = 13 ∨ kind = 16 then decide (index < (r.aA[i].aJ.length : Int)) else true) by rw [HR2.o, HQ.o]; rfl)
     by_cases h1316 : kind = 13 ∨ kind = 16
     ·have HR := zh (show R = decide (index < (r.aA[i].aJ.length : Int)) by rw [HR3.o, if_pos h1316]);have HST := HSW;have HM := HMW;have HB := HBW;obtain ⟨p13, ht13⟩ : ∃ p, (kind == 13) = p := ⟨_, rfl⟩;obtain ⟨p16, ht16⟩ : ∃ p, (kind == 16) = p := ⟨_, rfl⟩;have hpp : p13 = true ∨ (p13 = false ∧ p16 = true) := by
       rw [← ht13, ← ht16]
       rcases h1316 with h | h
       ·left; simp [h]
       ·right; simp [h]
      clear h1316
      rcases hpp with rfl | ⟨rfl, rfl⟩
      all_goals
       go_upto_region 8 with (fail);clear mW0 cW e0 e1 e2 e3 e4 hMW hSB hb hc hcm;refine Z4 (fun V hV => ?_);have hVL : Za W V := by rw [hV]; exact (Za.refl _).drew
       have HMV := zC hVL HM;have HSV := zh (HST.o.later hVL);have HBV := zh (HB.o.trans (Below.mono hVL HB.o.size));have hMV : M < V.heap.size := Zb HMV.o;have mV0 := cz3 HMV.o;obtain ⟨A9, c9, cW9, hc9, hcm9, hrow9⟩ := HSV.o.aA;have hSB9 := HSV.o.lt;unfold maxLen at hcm9;obtain ⟨b9, o9, Ai9, ci9, Ak9, ck9, rfl, hb9, g0, g1, g2, g3, g4, hIt9, hKy9, _⟩ := Z3.obj hrow9 hlt;clear hV hVL hrow9 hIt9 hKy9
       repeat go_big_quiet_step (fail)
       refine wpQuiet_nil ?_;go_wp2_with fail;go_ret;exact ⟨Z0 HR.o.symm, HBV.o⟩
     ·have HR := zh (show R = true by rw [HR3.o, if_neg h1316]);have t13 : (kind == 13) = false := by simp; omega
      have t16 : (kind == 16) = false := by simp; omega
      clear h1316;go_wp2_with fail;go_ret;exact ⟨Z0 HR.o.symm, HBW.o⟩
   ·have t5 : decide (r.aA.length ≤ i) = true := decide_eq_true (by omega);have HR := zh (show R = false by rw [HR1.o, Zd3 (by omega)]; rfl);refine Z4 (fun W hW => ?_);have hWL : Za w3 W := by rw [hW]; exact (Za.refl _).drew
    have HMW := zC hWL HM;have HSW := zh (HST.o.later hWL);have HBW := zh (HB.o.trans (Below.mono hWL HB.o.size));have hMW : M < W.heap.size := Zb HMW.o;have mW0 := cz3 HMW.o;obtain ⟨A, c, cW, hc, hcm, hrow⟩ := HSW.o.aA;have hSB := HSW.o.lt;unfold maxLen at hcm;clear hW hWL hrow
    repeat go_big_quiet_step (fail)
    refine wpQuiet_nil ?_;go_wp2_with fail;go_ret;exact ⟨Z0 HR.o.symm, HBW.o⟩
theorem Zhs (r : Zf) (B : Nat) (cs : List Value) (F : Nat → Prop) (w : World) (v : Zd) (vs : List Value) (h : Z3 F w B r cs) (hv : Zg F w v vs) :
  Calls Tryz.prog 41 #[.pointer (some ⟨B, 0, none⟩), .agg vs.toArray] w fun e w' => e = .returned (.bool (Zbn r v)) ∧ Below w.heap.size w w' := by
 have hv0 := hv;obtain ⟨rfl, _⟩ := hv;have hl0 := (Za.refl w).alloc (.cells #[.int .i64 v.kind, .int .i64 v.aH, .int .i64 v.index, .string v.text, .int .i64 v.set_.low, .int .i64 v.set_.high] 34);have HH := zh (Zay r B cs F _ v _ (h.later hl0) (Zc.keep hv0 (fun _ h => h) (Ze.later hl0)));have HL := zh hl0;clear hl0 h hv0;obtain ⟨R, hR⟩ : ∃ R, Zbn r v = R := ⟨_, rfl⟩;rw [hR];unfold Zbn at hR
 by_cases hk : v.kind ≤ 12
 ·have t1 : decide (v.kind ≤ 12) = true := decide_eq_true hk;rw [t1, Bool.true_and] at hR;rw [hR] at HH;go_enter Tryz.func41, Tryz.ntmps41;go_wp2_with fail;refine HH.o.mono ?_;rintro e w2 ⟨rfl, hl⟩;have HL2 := zh (HL.o.trans hl);clear hl;go_wp2_with fail;go_ret;exact ⟨rfl, HL2.o⟩
 ·have t1 : decide (v.kind ≤ 12) = false := decide_eq_false hk;rw [t1, Bool.false_and] at hR;subst hR;go_enter Tryz.func41, Tryz.ntmps41;go_wp2_with fail;go_ret;exact ⟨rfl, HL.o⟩
theorem Zgp (r : Zf) (B : Nat) (cs : List Value) (F : Nat → Prop) (w : World) (v : Zd) (vs : List Value) (h : Z3 F w B r cs) (hv : Zg F w v vs) :
  Calls Tryz.prog 58 #[.pointer (some ⟨B, 0, none⟩), .agg vs.toArray] w fun e w' => e = .returned (.bool (Zbn r v)) ∧ Below w.heap.size w w' := by
 have hv0 := hv;obtain ⟨rfl, _⟩ := hv;have hl0 := (Za.refl w).alloc (.cells #[.int .i64 v.kind, .int .i64 v.aH, .int .i64 v.index, .string v.text, .int .i64 v.set_.low, .int .i64 v.set_.high] 34);have HH := zh (Zbr r B cs F _ v _ (h.later hl0) (Zc.keep hv0 (fun _ h => h) (Ze.later hl0)));have HL := zh hl0;clear hl0 h hv0;obtain ⟨R, hR⟩ : ∃ R, Zbn r v = R := ⟨_, rfl⟩;rw [hR];unfold Zbn at hR
 by_cases hk : v.kind ≤ 12
 ·have t1 : decide (v.kind ≤ 12) = true := decide_eq_true hk;rw [t1, Bool.true_and] at hR;rw [hR] at HH;go_enter Tryz.func58, Tryz.ntmps58;go_wp2_with fail;refine HH.o.mono ?_;rintro e w2 ⟨rfl, hl⟩;have HL2 := zh (HL.o.trans hl);clear hl;go_wp2_with fail;go_ret;exact ⟨rfl, HL2.o⟩
 ·have t1 : decide (v.kind ≤ 12) = false := decide_eq_false hk;rw [t1, Bool.false_and] at hR;subst hR;go_enter Tryz.func58, Tryz.ntmps58;go_wp2_with fail;go_ret;exact ⟨rfl, HL.o⟩
theorem Zbj (r : Zf) (B : Nat) (cs : List Value) (F : Nat → Prop) (w : World) (l : List Zd) (v : Value) (h : Z3 F w B r cs) (hr : Zo Zg 6 F w l v) :
  Calls Tryz.prog 50 #[.pointer (some ⟨B, 0, none⟩), v] w fun e w' => e = .returned (.bool (Zao r l)) ∧ Below w.heap.size w w' := by
 obtain ⟨A, c, rfl, hc, hcm, _⟩ := id hr;unfold maxLen at hcm;have HR0 := zh hr;have HS := zh h;clear hr h;obtain ⟨R, hR⟩ : ∃ R, Zao r l = R := ⟨_, rfl⟩;rw [hR];have HR := zh hR;clear hR;go_enter Tryz.func50, Tryz.ntmps50;go_wp2_with fail
 go_loopw [9] (fun i wr => ∃ j : Nat, i = .int .i64 j ∧ j ≤ l.length ∧ Hd (∀ k (h : k < l.length), k < j → Zbn r l[k] = true) ∧ Hd (Za w wr)) (fun i _ => l.length - (intOf i).toNat)
 case atStart => exact ⟨0, rfl, Nat.zero_le _, zh (fun k _ h => by omega), zh (Za.refl w)⟩
 case round =>
  obtain ⟨j, rfl, hj, HD, HLW⟩ := hrel
  by_cases hlt : j < l.length
  ·obtain ⟨b, o, rfl, hb, hat, hel⟩ := (HR0.o.later Zc HLW.o).vat hlt;have HEL := zh hel;clear hel;have t1 : decide ((j : Int) < l.length) = true := decide_eq_true (by omega);obtain ⟨p, hp⟩ : ∃ p, Zbn r l[j] = p := ⟨_, rfl⟩;have HP := zh hp;clear hp;obtain ⟨y, hy⟩ : ∃ y, l[j] = y := ⟨_, rfl⟩;rw [hy] at hat HEL HP;have HY := zh hy;clear hy;have HAT := zh hat;obtain ⟨c0, c1, c2, c3, c4, c5⟩ := hat;have hl0 := (Za.refl wr).alloc (.cells #[.int .i64 y.kind, .int .i64 y.aH, .int .i64 y.index, .string y.text, .int .i64 y.set_.low, .int .i64 y.set_.high] 34);have HLA := zh (HLW.o.trans hl0);have HH := zh (Zhs r B cs F _ y _ (HS.o.later (HLW.o.trans hl0)) (Zc.keep HEL.o (fun _ h => h) (Ze.later hl0)));clear hl0;rw [HP.o] at HH;go_wp2_with fail;refine HH.o.mono ?_;rintro e w2 ⟨rfl, hl⟩;have HL2 := zh (HLA.o.trans hl);clear hl c0 c1 c2 c3 c4 c5
   cases p with
   | false =>
    have hR0 : R = false := by rw [← HR.o]; exact Zed hlt (by rw [HY.o]; exact HP.o)
    subst hR0;go_wp2_with fail;go_ret;exact ⟨rfl, HL2.o⟩
   | true =>
    have HD2 : Hd (∀ k (h : k < l.length), k < j + 1 → Zbn r l[k] = true) := zh (Zda HD.o (fun _ => by rw [HY.o]; exact HP.o));go_wp2_with fail
    go_roundw
    case rel => exact ⟨j + 1, by go_num, by omega, HD2, HL2⟩
    case measure => simp [intOf]; omega
  ·have t1 : decide ((j : Int) < l.length) = false := decide_eq_false (by omega);have hR0 : R = true := by rw [← HR.o]; exact Zfh (fun k hk => HD.o k hk (by omega))
   subst hR0;go_wp2_with fail;go_ret;exact ⟨rfl, HLW.o⟩
theorem Zb7 (r : Zf) (B : Nat) (cs : List Value) (F : Nat → Prop) (w : World) (l : List Zd) (v : Value) (h : Z3 F w B r cs) (hr : Zo Zg 6 F w l v) :
  Calls Tryz.prog 101 #[.pointer (some ⟨B, 0, none⟩), v] w fun e w' => e = .returned (.bool (Zao r l)) ∧ Below w.heap.size w w' := by
 obtain ⟨A, c, rfl, hc, hcm, _⟩ := id hr;unfold maxLen at hcm;have HR0 := zh hr;have HS := zh h;clear hr h;obtain ⟨R, hR⟩ : ∃ R, Zao r l = R := ⟨_, rfl⟩;rw [hR];have HR := zh hR;clear hR;go_enter Tryz.func101, Tryz.ntmps101;go_wp2_with fail
 go_loopw [5] (fun i wr => ∃ j : Nat, i = .int .i64 j ∧ j ≤ l.length ∧ Hd (∀ k (h : k < l.length), k < j → Zbn r l[k] = true) ∧ Hd (Za w wr)) (fun i _ => l.length - (intOf i).toNat)
 case atStart => exact ⟨0, rfl, Nat.zero_le _, zh (fun k _ h => by omega), zh (Za.refl w)⟩
 case round =>
  obtain ⟨j, rfl, hj, HD, HLW⟩ := hrel
  by_cases hlt : j < l.length
  ·obtain ⟨b, o, rfl, hb, hat, hel⟩ := (HR0.o.later Zc HLW.o).vat hlt;have HEL := zh hel;clear hel;have t1 : decide ((j : Int) < l.length) = true := decide_eq_true (by omega);obtain ⟨p, hp⟩ : ∃ p, Zbn r l[j] = p := ⟨_, rfl⟩;have HP := zh hp;clear hp;obtain ⟨y, hy⟩ : ∃ y, l[j] = y := ⟨_, rfl⟩;rw [hy] at hat HEL HP;have HY := zh hy;clear hy;have HAT := zh hat;obtain ⟨c0, c1, c2, c3, c4, c5⟩ := hat;have HLA := HLW;have HH := zh (Zgp r B cs F _ y _ (HS.o.later HLW.o) HEL.o);rw [HP.o] at HH;go_wp2_with fail;refine HH.o.mono ?_;rintro e w2 ⟨rfl, hl⟩;have HL2 := zh (HLA.o.trans hl);clear hl c0 c1 c2 c3 c4 c5
   cases p with
   | false =>
    have hR0 : R = false := by rw [← HR.o]; exact Zed hlt (by rw [HY.o]; exact HP.o)
    subst hR0;go_wp2_with fail;go_ret;exact ⟨rfl, HL2.o⟩
   | true =>
    have HD2 : Hd (∀ k (h : k < l.length), k < j + 1 → Zbn r l[k] = true) := zh (Zda HD.o (fun _ => by rw [HY.o]; exact HP.o));go_wp2_with fail
    go_roundw
    case rel => exact ⟨j + 1, by go_num, by omega, HD2, HL2⟩
    case measure => simp [intOf]; omega
  ·have t1 : decide ((j : Int) < l.length) = false := decide_eq_false (by omega);have hR0 : R = true := by rw [← HR.o]; exact Zfh (fun k hk => HD.o k hk (by omega))
   subst hR0;go_wp2_with fail;go_ret;exact ⟨rfl, HLW.o⟩
theorem Zpv (r : Zf) (B : Nat) (cs : List Value) (F : Nat → Prop) (w : World) (l : List Zd) (v : Value) (h : Z3 F w B r cs) (hr : Zo Zg 6 F w l v) :
  Calls Tryz.prog 107 #[.pointer (some ⟨B, 0, none⟩), .int .i64 1, v] w fun e w' => e = .returned (.bool (Zab r 1 l)) ∧ Below w.heap.size w w' := by
 obtain ⟨R, hR⟩ : ∃ R, Zab r 1 l = R := ⟨_, rfl⟩;rw [hR];have hR2 : Zh r [2] l = R := by rw [← hR]; simp [Zab, Zar]
 clear hR;obtain ⟨A, c, rfl, hc, hcm, _⟩ := id hr;unfold maxLen at hcm;have hl1 : Za w ((w.alloc (.cells #[] 3)).alloc (.cells #[.int .i64 2] 3)) := ((Za.refl w).alloc _).alloc _;have HS := zh (h.later hl1);have HRW := zh (hr.later Zc hl1);have HB := zh hl1;clear h hr hl1;have HKA := zh (show ((w.alloc (.cells #[] 3)).alloc (.cells #[.int .i64 2] 3)).heap[w.heap.size + 1]? = some (.cells #[.int .i64 2] 3 (0, 0)) by have := heap_alloc_new (w.alloc (.cells #[] 3)) (.cells #[.int .i64 2] 3); simpa using this)
 by_cases hN : l.length = 1
 ·obtain ⟨v0, rfl⟩ : ∃ v0, l = [v0] := by
   match l, hN with
   | [a0], _ => exact ⟨a0, rfl⟩
  clear hN;have HR2 := zh hR2;clear hR2;simp only [List.length_cons, List.length_nil, Nat.zero_add, Nat.reduceAdd] at hc HRW ⊢;go_enter Tryz.func107, Tryz.ntmps107;go_wp2_with fail;refine wp_loop_rounds 2 ?_;rw [rounds_succ];obtain ⟨x, hx⟩ : ∃ x, x = ((w.alloc (.cells #[] 3)).alloc (.cells #[.int .i64 2] 3)) := ⟨_, rfl⟩;rw [← hx] at HS HRW HB HKA ⊢;clear hx;have HLX := zh (Za.refl x);have HKX := zB HLX HKA;have k0 := cq HKX.o 0;simp only [nD, nE, nF] at k0;obtain ⟨b, o, e, hb, hat, hel0⟩ := (HRW.o.later Zc HLX.o).vat (j := 0) (by simp);cases e;simp only [List.getElem_cons_succ, List.getElem_cons_zero, Nat.reduceMul, Nat.add_zero] at hat hel0;obtain ⟨p, hp⟩ : ∃ p, (v0.kind == 2) = p := ⟨_, rfl⟩;have hq : (v0.kind != 2) = !p := by rw [← hp]; rfl
  have HP0 := zh hp;clear hp;obtain ⟨c0, c1, c2, c3, c4, c5⟩ := hat
  cases p with
  | false =>
   simp only [Bool.not_false] at hq;have hR0 : R = false := by rw [← HR2.o]; simp [Zh, Zx, HP0.o]
   subst hR0;go_wp2_with fail;go_ret;exact ⟨rfl, HB.o.trans HLX.o⟩
  | true =>
   simp only [Bool.not_true] at hq;obtain ⟨q, hqq⟩ : ∃ q, Zj r v0 = q := ⟨_, rfl⟩;have HQ0 := zh hqq;clear hqq;go_wp2_with fail;refine (Zay r B cs F _ v0 _ (HS.o.later HLX.o) hel0).mono ?_;rw [HQ0.o];rintro e y ⟨rfl, hy⟩;replace HLX := zh (HLX.o.trans hy);clear hy hel0 c0 c1 c2 c3 c4 c5 hb hq k0;clear HKX
   cases q with
   | false =>
    have hR0 : R = false := by rw [← HR2.o]; simp [Zh, Zx, HP0.o, HQ0.o]
    subst hR0;go_wp2_with fail;go_ret;exact ⟨rfl, HB.o.trans HLX.o⟩
   | true =>
    go_wp2_with fail;rw [rounds_succ];have HKX := zB HLX HKA;have hR0 : R = true := by rw [← HR2.o]; simp [Zh, Zx, HP0.o, HQ0.o]
    subst hR0;go_wp2_with fail;go_ret;exact ⟨rfl, HB.o.trans HLX.o⟩
 ·have t1 : ((l.length : Int) != 1) = true := bne_iff_ne.2 (by omega);have hR0 : R = false := by
   rw [← hR2]
   match l, hN with
   | [], _ => simp [Zh]
   | _ :: _ :: _, _ => simp [Zh]
   | [_], h => exact absurd rfl h
  subst hR0;go_enter Tryz.func107, Tryz.ntmps107;go_wp2_with fail;go_ret;exact ⟨rfl, HB.o⟩
theorem Zpw (r : Zf) (B : Nat) (cs : List Value) (F : Nat → Prop) (w : World) (l : List Zd) (v : Value) (h : Z3 F w B r cs) (hr : Zo Zg 6 F w l v) :
  Calls Tryz.prog 107 #[.pointer (some ⟨B, 0, none⟩), .int .i64 2, v] w fun e w' => e = .returned (.bool (Zab r 2 l)) ∧ Below w.heap.size w w' := by
 obtain ⟨R, hR⟩ : ∃ R, Zab r 2 l = R := ⟨_, rfl⟩;rw [hR];have hR2 : Zh r [1] l = R := by rw [← hR]; simp [Zab, Zar]
 clear hR;obtain ⟨A, c, rfl, hc, hcm, _⟩ := id hr;unfold maxLen at hcm;have hl1 : Za w ((w.alloc (.cells #[] 3)).alloc (.cells #[.int .i64 1] 3)) := ((Za.refl w).alloc _).alloc _;have HS := zh (h.later hl1);have HRW := zh (hr.later Zc hl1);have HB := zh hl1;clear h hr hl1;have HKA := zh (show ((w.alloc (.cells #[] 3)).alloc (.cells #[.int .i64 1] 3)).heap[w.heap.size + 1]? = some (.cells #[.int .i64 1] 3 (0, 0)) by have := heap_alloc_new (w.alloc (.cells #[] 3)) (.cells #[.int .i64 1] 3); simpa using this)
 by_cases hN : l.length = 1
 ·obtain ⟨v0, rfl⟩ : ∃ v0, l = [v0] := by
   match l, hN with
   | [a0], _ => exact ⟨a0, rfl⟩
  clear hN;have HR2 := zh hR2;clear hR2;simp only [List.length_cons, List.length_nil, Nat.zero_add, Nat.reduceAdd] at hc HRW ⊢;go_enter Tryz.func107, Tryz.ntmps107;go_wp2_with fail;refine wp_loop_rounds 2 ?_;rw [rounds_succ];obtain ⟨x, hx⟩ : ∃ x, x = ((w.alloc (.cells #[] 3)).alloc (.cells #[.int .i64 1] 3)) := ⟨_, rfl⟩;rw [← hx] at HS HRW HB HKA ⊢;clear hx;have HLX := zh (Za.refl x);have HKX := zB HLX HKA;have k0 := cq HKX.o 0;simp only [nD, nE, nF] at k0;obtain ⟨b, o, e, hb, hat, hel0⟩ := (HRW.o.later Zc HLX.o).vat (j := 0) (by simp);cases e;simp only [List.getElem_cons_succ, List.getElem_cons_zero, Nat.reduceMul, Nat.add_zero] at hat hel0;obtain ⟨p, hp⟩ : ∃ p, (v0.kind == 1) = p := ⟨_, rfl⟩;have hq : (v0.kind != 1) = !p := by rw [← hp]; rfl
  have HP0 := zh hp;clear hp;obtain ⟨c0, c1, c2, c3, c4, c5⟩ := hat
  cases p with
  | false =>
   simp only [Bool.not_false] at hq;have hR0 : R = false := by rw [← HR2.o]; simp [Zh, Zx, HP0.o]
   subst hR0;go_wp2_with fail;go_ret;exact ⟨rfl, HB.o.trans HLX.o⟩
  | true =>
   simp only [Bool.not_true] at hq;obtain ⟨q, hqq⟩ : ∃ q, Zj r v0 = q := ⟨_, rfl⟩;have HQ0 := zh hqq;clear hqq;go_wp2_with fail;refine (Zay r B cs F _ v0 _ (HS.o.later HLX.o) hel0).mono ?_;rw [HQ0.o];rintro e y ⟨rfl, hy⟩;replace HLX := zh (HLX.o.trans hy);clear hy hel0 c0 c1 c2 c3 c4 c5 hb hq k0;clear HKX
   cases q with
   | false =>
    have hR0 : R = false := by rw [← HR2.o]; simp [Zh, Zx, HP0.o, HQ0.o]
    subst hR0;go_wp2_with fail;go_ret;exact ⟨rfl, HB.o.trans HLX.o⟩
   | true =>
    go_wp2_with fail;rw [rounds_succ];have HKX := zB HLX HKA;have hR0 : R = true := by rw [← HR2.o]; simp [Zh, Zx, HP0.o, HQ0.o]
    subst hR0;go_wp2_with fail;go_ret;exact ⟨rfl, HB.o.trans HLX.o⟩
 ·have t1 : ((l.length : Int) != 1) = true := bne_iff_ne.2 (by omega);have hR0 : R = false := by
   rw [← hR2]
   match l, hN with
   | [], _ => simp [Zh]
   | _ :: _ :: _, _ => simp [Zh]
   | [_], h => exact absurd rfl h
  subst hR0;go_enter Tryz.func107, Tryz.ntmps107;go_wp2_with fail;go_ret;exact ⟨rfl, HB.o⟩
theorem Zpx (r : Zf) (B : Nat) (cs : List Value) (F : Nat → Prop) (w : World) (l : List Zd) (v : Value) (h : Z3 F w B r cs) (hr : Zo Zg 6 F w l v) :
  Calls Tryz.prog 107 #[.pointer (some ⟨B, 0, none⟩), .int .i64 3, v] w fun e w' => e = .returned (.bool (Zab r 3 l)) ∧ Below w.heap.size w w' := by
 obtain ⟨R, hR⟩ : ∃ R, Zab r 3 l = R := ⟨_, rfl⟩;rw [hR];have hR2 : Zh r [1] l = R := by rw [← hR]; simp [Zab, Zar]
 clear hR;obtain ⟨A, c, rfl, hc, hcm, _⟩ := id hr;unfold maxLen at hcm;have hl1 : Za w ((w.alloc (.cells #[] 3)).alloc (.cells #[.int .i64 1] 3)) := ((Za.refl w).alloc _).alloc _;have HS := zh (h.later hl1);have HRW := zh (hr.later Zc hl1);have HB := zh hl1;clear h hr hl1;have HKA := zh (show ((w.alloc (.cells #[] 3)).alloc (.cells #[.int .i64 1] 3)).heap[w.heap.size + 1]? = some (.cells #[.int .i64 1] 3 (0, 0)) by have := heap_alloc_new (w.alloc (.cells #[] 3)) (.cells #[.int .i64 1] 3); simpa using this)
 by_cases hN : l.length = 1
 ·obtain ⟨v0, rfl⟩ : ∃ v0, l = [v0] := by
   match l, hN with
   | [a0], _ => exact ⟨a0, rfl⟩
  clear hN;have HR2 := zh hR2;clear hR2;simp only [List.length_cons, List.length_nil, Nat.zero_add, Nat.reduceAdd] at hc HRW ⊢;go_enter Tryz.func107, Tryz.ntmps107;go_wp2_with fail;refine wp_loop_rounds 2 ?_;rw [rounds_succ];obtain ⟨x, hx⟩ : ∃ x, x = ((w.alloc (.cells #[] 3)).alloc (.cells #[.int .i64 1] 3)) := ⟨_, rfl⟩;rw [← hx] at HS HRW HB HKA ⊢;clear hx;have HLX := zh (Za.refl x);have HKX := zB HLX HKA;have k0 := cq HKX.o 0;simp only [nD, nE, nF] at k0;obtain ⟨b, o, e, hb, hat, hel0⟩ := (HRW.o.later Zc HLX.o).vat (j := 0) (by simp);cases e;simp only [List.getElem_cons_succ, List.getElem_cons_zero, Nat.reduceMul, Nat.add_zero] at hat hel0;obtain ⟨p, hp⟩ : ∃ p, (v0.kind == 1) = p := ⟨_, rfl⟩;have hq : (v0.kind != 1) = !p := by rw [← hp]; rfl
  have HP0 := zh hp;clear hp;obtain ⟨c0, c1, c2, c3, c4, c5⟩ := hat
  cases p with
  | false =>
   simp only [Bool.not_false] at hq;have hR0 : R = false := by rw [← HR2.o]; simp [Zh, Zx, HP0.o]
   subst hR0;go_wp2_with fail;go_ret;exact ⟨rfl, HB.o.trans HLX.o⟩
  | true =>
   simp only [Bool.not_true] at hq;obtain ⟨q, hqq⟩ : ∃ q, Zj r v0 = q := ⟨_, rfl⟩;have HQ0 := zh hqq;clear hqq;go_wp2_with fail;refine (Zay r B cs F _ v0 _ (HS.o.later HLX.o) hel0).mono ?_;rw [HQ0.o];rintro e y ⟨rfl, hy⟩;replace HLX := zh (HLX.o.trans hy);clear hy hel0 c0 c1 c2 c3 c4 c5 hb hq k0;clear HKX
   cases q with
   | false =>
    have hR0 : R = false := by rw [← HR2.o]; simp [Zh, Zx, HP0.o, HQ0.o]
    subst hR0;go_wp2_with fail;go_ret;exact ⟨rfl, HB.o.trans HLX.o⟩
   | true =>
    go_wp2_with fail;rw [rounds_succ];have HKX := zB HLX HKA;have hR0 : R = true := by rw [← HR2.o]; simp [Zh, Zx, HP0.o, HQ0.o]
    subst hR0;go_wp2_with fail;go_ret;exact ⟨rfl, HB.o.trans HLX.o⟩
 ·have t1 : ((l.length : Int) != 1) = true := bne_iff_ne.2 (by omega);have hR0 : R = false := by
   rw [← hR2]
   match l, hN with
   | [], _ => simp [Zh]
   | _ :: _ :: _, _ => simp [Zh]
   | [_], h => exact absurd rfl h
  subst hR0;go_enter Tryz.func107, Tryz.ntmps107;go_wp2_with fail;go_ret;exact ⟨rfl, HB.o⟩
theorem Zpy (r : Zf) (B : Nat) (cs : List Value) (F : Nat → Prop) (w : World) (l : List Zd) (v : Value) (h : Z3 F w B r cs) (hr : Zo Zg 6 F w l v) :
  Calls Tryz.prog 107 #[.pointer (some ⟨B, 0, none⟩), .int .i64 4, v] w fun e w' => e = .returned (.bool (Zab r 4 l)) ∧ Below w.heap.size w w' := by
 obtain ⟨R, hR⟩ : ∃ R, Zab r 4 l = R := ⟨_, rfl⟩;rw [hR];have hR2 : Zh r [1] l = R := by rw [← hR]; simp [Zab, Zar]
 clear hR;obtain ⟨A, c, rfl, hc, hcm, _⟩ := id hr;unfold maxLen at hcm;have hl1 : Za w ((w.alloc (.cells #[] 3)).alloc (.cells #[.int .i64 1] 3)) := ((Za.refl w).alloc _).alloc _;have HS := zh (h.later hl1);have HRW := zh (hr.later Zc hl1);have HB := zh hl1;clear h hr hl1;have HKA := zh (show ((w.alloc (.cells #[] 3)).alloc (.cells #[.int .i64 1] 3)).heap[w.heap.size + 1]? = some (.cells #[.int .i64 1] 3 (0, 0)) by have := heap_alloc_new (w.alloc (.cells #[] 3)) (.cells #[.int .i64 1] 3); simpa using this)
 by_cases hN : l.length = 1
 ·obtain ⟨v0, rfl⟩ : ∃ v0, l = [v0] := by
   match l, hN with
   | [a0], _ => exact ⟨a0, rfl⟩
  clear hN;have HR2 := zh hR2;clear hR2;simp only [List.length_cons, List.length_nil, Nat.zero_add, Nat.reduceAdd] at hc HRW ⊢;go_enter Tryz.func107, Tryz.ntmps107;go_wp2_with fail;refine wp_loop_rounds 2 ?_;rw [rounds_succ];obtain ⟨x, hx⟩ : ∃ x, x = ((w.alloc (.cells #[] 3)).alloc (.cells #[.int .i64 1] 3)) := ⟨_, rfl⟩;rw [← hx] at HS HRW HB HKA ⊢;clear hx;have HLX := zh (Za.refl x);have HKX := zB HLX HKA;have k0 := cq HKX.o 0;simp only [nD, nE, nF] at k0;obtain ⟨b, o, e, hb, hat, hel0⟩ := (HRW.o.later Zc HLX.o).vat (j := 0) (by simp);cases e;simp only [List.getElem_cons_succ, List.getElem_cons_zero, Nat.reduceMul, Nat.add_zero] at hat hel0;obtain ⟨p, hp⟩ : ∃ p, (v0.kind == 1) = p := ⟨_, rfl⟩;have hq : (v0.kind != 1) = !p := by rw [← hp]; rfl
  have HP0 := zh hp;clear hp;obtain ⟨c0, c1, c2, c3, c4, c5⟩ := hat
  cases p with
  | false =>
   simp only [Bool.not_false] at hq;have hR0 : R = false := by rw [← HR2.o]; simp [Zh, Zx, HP0.o]
   subst hR0;go_wp2_with fail;go_ret;exact ⟨rfl, HB.o.trans HLX.o⟩
  | true =>
   simp only [Bool.not_true] at hq;obtain ⟨q, hqq⟩ : ∃ q, Zj r v0 = q := ⟨_, rfl⟩;have HQ0 := zh hqq;clear hqq;go_wp2_with fail;refine (Zay r B cs F _ v0 _ (HS.o.later HLX.o) hel0).mono ?_;rw [HQ0.o];rintro e y ⟨rfl, hy⟩;replace HLX := zh (HLX.o.trans hy);clear hy hel0 c0 c1 c2 c3 c4 c5 hb hq k0;clear HKX
   cases q with
   | false =>
    have hR0 : R = false := by rw [← HR2.o]; simp [Zh, Zx, HP0.o, HQ0.o]
    subst hR0;go_wp2_with fail;go_ret;exact ⟨rfl, HB.o.trans HLX.o⟩
   | true =>
    go_wp2_with fail;rw [rounds_succ];have HKX := zB HLX HKA;have hR0 : R = true := by rw [← HR2.o]; simp [Zh, Zx, HP0.o, HQ0.o]
    subst hR0;go_wp2_with fail;go_ret;exact ⟨rfl, HB.o.trans HLX.o⟩
 ·have t1 : ((l.length : Int) != 1) = true := bne_iff_ne.2 (by omega);have hR0 : R = false := by
   rw [← hR2]
   match l, hN with
   | [], _ => simp [Zh]
   | _ :: _ :: _, _ => simp [Zh]
   | [_], h => exact absurd rfl h
  subst hR0;go_enter Tryz.func107, Tryz.ntmps107;go_wp2_with fail;go_ret;exact ⟨rfl, HB.o⟩
theorem Zpz (r : Zf) (B : Nat) (cs : List Value) (F : Nat → Prop) (w : World) (l : List Zd) (v : Value) (h : Z3 F w B r cs) (hr : Zo Zg 6 F w l v) :
  Calls Tryz.prog 107 #[.pointer (some ⟨B, 0, none⟩), .int .i64 5, v] w fun e w' => e = .returned (.bool (Zab r 5 l)) ∧ Below w.heap.size w w' := by
 obtain ⟨R, hR⟩ : ∃ R, Zab r 5 l = R := ⟨_, rfl⟩;rw [hR];have hR2 : Zh r [1] l = R := by rw [← hR]; simp [Zab, Zar]
 clear hR;obtain ⟨A, c, rfl, hc, hcm, _⟩ := id hr;unfold maxLen at hcm;have hl1 : Za w ((w.alloc (.cells #[] 3)).alloc (.cells #[.int .i64 1] 3)) := ((Za.refl w).alloc _).alloc _;have HS := zh (h.later hl1);have HRW := zh (hr.later Zc hl1);have HB := zh hl1;clear h hr hl1;have HKA := zh (show ((w.alloc (.cells #[] 3)).alloc (.cells #[.int .i64 1] 3)).heap[w.heap.size + 1]? = some (.cells #[.int .i64 1] 3 (0, 0)) by have := heap_alloc_new (w.alloc (.cells #[] 3)) (.cells #[.int .i64 1] 3); simpa using this)
 by_cases hN : l.length = 1
 ·obtain ⟨v0, rfl⟩ : ∃ v0, l = [v0] := by
   match l, hN with
   | [a0], _ => exact ⟨a0, rfl⟩
  clear hN;have HR2 := zh hR2;clear hR2;simp only [List.length_cons, List.length_nil, Nat.zero_add, Nat.reduceAdd] at hc HRW ⊢;go_enter Tryz.func107, Tryz.ntmps107;go_wp2_with fail;refine wp_loop_rounds 2 ?_;rw [rounds_succ];obtain ⟨x, hx⟩ : ∃ x, x = ((w.alloc (.cells #[] 3)).alloc (.cells #[.int .i64 1] 3)) := ⟨_, rfl⟩;rw [← hx] at HS HRW HB HKA ⊢;clear hx;have HLX := zh (Za.refl x);have HKX := zB HLX HKA;have k0 := cq HKX.o 0;simp only [nD, nE, nF] at k0;obtain ⟨b, o, e, hb, hat, hel0⟩ := (HRW.o.later Zc HLX.o).vat (j := 0) (by simp);cases e;simp only [List.getElem_cons_succ, List.getElem_cons_zero, Nat.reduceMul, Nat.add_zero] at hat hel0;obtain ⟨p, hp⟩ : ∃ p, (v0.kind == 1) = p := ⟨_, rfl⟩;have hq : (v0.kind != 1) = !p := by rw [← hp]; rfl
  have HP0 := zh hp;clear hp;obtain ⟨c0, c1, c2, c3, c4, c5⟩ := hat
  cases p with
  | false =>
   simp only [Bool.not_false] at hq;have hR0 : R = false := by rw [← HR2.o]; simp [Zh, Zx, HP0.o]
   subst hR0;go_wp2_with fail;go_ret;exact ⟨rfl, HB.o.trans HLX.o⟩
  | true =>
   simp only [Bool.not_true] at hq;obtain ⟨q, hqq⟩ : ∃ q, Zj r v0 = q := ⟨_, rfl⟩;have HQ0 := zh hqq;clear hqq;go_wp2_with fail;refine (Zay r B cs F _ v0 _ (HS.o.later HLX.o) hel0).mono ?_;rw [HQ0.o];rintro e y ⟨rfl, hy⟩;replace HLX := zh (HLX.o.trans hy);clear hy hel0 c0 c1 c2 c3 c4 c5 hb hq k0;clear HKX
   cases q with
   | false =>
    have hR0 : R = false := by rw [← HR2.o]; simp [Zh, Zx, HP0.o, HQ0.o]
    subst hR0;go_wp2_with fail;go_ret;exact ⟨rfl, HB.o.trans HLX.o⟩
   | true =>
    go_wp2_with fail;rw [rounds_succ];have HKX := zB HLX HKA;have hR0 : R = true := by rw [← HR2.o]; simp [Zh, Zx, HP0.o, HQ0.o]
    subst hR0;go_wp2_with fail;go_ret;exact ⟨rfl, HB.o.trans HLX.o⟩
 ·have t1 : ((l.length : Int) != 1) = true := bne_iff_ne.2 (by omega);have hR0 : R = false := by
   rw [← hR2]
   match l, hN with
   | [], _ => simp [Zh]
   | _ :: _ :: _, _ => simp [Zh]
   | [_], h => exact absurd rfl h
  subst hR0;go_enter Tryz.func107, Tryz.ntmps107;go_wp2_with fail;go_ret;exact ⟨rfl, HB.o⟩
theorem Zp0 (r : Zf) (B : Nat) (cs : List Value) (F : Nat → Prop) (w : World) (l : List Zd) (v : Value) (h : Z3 F w B r cs) (hr : Zo Zg 6 F w l v) :
  Calls Tryz.prog 107 #[.pointer (some ⟨B, 0, none⟩), .int .i64 6, v] w fun e w' => e = .returned (.bool (Zab r 6 l)) ∧ Below w.heap.size w w' := by
 obtain ⟨R, hR⟩ : ∃ R, Zab r 6 l = R := ⟨_, rfl⟩;rw [hR];have hR2 : Zh r [1] l = R := by rw [← hR]; simp [Zab, Zar]
 clear hR;obtain ⟨A, c, rfl, hc, hcm, _⟩ := id hr;unfold maxLen at hcm;have hl1 : Za w ((w.alloc (.cells #[] 3)).alloc (.cells #[.int .i64 1] 3)) := ((Za.refl w).alloc _).alloc _;have HS := zh (h.later hl1);have HRW := zh (hr.later Zc hl1);have HB := zh hl1;clear h hr hl1;have HKA := zh (show ((w.alloc (.cells #[] 3)).alloc (.cells #[.int .i64 1] 3)).heap[w.heap.size + 1]? = some (.cells #[.int .i64 1] 3 (0, 0)) by have := heap_alloc_new (w.alloc (.cells #[] 3)) (.cells #[.int .i64 1] 3); simpa using this)
 by_cases hN : l.length = 1
 ·obtain ⟨v0, rfl⟩ : ∃ v0, l = [v0] := by
   match l, hN with
   | [a0], _ => exact ⟨a0, rfl⟩
  clear hN;have HR2 := zh hR2;clear hR2;simp only [List.length_cons, List.length_nil, Nat.zero_add, Nat.reduceAdd] at hc HRW ⊢;go_enter Tryz.func107, Tryz.ntmps107;go_wp2_with fail;refine wp_loop_rounds 2 ?_;rw [rounds_succ];obtain ⟨x, hx⟩ : ∃ x, x = ((w.alloc (.cells #[] 3)).alloc (.cells #[.int .i64 1] 3)) := ⟨_, rfl⟩;rw [← hx] at HS HRW HB HKA ⊢;clear hx;have HLX := zh (Za.refl x);have HKX := zB HLX HKA;have k0 := cq HKX.o 0;simp only [nD, nE, nF] at k0;obtain ⟨b, o, e, hb, hat, hel0⟩ := (HRW.o.later Zc HLX.o).vat (j := 0) (by simp);cases e;simp only [List.getElem_cons_succ, List.getElem_cons_zero, Nat.reduceMul, Nat.add_zero] at hat hel0;obtain ⟨p, hp⟩ : ∃ p, (v0.kind == 1) = p := ⟨_, rfl⟩;have hq : (v0.kind != 1) = !p := by rw [← hp]; rfl
  have HP0 := zh hp;clear hp;obtain ⟨c0, c1, c2, c3, c4, c5⟩ := hat
  cases p with
  | false =>
   simp only [Bool.not_false] at hq;have hR0 : R = false := by rw [← HR2.o]; simp [Zh, Zx, HP0.o]
   subst hR0;go_wp2_with fail;go_ret;exact ⟨rfl, HB.o.trans HLX.o⟩
  | true =>
   simp only [Bool.not_true] at hq;obtain ⟨q, hqq⟩ : ∃ q, Zj r v0 = q := ⟨_, rfl⟩;have HQ0 := zh hqq;clear hqq;go_wp2_with fail;refine (Zay r B cs F _ v0 _ (HS.o.later HLX.o) hel0).mono ?_;rw [HQ0.o];rintro e y ⟨rfl, hy⟩;replace HLX := zh (HLX.o.trans hy);clear hy hel0 c0 c1 c2 c3 c4 c5 hb hq k0;clear HKX
   cases q with
   | false =>
    have hR0 : R = false := by rw [← HR2.o]; simp [Zh, Zx, HP0.o, HQ0.o]
    subst hR0;go_wp2_with fail;go_ret;exact ⟨rfl, HB.o.trans HLX.o⟩
   | true =>
    go_wp2_with fail;rw [rounds_succ];have HKX := zB HLX HKA;have hR0 : R = true := by rw [← HR2.o]; simp [Zh, Zx, HP0.o, HQ0.o]
    subst hR0;go_wp2_with fail;go_ret;exact ⟨rfl, HB.o.trans HLX.o⟩
 ·have t1 : ((l.length : Int) != 1) = true := bne_iff_ne.2 (by omega);have hR0 : R = false := by
   rw [← hR2]
   match l, hN with
   | [], _ => simp [Zh]
   | _ :: _ :: _, _ => simp [Zh]
   | [_], h => exact absurd rfl h
  subst hR0;go_enter Tryz.func107, Tryz.ntmps107;go_wp2_with fail;go_ret;exact ⟨rfl, HB.o⟩
theorem Zp1 (r : Zf) (B : Nat) (cs : List Value) (F : Nat → Prop) (w : World) (l : List Zd) (v : Value) (h : Z3 F w B r cs) (hr : Zo Zg 6 F w l v) :
  Calls Tryz.prog 107 #[.pointer (some ⟨B, 0, none⟩), .int .i64 7, v] w fun e w' => e = .returned (.bool (Zab r 7 l)) ∧ Below w.heap.size w w' := by
 obtain ⟨R, hR⟩ : ∃ R, Zab r 7 l = R := ⟨_, rfl⟩;rw [hR];have hR2 : Zh r [3] l = R := by rw [← hR]; simp [Zab, Zar]
 clear hR;obtain ⟨A, c, rfl, hc, hcm, _⟩ := id hr;unfold maxLen at hcm;have hl1 : Za w ((w.alloc (.cells #[] 3)).alloc (.cells #[.int .i64 3] 3)) := ((Za.refl w).alloc _).alloc _;have HS := zh (h.later hl1);have HRW := zh (hr.later Zc hl1);have HB := zh hl1;clear h hr hl1;have HKA := zh (show ((w.alloc (.cells #[] 3)).alloc (.cells #[.int .i64 3] 3)).heap[w.heap.size + 1]? = some (.cells #[.int .i64 3] 3 (0, 0)) by have := heap_alloc_new (w.alloc (.cells #[] 3)) (.cells #[.int .i64 3] 3); simpa using this)
 by_cases hN : l.length = 1
 ·obtain ⟨v0, rfl⟩ : ∃ v0, l = [v0] := by
   match l, hN with
   | [a0], _ => exact ⟨a0, rfl⟩
  clear hN;have HR2 := zh hR2;clear hR2;simp only [List.length_cons, List.length_nil, Nat.zero_add, Nat.reduceAdd] at hc HRW ⊢;go_enter Tryz.func107, Tryz.ntmps107;go_wp2_with fail;refine wp_loop_rounds 2 ?_;rw [rounds_succ];obtain ⟨x, hx⟩ : ∃ x, x = ((w.alloc (.cells #[] 3)).alloc (.cells #[.int .i64 3] 3)) := ⟨_, rfl⟩;rw [← hx] at HS HRW HB HKA ⊢;clear hx;have HLX := zh (Za.refl x);have HKX := zB HLX HKA;have k0 := cq HKX.o 0;simp only [nD, nE, nF] at k0;obtain ⟨b, o, e, hb, hat, hel0⟩ := (HRW.o.later Zc HLX.o).vat (j := 0) (by simp);cases e;simp only [List.getElem_cons_succ, List.getElem_cons_zero, Nat.reduceMul, Nat.add_zero] at hat hel0;obtain ⟨p, hp⟩ : ∃ p, (v0.kind == 3) = p := ⟨_, rfl⟩;have hq : (v0.kind != 3) = !p := by rw [← hp]; rfl
  have HP0 := zh hp;clear hp;obtain ⟨c0, c1, c2, c3, c4, c5⟩ := hat
  cases p with
  | false =>
   simp only [Bool.not_false] at hq;have hR0 : R = false := by rw [← HR2.o]; simp [Zh, Zx, HP0.o]
   subst hR0;go_wp2_with fail;go_ret;exact ⟨rfl, HB.o.trans HLX.o⟩
  | true =>
   simp only [Bool.not_true] at hq;obtain ⟨q, hqq⟩ : ∃ q, Zj r v0 = q := ⟨_, rfl⟩;have HQ0 := zh hqq;clear hqq;go_wp2_with fail;refine (Zay r B cs F _ v0 _ (HS.o.later HLX.o) hel0).mono ?_;rw [HQ0.o];rintro e y ⟨rfl, hy⟩;replace HLX := zh (HLX.o.trans hy);clear hy hel0 c0 c1 c2 c3 c4 c5 hb hq k0;clear HKX
   cases q with
   | false =>
    have hR0 : R = false := by rw [← HR2.o]; simp [Zh, Zx, HP0.o, HQ0.o]
    subst hR0;go_wp2_with fail;go_ret;exact ⟨rfl, HB.o.trans HLX.o⟩
   | true =>
    go_wp2_with fail;rw [rounds_succ];have HKX := zB HLX HKA;have hR0 : R = true := by rw [← HR2.o]; simp [Zh, Zx, HP0.o, HQ0.o]
    subst hR0;go_wp2_with fail;go_ret;exact ⟨rfl, HB.o.trans HLX.o⟩
 ·have t1 : ((l.length : Int) != 1) = true := bne_iff_ne.2 (by omega);have hR0 : R = false := by
   rw [← hR2]
   match l, hN with
   | [], _ => simp [Zh]
   | _ :: _ :: _, _ => simp [Zh]
   | [_], h => exact absurd rfl h
  subst hR0;go_enter Tryz.func107, Tryz.ntmps107;go_wp2_with fail;go_ret;exact ⟨rfl, HB.o⟩
theorem Zp2 (r : Zf) (B : Nat) (cs : List Value) (F : Nat → Prop) (w : World) (l : List Zd) (v : Value) (h : Z3 F w B r cs) (hr : Zo Zg 6 F w l v) :
  Calls Tryz.prog 107 #[.pointer (some ⟨B, 0, none⟩), .int .i64 8, v] w fun e w' => e = .returned (.bool (Zab r 8 l)) ∧ Below w.heap.size w w' := by
 obtain ⟨R, hR⟩ : ∃ R, Zab r 8 l = R := ⟨_, rfl⟩;rw [hR];have hR2 : Zh r [3] l = R := by rw [← hR]; simp [Zab, Zar]
 clear hR;obtain ⟨A, c, rfl, hc, hcm, _⟩ := id hr;unfold maxLen at hcm;have hl1 : Za w ((w.alloc (.cells #[] 3)).alloc (.cells #[.int .i64 3] 3)) := ((Za.refl w).alloc _).alloc _;have HS := zh (h.later hl1);have HRW := zh (hr.later Zc hl1);have HB := zh hl1;clear h hr hl1;have HKA := zh (show ((w.alloc (.cells #[] 3)).alloc (.cells #[.int .i64 3] 3)).heap[w.heap.size + 1]? = some (.cells #[.int .i64 3] 3 (0, 0)) by have := heap_alloc_new (w.alloc (.cells #[] 3)) (.cells #[.int .i64 3] 3); simpa using this)
 by_cases hN : l.length = 1
 ·obtain ⟨v0, rfl⟩ : ∃ v0, l = [v0] := by
   match l, hN with
   | [a0], _ => exact ⟨a0, rfl⟩
  clear hN;have HR2 := zh hR2;clear hR2;simp only [List.length_cons, List.length_nil, Nat.zero_add, Nat.reduceAdd] at hc HRW ⊢;go_enter Tryz.func107, Tryz.ntmps107;go_wp2_with fail;refine wp_loop_rounds 2 ?_;rw [rounds_succ];obtain ⟨x, hx⟩ : ∃ x, x = ((w.alloc (.cells #[] 3)).alloc (.cells #[.int .i64 3] 3)) := ⟨_, rfl⟩;rw [← hx] at HS HRW HB HKA ⊢;clear hx;have HLX := zh (Za.refl x);have HKX := zB HLX HKA;have k0 := cq HKX.o 0;simp only [nD, nE, nF] at k0;obtain ⟨b, o, e, hb, hat, hel0⟩ := (HRW.o.later Zc HLX.o).vat (j := 0) (by simp);cases e;simp only [List.getElem_cons_succ, List.getElem_cons_zero, Nat.reduceMul, Nat.add_zero] at hat hel0;obtain ⟨p, hp⟩ : ∃ p, (v0.kind == 3) = p := ⟨_, rfl⟩;have hq : (v0.kind != 3) = !p := by rw [← hp]; rfl
  have HP0 := zh hp;clear hp;obtain ⟨c0, c1, c2, c3, c4, c5⟩ := hat
  cases p with
  | false =>
   simp only [Bool.not_false] at hq;have hR0 : R = false := by rw [← HR2.o]; simp [Zh, Zx, HP0.o]
   subst hR0;go_wp2_with fail;go_ret;exact ⟨rfl, HB.o.trans HLX.o⟩
  | true =>
   simp only [Bool.not_true] at hq;obtain ⟨q, hqq⟩ : ∃ q, Zj r v0 = q := ⟨_, rfl⟩;have HQ0 := zh hqq;clear hqq;go_wp2_with fail;refine (Zay r B cs F _ v0 _ (HS.o.later HLX.o) hel0).mono ?_;rw [HQ0.o];rintro e y ⟨rfl, hy⟩;replace HLX := zh (HLX.o.trans hy);clear hy hel0 c0 c1 c2 c3 c4 c5 hb hq k0;clear HKX
   cases q with
   | false =>
    have hR0 : R = false := by rw [← HR2.o]; simp [Zh, Zx, HP0.o, HQ0.o]
    subst hR0;go_wp2_with fail;go_ret;exact ⟨rfl, HB.o.trans HLX.o⟩
   | true =>
    go_wp2_with fail;rw [rounds_succ];have HKX := zB HLX HKA;have hR0 : R = true := by rw [← HR2.o]; simp [Zh, Zx, HP0.o, HQ0.o]
    subst hR0;go_wp2_with fail;go_ret;exact ⟨rfl, HB.o.trans HLX.o⟩
 ·have t1 : ((l.length : Int) != 1) = true := bne_iff_ne.2 (by omega);have hR0 : R = false := by
   rw [← hR2]
   match l, hN with
   | [], _ => simp [Zh]
   | _ :: _ :: _, _ => simp [Zh]
   | [_], h => exact absurd rfl h
  subst hR0;go_enter Tryz.func107, Tryz.ntmps107;go_wp2_with fail;go_ret;exact ⟨rfl, HB.o⟩
theorem Zp3 (r : Zf) (B : Nat) (cs : List Value) (F : Nat → Prop) (w : World) (l : List Zd) (v : Value) (h : Z3 F w B r cs) (hr : Zo Zg 6 F w l v) :
  Calls Tryz.prog 107 #[.pointer (some ⟨B, 0, none⟩), .int .i64 9, v] w fun e w' => e = .returned (.bool (Zab r 9 l)) ∧ Below w.heap.size w w' := by
 obtain ⟨R, hR⟩ : ∃ R, Zab r 9 l = R := ⟨_, rfl⟩;rw [hR];have hR2 : Zh r [3] l = R := by rw [← hR]; simp [Zab, Zar]
 clear hR;obtain ⟨A, c, rfl, hc, hcm, _⟩ := id hr;unfold maxLen at hcm;have hl1 : Za w ((w.alloc (.cells #[] 3)).alloc (.cells #[.int .i64 3] 3)) := ((Za.refl w).alloc _).alloc _;have HS := zh (h.later hl1);have HRW := zh (hr.later Zc hl1);have HB := zh hl1;clear h hr hl1;have HKA := zh (show ((w.alloc (.cells #[] 3)).alloc (.cells #[.int .i64 3] 3)).heap[w.heap.size + 1]? = some (.cells #[.int .i64 3] 3 (0, 0)) by have := heap_alloc_new (w.alloc (.cells #[] 3)) (.cells #[.int .i64 3] 3); simpa using this)
 by_cases hN : l.length = 1
 ·obtain ⟨v0, rfl⟩ : ∃ v0, l = [v0] := by
   match l, hN with
   | [a0], _ => exact ⟨a0, rfl⟩
  clear hN;have HR2 := zh hR2;clear hR2;simp only [List.length_cons, List.length_nil, Nat.zero_add, Nat.reduceAdd] at hc HRW ⊢;go_enter Tryz.func107, Tryz.ntmps107;go_wp2_with fail;refine wp_loop_rounds 2 ?_;rw [rounds_succ];obtain ⟨x, hx⟩ : ∃ x, x = ((w.alloc (.cells #[] 3)).alloc (.cells #[.int .i64 3] 3)) := ⟨_, rfl⟩;rw [← hx] at HS HRW HB HKA ⊢;clear hx;have HLX := zh (Za.refl x);have HKX := zB HLX HKA;have k0 := cq HKX.o 0;simp only [nD, nE, nF] at k0;obtain ⟨b, o, e, hb, hat, hel0⟩ := (HRW.o.later Zc HLX.o).vat (j := 0) (by simp);cases e;simp only [List.getElem_cons_succ, List.getElem_cons_zero, Nat.reduceMul, Nat.add_zero] at hat hel0;obtain ⟨p, hp⟩ : ∃ p, (v0.kind == 3) = p := ⟨_, rfl⟩;have hq : (v0.kind != 3) = !p := by rw [← hp]; rfl
  have HP0 := zh hp;clear hp;obtain ⟨c0, c1, c2, c3, c4, c5⟩ := hat
  cases p with
  | false =>
   simp only [Bool.not_false] at hq;have hR0 : R = false := by rw [← HR2.o]; simp [Zh, Zx, HP0.o]
   subst hR0;go_wp2_with fail;go_ret;exact ⟨rfl, HB.o.trans HLX.o⟩
  | true =>
   simp only [Bool.not_true] at hq;obtain ⟨q, hqq⟩ : ∃ q, Zj r v0 = q := ⟨_, rfl⟩;have HQ0 := zh hqq;clear hqq;go_wp2_with fail;refine (Zay r B cs F _ v0 _ (HS.o.later HLX.o) hel0).mono ?_;rw [HQ0.o];rintro e y ⟨rfl, hy⟩;replace HLX := zh (HLX.o.trans hy);clear hy hel0 c0 c1 c2 c3 c4 c5 hb hq k0;clear HKX
   cases q with
   | false =>
    have hR0 : R = false := by rw [← HR2.o]; simp [Zh, Zx, HP0.o, HQ0.o]
    subst hR0;go_wp2_with fail;go_ret;exact ⟨rfl, HB.o.trans HLX.o⟩
   | true =>
    go_wp2_with fail;rw [rounds_succ];have HKX := zB HLX HKA;have hR0 : R = true := by rw [← HR2.o]; simp [Zh, Zx, HP0.o, HQ0.o]
    subst hR0;go_wp2_with fail;go_ret;exact ⟨rfl, HB.o.trans HLX.o⟩
 ·have t1 : ((l.length : Int) != 1) = true := bne_iff_ne.2 (by omega);have hR0 : R = false := by
   rw [← hR2]
   match l, hN with
   | [], _ => simp [Zh]
   | _ :: _ :: _, _ => simp [Zh]
   | [_], h => exact absurd rfl h
  subst hR0;go_enter Tryz.func107, Tryz.ntmps107;go_wp2_with fail;go_ret;exact ⟨rfl, HB.o⟩
theorem Zny (r : Zf) (B : Nat) (cs : List Value) (F : Nat → Prop) (w : World) (l : List Zd) (v : Value) (h : Z3 F w B r cs) (hr : Zo Zg 6 F w l v) :
  Calls Tryz.prog 107 #[.pointer (some ⟨B, 0, none⟩), .int .i64 10, v] w fun e w' => e = .returned (.bool (Zab r 10 l)) ∧ Below w.heap.size w w' := by
 obtain ⟨R, hR⟩ : ∃ R, Zab r 10 l = R := ⟨_, rfl⟩;rw [hR];have hR2 : Zh r [3] l = R := by rw [← hR]; simp [Zab, Zar]
 clear hR;obtain ⟨A, c, rfl, hc, hcm, _⟩ := id hr;unfold maxLen at hcm;have hl1 : Za w ((w.alloc (.cells #[] 3)).alloc (.cells #[.int .i64 3] 3)) := ((Za.refl w).alloc _).alloc _;have HS := zh (h.later hl1);have HRW := zh (hr.later Zc hl1);have HB := zh hl1;clear h hr hl1;have HKA := zh (show ((w.alloc (.cells #[] 3)).alloc (.cells #[.int .i64 3] 3)).heap[w.heap.size + 1]? = some (.cells #[.int .i64 3] 3 (0, 0)) by have := heap_alloc_new (w.alloc (.cells #[] 3)) (.cells #[.int .i64 3] 3); simpa using this)
 by_cases hN : l.length = 1
 ·obtain ⟨v0, rfl⟩ : ∃ v0, l = [v0] := by
   match l, hN with
   | [a0], _ => exact ⟨a0, rfl⟩
  clear hN;have HR2 := zh hR2;clear hR2;simp only [List.length_cons, List.length_nil, Nat.zero_add, Nat.reduceAdd] at hc HRW ⊢;go_enter Tryz.func107, Tryz.ntmps107;go_wp2_with fail;refine wp_loop_rounds 2 ?_;rw [rounds_succ];obtain ⟨x, hx⟩ : ∃ x, x = ((w.alloc (.cells #[] 3)).alloc (.cells #[.int .i64 3] 3)) := ⟨_, rfl⟩;rw [← hx] at HS HRW HB HKA ⊢;clear hx;have HLX := zh (Za.refl x);have HKX := zB HLX HKA;have k0 := cq HKX.o 0;simp only [nD, nE, nF] at k0;obtain ⟨b, o, e, hb, hat, hel0⟩ := (HRW.o.later Zc HLX.o).vat (j := 0) (by simp);cases e;simp only [List.getElem_cons_succ, List.getElem_cons_zero, Nat.reduceMul, Nat.add_zero] at hat hel0;obtain ⟨p, hp⟩ : ∃ p, (v0.kind == 3) = p := ⟨_, rfl⟩;have hq : (v0.kind != 3) = !p := by rw [← hp]; rfl
  have HP0 := zh hp;clear hp;obtain ⟨c0, c1, c2, c3, c4, c5⟩ := hat
  cases p with
  | false =>
   simp only [Bool.not_false] at hq;have hR0 : R = false := by rw [← HR2.o]; simp [Zh, Zx, HP0.o]
   subst hR0;go_wp2_with fail;go_ret;exact ⟨rfl, HB.o.trans HLX.o⟩
  | true =>
   simp only [Bool.not_true] at hq;obtain ⟨q, hqq⟩ : ∃ q, Zj r v0 = q := ⟨_, rfl⟩;have HQ0 := zh hqq;clear hqq;go_wp2_with fail;refine (Zay r B cs F _ v0 _ (HS.o.later HLX.o) hel0).mono ?_;rw [HQ0.o];rintro e y ⟨rfl, hy⟩;replace HLX := zh (HLX.o.trans hy);clear hy hel0 c0 c1 c2 c3 c4 c5 hb hq k0;clear HKX
   cases q with
   | false =>
    have hR0 : R = false := by rw [← HR2.o]; simp [Zh, Zx, HP0.o, HQ0.o]
    subst hR0;go_wp2_with fail;go_ret;exact ⟨rfl, HB.o.trans HLX.o⟩
   | true =>
    go_wp2_with fail;rw [rounds_succ];have HKX := zB HLX HKA;have hR0 : R = true := by rw [← HR2.o]; simp [Zh, Zx, HP0.o, HQ0.o]
    subst hR0;go_wp2_with fail;go_ret;exact ⟨rfl, HB.o.trans HLX.o⟩
 ·have t1 : ((l.length : Int) != 1) = true := bne_iff_ne.2 (by omega);have hR0 : R = false := by
   rw [← hR2]
   match l, hN with
   | [], _ => simp [Zh]
   | _ :: _ :: _, _ => simp [Zh]
   | [_], h => exact absurd rfl h
  subst hR0;go_enter Tryz.func107, Tryz.ntmps107;go_wp2_with fail;go_ret;exact ⟨rfl, HB.o⟩
theorem Znz (r : Zf) (B : Nat) (cs : List Value) (F : Nat → Prop) (w : World) (l : List Zd) (v : Value) (h : Z3 F w B r cs) (hr : Zo Zg 6 F w l v) :
  Calls Tryz.prog 107 #[.pointer (some ⟨B, 0, none⟩), .int .i64 11, v] w fun e w' => e = .returned (.bool (Zab r 11 l)) ∧ Below w.heap.size w w' := by
 obtain ⟨R, hR⟩ : ∃ R, Zab r 11 l = R := ⟨_, rfl⟩;rw [hR];have hR2 : Zh r [] l = R := by rw [← hR]; simp [Zab, Zar]
 clear hR;obtain ⟨A, c, rfl, hc, hcm, _⟩ := id hr;unfold maxLen at hcm;have hl1 : Za w (w.alloc (.cells #[] 3)) := (Za.refl w).alloc _;have HS := zh (h.later hl1);have HRW := zh (hr.later Zc hl1);have HB := zh hl1;clear h hr hl1
 by_cases hN : l.length = 0
 ·obtain rfl : l = [] := List.eq_nil_of_length_eq_zero hN;clear hN;have HR2 := zh hR2;clear hR2;simp only [List.length_cons, List.length_nil, Nat.zero_add, Nat.reduceAdd] at hc HRW ⊢;go_enter Tryz.func107, Tryz.ntmps107;go_wp2_with fail;refine wp_loop_rounds 1 ?_;rw [rounds_succ];obtain ⟨x, hx⟩ : ∃ x, x = (w.alloc (.cells #[] 3)) := ⟨_, rfl⟩;rw [← hx] at HS HRW HB ⊢;clear hx;have HLX := zh (Za.refl x);have hR0 : R = true := by rw [← HR2.o]; simp [Zh, Zx]
  subst hR0;go_wp2_with fail;go_ret;exact ⟨rfl, HB.o.trans HLX.o⟩
 ·have t1 : ((l.length : Int) != 0) = true := bne_iff_ne.2 (by omega);have hR0 : R = false := by
   rw [← hR2]
   match l, hN with
   | _ :: _, _ => simp [Zh]
   | [], h => exact absurd rfl h
  subst hR0;go_enter Tryz.func107, Tryz.ntmps107;go_wp2_with fail;go_ret;exact ⟨rfl, HB.o⟩
theorem Zn0 (r : Zf) (B : Nat) (cs : List Value) (F : Nat → Prop) (w : World) (l : List Zd) (v : Value) (h : Z3 F w B r cs) (hr : Zo Zg 6 F w l v) :
  Calls Tryz.prog 107 #[.pointer (some ⟨B, 0, none⟩), .int .i64 12, v] w fun e w' => e = .returned (.bool (Zab r 12 l)) ∧ Below w.heap.size w w' := by
 obtain ⟨R, hR⟩ : ∃ R, Zab r 12 l = R := ⟨_, rfl⟩;rw [hR];have hR2 : Zh r [] l = R := by rw [← hR]; simp [Zab, Zar]
 clear hR;obtain ⟨A, c, rfl, hc, hcm, _⟩ := id hr;unfold maxLen at hcm;have hl1 : Za w (w.alloc (.cells #[] 3)) := (Za.refl w).alloc _;have HS := zh (h.later hl1);have HRW := zh (hr.later Zc hl1);have HB := zh hl1;clear h hr hl1
 by_cases hN : l.length = 0
 ·obtain rfl : l = [] := List.eq_nil_of_length_eq_zero hN;clear hN;have HR2 := zh hR2;clear hR2;simp only [List.length_cons, List.length_nil, Nat.zero_add, Nat.reduceAdd] at hc HRW ⊢;go_enter Tryz.func107, Tryz.ntmps107;go_wp2_with fail;refine wp_loop_rounds 1 ?_;rw [rounds_succ];obtain ⟨x, hx⟩ : ∃ x, x = (w.alloc (.cells #[] 3)) := ⟨_, rfl⟩;rw [← hx] at HS HRW HB ⊢;clear hx;have HLX := zh (Za.refl x);have hR0 : R = true := by rw [← HR2.o]; simp [Zh, Zx]
  subst hR0;go_wp2_with fail;go_ret;exact ⟨rfl, HB.o.trans HLX.o⟩
 ·have t1 : ((l.length : Int) != 0) = true := bne_iff_ne.2 (by omega);have hR0 : R = false := by
   rw [← hR2]
   match l, hN with
   | _ :: _, _ => simp [Zh]
   | [], h => exact absurd rfl h
  subst hR0;go_enter Tryz.func107, Tryz.ntmps107;go_wp2_with fail;go_ret;exact ⟨rfl, HB.o⟩
theorem Zn1 (r : Zf) (B : Nat) (cs : List Value) (F : Nat → Prop) (w : World) (l : List Zd) (v : Value) (h : Z3 F w B r cs) (hr : Zo Zg 6 F w l v) :
  Calls Tryz.prog 107 #[.pointer (some ⟨B, 0, none⟩), .int .i64 13, v] w fun e w' => e = .returned (.bool (Zab r 13 l)) ∧ Below w.heap.size w w' := by
 obtain ⟨R, hR⟩ : ∃ R, Zab r 13 l = R := ⟨_, rfl⟩;rw [hR];have hR2 : Zh r [12] l = R := by rw [← hR]; simp [Zab, Zar]
 clear hR;obtain ⟨A, c, rfl, hc, hcm, _⟩ := id hr;unfold maxLen at hcm;have hl1 : Za w ((w.alloc (.cells #[] 3)).alloc (.cells #[.int .i64 12] 3)) := ((Za.refl w).alloc _).alloc _;have HS := zh (h.later hl1);have HRW := zh (hr.later Zc hl1);have HB := zh hl1;clear h hr hl1;have HKA := zh (show ((w.alloc (.cells #[] 3)).alloc (.cells #[.int .i64 12] 3)).heap[w.heap.size + 1]? = some (.cells #[.int .i64 12] 3 (0, 0)) by have := heap_alloc_new (w.alloc (.cells #[] 3)) (.cells #[.int .i64 12] 3); simpa using this)
 by_cases hN : l.length = 1
 ·obtain ⟨v0, rfl⟩ : ∃ v0, l = [v0] := by
   match l, hN with
   | [a0], _ => exact ⟨a0, rfl⟩
  clear hN;have HR2 := zh hR2;clear hR2;simp only [List.length_cons, List.length_nil, Nat.zero_add, Nat.reduceAdd] at hc HRW ⊢;go_enter Tryz.func107, Tryz.ntmps107;go_wp2_with fail;refine wp_loop_rounds 2 ?_;rw [rounds_succ];obtain ⟨x, hx⟩ : ∃ x, x = ((w.alloc (.cells #[] 3)).alloc (.cells #[.int .i64 12] 3)) := ⟨_, rfl⟩;rw [← hx] at HS HRW HB HKA ⊢;clear hx;have HLX := zh (Za.refl x);have HKX := zB HLX HKA;have k0 := cq HKX.o 0;simp only [nD, nE, nF] at k0;obtain ⟨b, o, e, hb, hat, hel0⟩ := (HRW.o.later Zc HLX.o).vat (j := 0) (by simp);cases e;simp only [List.getElem_cons_succ, List.getElem_cons_zero, Nat.reduceMul, Nat.add_zero] at hat hel0;obtain ⟨p, hp⟩ : ∃ p, (v0.kind == 12) = p := ⟨_, rfl⟩;have hq : (v0.kind != 12) = !p := by rw [← hp]; rfl
  have HP0 := zh hp;clear hp;obtain ⟨c0, c1, c2, c3, c4, c5⟩ := hat
  cases p with
  | false =>
   simp only [Bool.not_false] at hq;have hR0 : R = false := by rw [← HR2.o]; simp [Zh, Zx, HP0.o]
   subst hR0;go_wp2_with fail;go_ret;exact ⟨rfl, HB.o.trans HLX.o⟩
  | true =>
   simp only [Bool.not_true] at hq;obtain ⟨q, hqq⟩ : ∃ q, Zj r v0 = q := ⟨_, rfl⟩;have HQ0 := zh hqq;clear hqq;go_wp2_with fail;refine (Zay r B cs F _ v0 _ (HS.o.later HLX.o) hel0).mono ?_;rw [HQ0.o];rintro e y ⟨rfl, hy⟩;replace HLX := zh (HLX.o.trans hy);clear hy hel0 c0 c1 c2 c3 c4 c5 hb hq k0;clear HKX
   cases q with
   | false =>
    have hR0 : R = false := by rw [← HR2.o]; simp [Zh, Zx, HP0.o, HQ0.o]
    subst hR0;go_wp2_with fail;go_ret;exact ⟨rfl, HB.o.trans HLX.o⟩
   | true =>
    go_wp2_with fail;rw [rounds_succ];have HKX := zB HLX HKA;have hR0 : R = true := by rw [← HR2.o]; simp [Zh, Zx, HP0.o, HQ0.o]
    subst hR0;go_wp2_with fail;go_ret;exact ⟨rfl, HB.o.trans HLX.o⟩
 ·have t1 : ((l.length : Int) != 1) = true := bne_iff_ne.2 (by omega);have hR0 : R = false := by
   rw [← hR2]
   match l, hN with
   | [], _ => simp [Zh]
   | _ :: _ :: _, _ => simp [Zh]
   | [_], h => exact absurd rfl h
  subst hR0;go_enter Tryz.func107, Tryz.ntmps107;go_wp2_with fail;go_ret;exact ⟨rfl, HB.o⟩
theorem Zn2 (r : Zf) (B : Nat) (cs : List Value) (F : Nat → Prop) (w : World) (l : List Zd) (v : Value) (h : Z3 F w B r cs) (hr : Zo Zg 6 F w l v) :
  Calls Tryz.prog 107 #[.pointer (some ⟨B, 0, none⟩), .int .i64 14, v] w fun e w' => e = .returned (.bool (Zab r 14 l)) ∧ Below w.heap.size w w' := by
 obtain ⟨R, hR⟩ : ∃ R, Zab r 14 l = R := ⟨_, rfl⟩;rw [hR];have hR2 : Zh r [12, 12] l = R := by rw [← hR]; simp [Zab, Zar]
 clear hR;obtain ⟨A, c, rfl, hc, hcm, _⟩ := id hr;unfold maxLen at hcm;have hl1 : Za w ((w.alloc (.cells #[] 3)).alloc (.cells #[.int .i64 12, .int .i64 12] 3)) := ((Za.refl w).alloc _).alloc _;have HS := zh (h.later hl1);have HRW := zh (hr.later Zc hl1);have HB := zh hl1;clear h hr hl1;have HKA := zh (show ((w.alloc (.cells #[] 3)).alloc (.cells #[.int .i64 12, .int .i64 12] 3)).heap[w.heap.size + 1]? = some (.cells #[.int .i64 12, .int .i64 12] 3 (0, 0)) by have := heap_alloc_new (w.alloc (.cells #[] 3)) (.cells #[.int .i64 12, .int .i64 12] 3); simpa using this)
 by_cases hN : l.length = 2
 ·obtain ⟨v0, v1, rfl⟩ : ∃ v0 v1, l = [v0, v1] := by
   match l, hN with
   | [a0, a1], _ => exact ⟨a0, a1, rfl⟩
  clear hN;have HR2 := zh hR2;clear hR2;simp only [List.length_cons, List.length_nil, Nat.zero_add, Nat.reduceAdd] at hc HRW ⊢;go_enter Tryz.func107, Tryz.ntmps107;go_wp2_with fail;refine wp_loop_rounds 3 ?_;rw [rounds_succ];obtain ⟨x, hx⟩ : ∃ x, x = ((w.alloc (.cells #[] 3)).alloc (.cells #[.int .i64 12, .int .i64 12] 3)) := ⟨_, rfl⟩;rw [← hx] at HS HRW HB HKA ⊢;clear hx;have HLX := zh (Za.refl x);have HKX := zB HLX HKA;have k0 := cz2 HKX.o;obtain ⟨b, o, e, hb, hat, hel0⟩ := (HRW.o.later Zc HLX.o).vat (j := 0) (by simp);cases e;simp only [List.getElem_cons_succ, List.getElem_cons_zero, Nat.reduceMul, Nat.add_zero] at hat hel0;obtain ⟨p, hp⟩ : ∃ p, (v0.kind == 12) = p := ⟨_, rfl⟩;have hq : (v0.kind != 12) = !p := by rw [← hp]; rfl
  have HP0 := zh hp;clear hp;obtain ⟨c0, c1, c2, c3, c4, c5⟩ := hat
  cases p with
  | false =>
   simp only [Bool.not_false] at hq;have hR0 : R = false := by rw [← HR2.o]; simp [Zh, Zx, HP0.o]
   subst hR0;go_wp2_with fail;go_ret;exact ⟨rfl, HB.o.trans HLX.o⟩
  | true =>
   simp only [Bool.not_true] at hq;obtain ⟨q, hqq⟩ : ∃ q, Zj r v0 = q := ⟨_, rfl⟩;have HQ0 := zh hqq;clear hqq;go_wp2_with fail;refine (Zay r B cs F _ v0 _ (HS.o.later HLX.o) hel0).mono ?_;rw [HQ0.o];rintro e y ⟨rfl, hy⟩;replace HLX := zh (HLX.o.trans hy);clear hy hel0 c0 c1 c2 c3 c4 c5 hb hq k0;clear HKX
   cases q with
   | false =>
    have hR0 : R = false := by rw [← HR2.o]; simp [Zh, Zx, HP0.o, HQ0.o]
    subst hR0;go_wp2_with fail;go_ret;exact ⟨rfl, HB.o.trans HLX.o⟩
   | true =>
    go_wp2_with fail;rw [rounds_succ];have HKX := zB HLX HKA;have k0 := cz2 HKX.o;obtain ⟨b, o, e, hb, hat, hel1⟩ := (HRW.o.later Zc HLX.o).vat (j := 1) (by simp);cases e;simp only [List.getElem_cons_succ, List.getElem_cons_zero, Nat.reduceMul, Nat.add_zero] at hat hel1;obtain ⟨p, hp⟩ : ∃ p, (v1.kind == 12) = p := ⟨_, rfl⟩;have hq : (v1.kind != 12) = !p := by rw [← hp]; rfl
    have HP1 := zh hp;clear hp;obtain ⟨c0, c1, c2, c3, c4, c5⟩ := hat
    cases p with
    | false =>
     simp only [Bool.not_false] at hq;have hR0 : R = false := by rw [← HR2.o]; simp [Zh, Zx, HP0.o, HP1.o]
     subst hR0;go_wp2_with fail;go_ret;exact ⟨rfl, HB.o.trans HLX.o⟩
    | true =>
     simp only [Bool.not_true] at hq;obtain ⟨q, hqq⟩ : ∃ q, Zj r v1 = q := ⟨_, rfl⟩;have HQ1 := zh hqq;clear hqq;go_wp2_with fail;refine (Zay r B cs F _ v1 _ (HS.o.later HLX.o) hel1).mono ?_;rw [HQ1.o];rintro e y ⟨rfl, hy⟩;replace HLX := zh (HLX.o.trans hy);clear hy hel1 c0 c1 c2 c3 c4 c5 hb hq k0;clear HKX
     cases q with
     | false =>
      have hR0 : R = false := by rw [← HR2.o]; simp [Zh, Zx, HP0.o, HQ0.o, HP1.o, HQ1.o]
      subst hR0;go_wp2_with fail;go_ret;exact ⟨rfl, HB.o.trans HLX.o⟩
     | true =>
      go_wp2_with fail;rw [rounds_succ];have HKX := zB HLX HKA;have hR0 : R = true := by rw [← HR2.o]; simp [Zh, Zx, HP0.o, HQ0.o, HP1.o, HQ1.o]
      subst hR0;go_wp2_with fail;go_ret;exact ⟨rfl, HB.o.trans HLX.o⟩
 ·have t1 : ((l.length : Int) != 2) = true := bne_iff_ne.2 (by omega);have hR0 : R = false := by
   rw [← hR2]
   match l, hN with
   | [], _ => simp [Zh]
   | [_], _ => simp [Zh]
   | _ :: _ :: _ :: _, _ => simp [Zh]
   | [_, _], h => exact absurd rfl h
  subst hR0;go_enter Tryz.func107, Tryz.ntmps107;go_wp2_with fail;go_ret;exact ⟨rfl, HB.o⟩
theorem Zn3 (r : Zf) (B : Nat) (cs : List Value) (F : Nat → Prop) (w : World) (l : List Zd) (v : Value) (h : Z3 F w B r cs) (hr : Zo Zg 6 F w l v) :
  Calls Tryz.prog 107 #[.pointer (some ⟨B, 0, none⟩), .int .i64 15, v] w fun e w' => e = .returned (.bool (Zab r 15 l)) ∧ Below w.heap.size w w' := by
 obtain ⟨R, hR⟩ : ∃ R, Zab r 15 l = R := ⟨_, rfl⟩;rw [hR];have hR2 : Zh r [12, 12] l = R := by rw [← hR]; simp [Zab, Zar]
 clear hR;obtain ⟨A, c, rfl, hc, hcm, _⟩ := id hr;unfold maxLen at hcm;have hl1 : Za w ((w.alloc (.cells #[] 3)).alloc (.cells #[.int .i64 12, .int .i64 12] 3)) := ((Za.refl w).alloc _).alloc _;have HS := zh (h.later hl1);have HRW := zh (hr.later Zc hl1);have HB := zh hl1;clear h hr hl1;have HKA := zh (show ((w.alloc (.cells #[] 3)).alloc (.cells #[.int .i64 12, .int .i64 12] 3)).heap[w.heap.size + 1]? = some (.cells #[.int .i64 12, .int .i64 12] 3 (0, 0)) by have := heap_alloc_new (w.alloc (.cells #[] 3)) (.cells #[.int .i64 12, .int .i64 12] 3); simpa using this)
 by_cases hN : l.length = 2
 ·obtain ⟨v0, v1, rfl⟩ : ∃ v0 v1, l = [v0, v1] := by
   match l, hN with
   | [a0, a1], _ => exact ⟨a0, a1, rfl⟩
  clear hN;have HR2 := zh hR2;clear hR2;simp only [List.length_cons, List.length_nil, Nat.zero_add, Nat.reduceAdd] at hc HRW ⊢;go_enter Tryz.func107, Tryz.ntmps107;go_wp2_with fail;refine wp_loop_rounds 3 ?_;rw [rounds_succ];obtain ⟨x, hx⟩ : ∃ x, x = ((w.alloc (.cells #[] 3)).alloc (.cells #[.int .i64 12, .int .i64 12] 3)) := ⟨_, rfl⟩;rw [← hx] at HS HRW HB HKA ⊢;clear hx;have HLX := zh (Za.refl x);have HKX := zB HLX HKA;have k0 := cz2 HKX.o;obtain ⟨b, o, e, hb, hat, hel0⟩ := (HRW.o.later Zc HLX.o).vat (j := 0) (by simp);cases e;simp only [List.getElem_cons_succ, List.getElem_cons_zero, Nat.reduceMul, Nat.add_zero] at hat hel0;obtain ⟨p, hp⟩ : ∃ p, (v0.kind == 12) = p := ⟨_, rfl⟩;have hq : (v0.kind != 12) = !p := by rw [← hp]; rfl
  have HP0 := zh hp;clear hp;obtain ⟨c0, c1, c2, c3, c4, c5⟩ := hat
  cases p with
  | false =>
   simp only [Bool.not_false] at hq;have hR0 : R = false := by rw [← HR2.o]; simp [Zh, Zx, HP0.o]
   subst hR0;go_wp2_with fail;go_ret;exact ⟨rfl, HB.o.trans HLX.o⟩
  | true =>
   simp only [Bool.not_true] at hq;obtain ⟨q, hqq⟩ : ∃ q, Zj r v0 = q := ⟨_, rfl⟩;have HQ0 := zh hqq;clear hqq;go_wp2_with fail;refine (Zay r B cs F _ v0 _ (HS.o.later HLX.o) hel0).mono ?_;rw [HQ0.o];rintro e y ⟨rfl, hy⟩;replace HLX := zh (HLX.o.trans hy);clear hy hel0 c0 c1 c2 c3 c4 c5 hb hq k0;clear HKX
   cases q with
   | false =>
    have hR0 : R = false := by rw [← HR2.o]; simp [Zh, Zx, HP0.o, HQ0.o]
    subst hR0;go_wp2_with fail;go_ret;exact ⟨rfl, HB.o.trans HLX.o⟩
   | true =>
    go_wp2_with fail;rw [rounds_succ];have HKX := zB HLX HKA;have k0 := cz2 HKX.o;obtain ⟨b, o, e, hb, hat, hel1⟩ := (HRW.o.later Zc HLX.o).vat (j := 1) (by simp);cases e;simp only [List.getElem_cons_succ, List.getElem_cons_zero, Nat.reduceMul, Nat.add_zero] at hat hel1;obtain ⟨p, hp⟩ : ∃ p, (v1.kind == 12) = p := ⟨_, rfl⟩;have hq : (v1.kind != 12) = !p := by rw [← hp]; rfl
    have HP1 := zh hp;clear hp;obtain ⟨c0, c1, c2, c3, c4, c5⟩ := hat
    cases p with
    | false =>
     simp only [Bool.not_false] at hq;have hR0 : R = false := by rw [← HR2.o]; simp [Zh, Zx, HP0.o, HP1.o]
     subst hR0;go_wp2_with fail;go_ret;exact ⟨rfl, HB.o.trans HLX.o⟩
    | true =>
     simp only [Bool.not_true] at hq;obtain ⟨q, hqq⟩ : ∃ q, Zj r v1 = q := ⟨_, rfl⟩;have HQ1 := zh hqq;clear hqq;go_wp2_with fail;refine (Zay r B cs F _ v1 _ (HS.o.later HLX.o) hel1).mono ?_;rw [HQ1.o];rintro e y ⟨rfl, hy⟩;replace HLX := zh (HLX.o.trans hy);clear hy hel1 c0 c1 c2 c3 c4 c5 hb hq k0;clear HKX
     cases q with
     | false =>
      have hR0 : R = false := by rw [← HR2.o]; simp [Zh, Zx, HP0.o, HQ0.o, HP1.o, HQ1.o]
      subst hR0;go_wp2_with fail;go_ret;exact ⟨rfl, HB.o.trans HLX.o⟩
     | true =>
      go_wp2_with fail;rw [rounds_succ];have HKX := zB HLX HKA;have hR0 : R = true := by rw [← HR2.o]; simp [Zh, Zx, HP0.o, HQ0.o, HP1.o, HQ1.o]
      subst hR0;go_wp2_with fail;go_ret;exact ⟨rfl, HB.o.trans HLX.o⟩
 ·have t1 : ((l.length : Int) != 2) = true := bne_iff_ne.2 (by omega);have hR0 : R = false := by
   rw [← hR2]
   match l, hN with
   | [], _ => simp [Zh]
   | [_], _ => simp [Zh]
   | _ :: _ :: _ :: _, _ => simp [Zh]
   | [_, _], h => exact absurd rfl h
  subst hR0;go_enter Tryz.func107, Tryz.ntmps107;go_wp2_with fail;go_ret;exact ⟨rfl, HB.o⟩
theorem Zn4 (r : Zf) (B : Nat) (cs : List Value) (F : Nat → Prop) (w : World) (l : List Zd) (v : Value) (h : Z3 F w B r cs) (hr : Zo Zg 6 F w l v) :
  Calls Tryz.prog 107 #[.pointer (some ⟨B, 0, none⟩), .int .i64 16, v] w fun e w' => e = .returned (.bool (Zab r 16 l)) ∧ Below w.heap.size w w' := by
 obtain ⟨R, hR⟩ : ∃ R, Zab r 16 l = R := ⟨_, rfl⟩;rw [hR];have hR2 : Zh r [12, 13] l = R := by rw [← hR]; simp [Zab, Zar]
 clear hR;obtain ⟨A, c, rfl, hc, hcm, _⟩ := id hr;unfold maxLen at hcm;have hl1 : Za w ((w.alloc (.cells #[] 3)).alloc (.cells #[.int .i64 12] 3)) := ((Za.refl w).alloc _).alloc _;have HS := zh (h.later hl1);have HRW := zh (hr.later Zc hl1);have HB := zh hl1;clear h hr hl1;have HKA := zh (show ((w.alloc (.cells #[] 3)).alloc (.cells #[.int .i64 12] 3)).heap[w.heap.size + 1]? = some (.cells #[.int .i64 12] 3 (0, 0)) by have := heap_alloc_new (w.alloc (.cells #[] 3)) (.cells #[.int .i64 12] 3); simpa using this)
 by_cases hN : l.length = 2
 ·obtain ⟨v0, v1, rfl⟩ : ∃ v0 v1, l = [v0, v1] := by
   match l, hN with
   | [a0, a1], _ => exact ⟨a0, a1, rfl⟩
  clear hN;have HR2 := zh hR2;clear hR2;simp only [List.length_cons, List.length_nil, Nat.zero_add, Nat.reduceAdd] at hc HRW ⊢;go_enter Tryz.func107, Tryz.ntmps107;go_wp2_with fail;refine wp_loop_rounds 2 ?_;rw [rounds_succ];obtain ⟨x, hx⟩ : ∃ x, x = ((w.alloc (.cells #[] 3)).alloc (.cells #[.int .i64 12] 3)) := ⟨_, rfl⟩;rw [← hx] at HS HRW HB HKA ⊢;clear hx;have HLX := zh (Za.refl x);have HKX := zB HLX HKA;have k0 := cq HKX.o 0;simp only [nD, nE, nF] at k0;obtain ⟨b, o, e, hb, hat, hel0⟩ := (HRW.o.later Zc HLX.o).vat (j := 0) (by simp);cases e;simp only [List.getElem_cons_succ, List.getElem_cons_zero, Nat.reduceMul, Nat.add_zero] at hat hel0;obtain ⟨p, hp⟩ : ∃ p, (v0.kind == 12) = p := ⟨_, rfl⟩;have hq : (v0.kind != 12) = !p := by rw [← hp]; rfl
  have HP0 := zh hp;clear hp;obtain ⟨c0, c1, c2, c3, c4, c5⟩ := hat
  cases p with
  | false =>
   simp only [Bool.not_false] at hq;have hR0 : R = false := by rw [← HR2.o]; simp [Zh, Zx, HP0.o]
   subst hR0;go_wp2_with fail;go_ret;exact ⟨rfl, HB.o.trans HLX.o⟩
  | true =>
   simp only [Bool.not_true] at hq;obtain ⟨q, hqq⟩ : ∃ q, Zj r v0 = q := ⟨_, rfl⟩;have HQ0 := zh hqq;clear hqq;go_wp2_with fail;refine (Zay r B cs F _ v0 _ (HS.o.later HLX.o) hel0).mono ?_;rw [HQ0.o];rintro e y ⟨rfl, hy⟩;replace HLX := zh (HLX.o.trans hy);clear hy hel0 c0 c1 c2 c3 c4 c5 hb hq k0;clear HKX
   cases q with
   | false =>
    have hR0 : R = false := by rw [← HR2.o]; simp [Zh, Zx, HP0.o, HQ0.o]
    subst hR0;go_wp2_with fail;go_ret;exact ⟨rfl, HB.o.trans HLX.o⟩
   | true =>
    go_wp2_with fail;rw [rounds_succ];have HKX := zB HLX HKA;obtain ⟨b, o, e, hb, hat, hel1⟩ := (HRW.o.later Zc HLX.o).vat (j := 1) (by simp);cases e;simp only [List.getElem_cons_succ, List.getElem_cons_zero, Nat.reduceMul, Nat.add_zero] at hat hel1;obtain ⟨p, hp⟩ : ∃ p, (v1.kind == 13) = p := ⟨_, rfl⟩;obtain ⟨p2, hp2⟩ : ∃ p, (v1.kind == 14) = p := ⟨_, rfl⟩;obtain ⟨q, hqq⟩ : ∃ q, Zj r v1 = q := ⟨_, rfl⟩;have HQ1 := zh hqq;have HR3 := zh (show R = ((p || p2) && q) by rw [← HR2.o]; simp [Zh, Zx, hp, hp2, hqq, HP0.o, HQ0.o]);clear hqq;obtain ⟨c0, c1, c2, c3, c4, c5⟩ := hat;obtain ⟨z, hz⟩ : ∃ z, v1 = z := ⟨_, rfl⟩;rw [hz] at c0 c1 c2 c3 c4 c5 hp hp2 hel1 HQ1;have hl2 := (Za.refl y).alloc (.cells #[.int .i64 z.kind, .int .i64 z.aH, .int .i64 z.index, .string z.text, .int .i64 z.set_.low, .int .i64 z.set_.high] 34);have HH := zh (Zay r B cs F _ z _ (HS.o.later (HLX.o.trans hl2)) (Zc.keep hel1 (fun _ h => h) (Ze.later hl2)));rw [HQ1.o] at HH;have HLY := zh (HLX.o.trans hl2);clear hl2 hz hel1
    cases p with
    | false =>
     cases p2 with
     | false =>
      have hR0 : R = false := by rw [HR3.o]; rfl
      subst hR0;go_wp2_with fail;go_ret;exact ⟨rfl, HB.o.trans HLY.o⟩
     | true =>
      have hR0 : R = q := by rw [HR3.o]; simp
      subst hR0;go_wp2_with fail;refine HH.o.mono ?_;rintro e y ⟨rfl, hy⟩;have HLZ := zh (HLY.o.trans hy);clear hy;go_wp2_with fail;go_ret;exact ⟨rfl, HB.o.trans HLZ.o⟩
    | true =>
     have hR0 : R = q := by rw [HR3.o]; simp
     subst hR0;go_wp2_with fail;refine HH.o.mono ?_;rintro e y ⟨rfl, hy⟩;have HLZ := zh (HLY.o.trans hy);clear hy;go_wp2_with fail;go_ret;exact ⟨rfl, HB.o.trans HLZ.o⟩
 ·have t1 : ((l.length : Int) != 2) = true := bne_iff_ne.2 (by omega);have hR0 : R = false := by
   rw [← hR2]
   match l, hN with
   | [], _ => simp [Zh]
   | [_], _ => simp [Zh]
   | _ :: _ :: _ :: _, _ => simp [Zh]
   | [_, _], h => exact absurd rfl h
  subst hR0;go_enter Tryz.func107, Tryz.ntmps107;go_wp2_with fail;go_ret;exact ⟨rfl, HB.o⟩
theorem Zn5 (r : Zf) (B : Nat) (cs : List Value) (F : Nat → Prop) (w : World) (l : List Zd) (v : Value) (h : Z3 F w B r cs) (hr : Zo Zg 6 F w l v) :
  Calls Tryz.prog 107 #[.pointer (some ⟨B, 0, none⟩), .int .i64 17, v] w fun e w' => e = .returned (.bool (Zab r 17 l)) ∧ Below w.heap.size w w' := by
 obtain ⟨R, hR⟩ : ∃ R, Zab r 17 l = R := ⟨_, rfl⟩;rw [hR];have hR2 : Zh r [12, 13] l = R := by rw [← hR]; simp [Zab, Zar]
 clear hR;obtain ⟨A, c, rfl, hc, hcm, _⟩ := id hr;unfold maxLen at hcm;have hl1 : Za w ((w.alloc (.cells #[] 3)).alloc (.cells #[.int .i64 12] 3)) := ((Za.refl w).alloc _).alloc _;have HS := zh (h.later hl1);have HRW := zh (hr.later Zc hl1);have HB := zh hl1;clear h hr hl1;have HKA := zh (show ((w.alloc (.cells #[] 3)).alloc (.cells #[.int .i64 12] 3)).heap[w.heap.size + 1]? = some (.cells #[.int .i64 12] 3 (0, 0)) by have := heap_alloc_new (w.alloc (.cells #[] 3)) (.cells #[.int .i64 12] 3); simpa using this)
 by_cases hN : l.length = 2
 ·obtain ⟨v0, v1, rfl⟩ : ∃ v0 v1, l = [v0, v1] := by
   match l, hN with
   | [a0, a1], _ => exact ⟨a0, a1, rfl⟩
  clear hN;have HR2 := zh hR2;clear hR2;simp only [List.length_cons, List.length_nil, Nat.zero_add, Nat.reduceAdd] at hc HRW ⊢;go_enter Tryz.func107, Tryz.ntmps107;go_wp2_with fail;refine wp_loop_rounds 2 ?_;rw [rounds_succ];obtain ⟨x, hx⟩ : ∃ x, x = ((w.alloc (.cells #[] 3)).alloc (.cells #[.int .i64 12] 3)) := ⟨_, rfl⟩;rw [← hx] at HS HRW HB HKA ⊢;clear hx;have HLX := zh (Za.refl x);have HKX := zB HLX HKA;have k0 := cq HKX.o 0;simp only [nD, nE, nF] at k0;obtain ⟨b, o, e, hb, hat, hel0⟩ := (HRW.o.later Zc HLX.o).vat (j := 0) (by simp);cases e;simp only [List.getElem_cons_succ, List.getElem_cons_zero, Nat.reduceMul, Nat.add_zero] at hat hel0;obtain ⟨p, hp⟩ : ∃ p, (v0.kind == 12) = p := ⟨_, rfl⟩;have hq : (v0.kind != 12) = !p := by rw [← hp]; rfl
  have HP0 := zh hp;clear hp;obtain ⟨c0, c1, c2, c3, c4, c5⟩ := hat
  cases p with
  | false =>
   simp only [Bool.not_false] at hq;have hR0 : R = false := by rw [← HR2.o]; simp [Zh, Zx, HP0.o]
   subst hR0;go_wp2_with fail;go_ret;exact ⟨rfl, HB.o.trans HLX.o⟩
  | true =>
   simp only [Bool.not_true] at hq;obtain ⟨q, hqq⟩ : ∃ q, Zj r v0 = q := ⟨_, rfl⟩;have HQ0 := zh hqq;clear hqq;go_wp2_with fail;refine (Zay r B cs F _ v0 _ (HS.o.later HLX.o) hel0).mono ?_;rw [HQ0.o];rintro e y ⟨rfl, hy⟩;replace HLX := zh (HLX.o.trans hy);clear hy hel0 c0 c1 c2 c3 c4 c5 hb hq k0;clear HKX
   cases q with
   | false =>
    have hR0 : R = false := by rw [← HR2.o]; simp [Zh, Zx, HP0.o, HQ0.o]
    subst hR0;go_wp2_with fail;go_ret;exact ⟨rfl, HB.o.trans HLX.o⟩
   | true =>
    go_wp2_with fail;rw [rounds_succ];have HKX := zB HLX HKA;obtain ⟨b, o, e, hb, hat, hel1⟩ := (HRW.o.later Zc HLX.o).vat (j := 1) (by simp);cases e;simp only [List.getElem_cons_succ, List.getElem_cons_zero, Nat.reduceMul, Nat.add_zero] at hat hel1;obtain ⟨p, hp⟩ : ∃ p, (v1.kind == 13) = p := ⟨_, rfl⟩;obtain ⟨p2, hp2⟩ : ∃ p, (v1.kind == 14) = p := ⟨_, rfl⟩;obtain ⟨q, hqq⟩ : ∃ q, Zj r v1 = q := ⟨_, rfl⟩;have HQ1 := zh hqq;have HR3 := zh (show R = ((p || p2) && q) by rw [← HR2.o]; simp [Zh, Zx, hp, hp2, hqq, HP0.o, HQ0.o]);clear hqq;obtain ⟨c0, c1, c2, c3, c4, c5⟩ := hat;obtain ⟨z, hz⟩ : ∃ z, v1 = z := ⟨_, rfl⟩;rw [hz] at c0 c1 c2 c3 c4 c5 hp hp2 hel1 HQ1;have hl2 := (Za.refl y).alloc (.cells #[.int .i64 z.kind, .int .i64 z.aH, .int .i64 z.index, .string z.text, .int .i64 z.set_.low, .int .i64 z.set_.high] 34);have HH := zh (Zay r B cs F _ z _ (HS.o.later (HLX.o.trans hl2)) (Zc.keep hel1 (fun _ h => h) (Ze.later hl2)));rw [HQ1.o] at HH;have HLY := zh (HLX.o.trans hl2);clear hl2 hz hel1
    cases p with
    | false =>
     cases p2 with
     | false =>
      have hR0 : R = false := by rw [HR3.o]; rfl
      subst hR0;go_wp2_with fail;go_ret;exact ⟨rfl, HB.o.trans HLY.o⟩
     | true =>
      have hR0 : R = q := by rw [HR3.o]; simp
      subst hR0;go_wp2_with fail;refine HH.o.mono ?_;rintro e y ⟨rfl, hy⟩;have HLZ := zh (HLY.o.trans hy);clear hy;go_wp2_with fail;go_ret;exact ⟨rfl, HB.o.trans HLZ.o⟩
    | true =>
     have hR0 : R = q := by rw [HR3.o]; simp
     subst hR0;go_wp2_with fail;refine HH.o.mono ?_;rintro e y ⟨rfl, hy⟩;have HLZ := zh (HLY.o.trans hy);clear hy;go_wp2_with fail;go_ret;exact ⟨rfl, HB.o.trans HLZ.o⟩
 ·have t1 : ((l.length : Int) != 2) = true := bne_iff_ne.2 (by omega);have hR0 : R = false := by
   rw [← hR2]
   match l, hN with
   | [], _ => simp [Zh]
   | [_], _ => simp [Zh]
   | _ :: _ :: _ :: _, _ => simp [Zh]
   | [_, _], h => exact absurd rfl h
  subst hR0;go_enter Tryz.func107, Tryz.ntmps107;go_wp2_with fail;go_ret;exact ⟨rfl, HB.o⟩
theorem Zn6 (r : Zf) (B : Nat) (cs : List Value) (F : Nat → Prop) (w : World) (l : List Zd) (v : Value) (h : Z3 F w B r cs) (hr : Zo Zg 6 F w l v) :
  Calls Tryz.prog 107 #[.pointer (some ⟨B, 0, none⟩), .int .i64 18, v] w fun e w' => e = .returned (.bool (Zab r 18 l)) ∧ Below w.heap.size w w' := by
 obtain ⟨R, hR⟩ : ∃ R, Zab r 18 l = R := ⟨_, rfl⟩;rw [hR];have hR2 : Zh r [13] l = R := by rw [← hR]; simp [Zab, Zar]
 clear hR;obtain ⟨A, c, rfl, hc, hcm, _⟩ := id hr;unfold maxLen at hcm;have hl1 : Za w (w.alloc (.cells #[] 3)) := (Za.refl w).alloc _;have HS := zh (h.later hl1);have HRW := zh (hr.later Zc hl1);have HB := zh hl1;clear h hr hl1
 by_cases hN : l.length = 1
 ·obtain ⟨v0, rfl⟩ : ∃ v0, l = [v0] := by
   match l, hN with
   | [a0], _ => exact ⟨a0, rfl⟩
  clear hN;have HR2 := zh hR2;clear hR2;simp only [List.length_cons, List.length_nil, Nat.zero_add, Nat.reduceAdd] at hc HRW ⊢;go_enter Tryz.func107, Tryz.ntmps107;go_wp2_with fail;refine wp_loop_rounds 1 ?_;rw [rounds_succ];obtain ⟨x, hx⟩ : ∃ x, x = (w.alloc (.cells #[] 3)) := ⟨_, rfl⟩;rw [← hx] at HS HRW HB ⊢;clear hx;have HLX := zh (Za.refl x);obtain ⟨b, o, e, hb, hat, hel0⟩ := (HRW.o.later Zc HLX.o).vat (j := 0) (by simp);cases e;simp only [List.getElem_cons_succ, List.getElem_cons_zero, Nat.reduceMul, Nat.add_zero] at hat hel0;obtain ⟨p, hp⟩ : ∃ p, (v0.kind == 13) = p := ⟨_, rfl⟩;obtain ⟨p2, hp2⟩ : ∃ p, (v0.kind == 14) = p := ⟨_, rfl⟩;obtain ⟨q, hqq⟩ : ∃ q, Zj r v0 = q := ⟨_, rfl⟩;have HQ0 := zh hqq;have HR3 := zh (show R = ((p || p2) && q) by rw [← HR2.o]; simp [Zh, Zx, hp, hp2, hqq]);clear hqq;obtain ⟨c0, c1, c2, c3, c4, c5⟩ := hat;obtain ⟨z, hz⟩ : ∃ z, v0 = z := ⟨_, rfl⟩;rw [hz] at c0 c1 c2 c3 c4 c5 hp hp2 hel0 HQ0;have hl2 := (Za.refl x).alloc (.cells #[.int .i64 z.kind, .int .i64 z.aH, .int .i64 z.index, .string z.text, .int .i64 z.set_.low, .int .i64 z.set_.high] 34);have HH := zh (Zay r B cs F _ z _ (HS.o.later (HLX.o.trans hl2)) (Zc.keep hel0 (fun _ h => h) (Ze.later hl2)));rw [HQ0.o] at HH;have HLY := zh (HLX.o.trans hl2);clear hl2 hz hel0
  cases p with
  | false =>
   cases p2 with
   | false =>
    have hR0 : R = false := by rw [HR3.o]; rfl
    subst hR0;go_wp2_with fail;go_ret;exact ⟨rfl, HB.o.trans HLY.o⟩
   | true =>
    have hR0 : R = q := by rw [HR3.o]; simp
    subst hR0;go_wp2_with fail;refine HH.o.mono ?_;rintro e y ⟨rfl, hy⟩;have HLZ := zh (HLY.o.trans hy);clear hy;go_wp2_with fail;go_ret;exact ⟨rfl, HB.o.trans HLZ.o⟩
  | true =>
   have hR0 : R = q := by rw [HR3.o]; simp
   subst hR0;go_wp2_with fail;refine HH.o.mono ?_;rintro e y ⟨rfl, hy⟩;have HLZ := zh (HLY.o.trans hy);clear hy;go_wp2_with fail;go_ret;exact ⟨rfl, HB.o.trans HLZ.o⟩
 ·have t1 : ((l.length : Int) != 1) = true := bne_iff_ne.2 (by omega);have hR0 : R = false := by
   rw [← hR2]
   match l, hN with
   | [], _ => simp [Zh]
   | _ :: _ :: _, _ => simp [Zh]
   | [_], h => exact absurd rfl h
  subst hR0;go_enter Tryz.func107, Tryz.ntmps107;go_wp2_with fail;go_ret;exact ⟨rfl, HB.o⟩
theorem Zn7 (r : Zf) (B : Nat) (cs : List Value) (F : Nat → Prop) (w : World) (l : List Zd) (v : Value) (h : Z3 F w B r cs) (hr : Zo Zg 6 F w l v) :
  Calls Tryz.prog 107 #[.pointer (some ⟨B, 0, none⟩), .int .i64 19, v] w fun e w' => e = .returned (.bool (Zab r 19 l)) ∧ Below w.heap.size w w' := by
 obtain ⟨R, hR⟩ : ∃ R, Zab r 19 l = R := ⟨_, rfl⟩;rw [hR];have hR2 : Zh r [] l = R := by rw [← hR]; simp [Zab, Zar]
 clear hR;obtain ⟨A, c, rfl, hc, hcm, _⟩ := id hr;unfold maxLen at hcm;have hl1 : Za w (w.alloc (.cells #[] 3)) := (Za.refl w).alloc _;have HS := zh (h.later hl1);have HRW := zh (hr.later Zc hl1);have HB := zh hl1;clear h hr hl1
 by_cases hN : l.length = 0
 ·obtain rfl : l = [] := List.eq_nil_of_length_eq_zero hN;clear hN;have HR2 := zh hR2;clear hR2;simp only [List.length_cons, List.length_nil, Nat.zero_add, Nat.reduceAdd] at hc HRW ⊢;go_enter Tryz.func107, Tryz.ntmps107;go_wp2_with fail;refine wp_loop_rounds 1 ?_;rw [rounds_succ];obtain ⟨x, hx⟩ : ∃ x, x = (w.alloc (.cells #[] 3)) := ⟨_, rfl⟩;rw [← hx] at HS HRW HB ⊢;clear hx;have HLX := zh (Za.refl x);have hR0 : R = true := by rw [← HR2.o]; simp [Zh, Zx]
  subst hR0;go_wp2_with fail;go_ret;exact ⟨rfl, HB.o.trans HLX.o⟩
 ·have t1 : ((l.length : Int) != 0) = true := bne_iff_ne.2 (by omega);have hR0 : R = false := by
   rw [← hR2]
   match l, hN with
   | _ :: _, _ => simp [Zh]
   | [], h => exact absurd rfl h
  subst hR0;go_enter Tryz.func107, Tryz.ntmps107;go_wp2_with fail;go_ret;exact ⟨rfl, HB.o⟩
theorem Zn8 (r : Zf) (B : Nat) (cs : List Value) (F : Nat → Prop) (w : World) (l : List Zd) (v : Value) (h : Z3 F w B r cs) (hr : Zo Zg 6 F w l v) :
  Calls Tryz.prog 107 #[.pointer (some ⟨B, 0, none⟩), .int .i64 20, v] w fun e w' => e = .returned (.bool (Zab r 20 l)) ∧ Below w.heap.size w w' := by
 obtain ⟨R, hR⟩ : ∃ R, Zab r 20 l = R := ⟨_, rfl⟩;rw [hR];have hR2 : Zh r [13] l = R := by rw [← hR]; simp [Zab, Zar]
 clear hR;obtain ⟨A, c, rfl, hc, hcm, _⟩ := id hr;unfold maxLen at hcm;have hl1 : Za w (w.alloc (.cells #[] 3)) := (Za.refl w).alloc _;have HS := zh (h.later hl1);have HRW := zh (hr.later Zc hl1);have HB := zh hl1;clear h hr hl1
 by_cases hN : l.length = 1
 ·obtain ⟨v0, rfl⟩ : ∃ v0, l = [v0] := by
   match l, hN with
   | [a0], _ => exact ⟨a0, rfl⟩
  clear hN;have HR2 := zh hR2;clear hR2;simp only [List.length_cons, List.length_nil, Nat.zero_add, Nat.reduceAdd] at hc HRW ⊢;go_enter Tryz.func107, Tryz.ntmps107;go_wp2_with fail;refine wp_loop_rounds 1 ?_;rw [rounds_succ];obtain ⟨x, hx⟩ : ∃ x, x = (w.alloc (.cells #[] 3)) := ⟨_, rfl⟩;rw [← hx] at HS HRW HB ⊢;clear hx;have HLX := zh (Za.refl x);obtain ⟨b, o, e, hb, hat, hel0⟩ := (HRW.o.later Zc HLX.o).vat (j := 0) (by simp);cases e;simp only [List.getElem_cons_succ, List.getElem_cons_zero, Nat.reduceMul, Nat.add_zero] at hat hel0;obtain ⟨p, hp⟩ : ∃ p, (v0.kind == 13) = p := ⟨_, rfl⟩;obtain ⟨p2, hp2⟩ : ∃ p, (v0.kind == 14) = p := ⟨_, rfl⟩;obtain ⟨q, hqq⟩ : ∃ q, Zj r v0 = q := ⟨_, rfl⟩;have HQ0 := zh hqq;have HR3 := zh (show R = ((p || p2) && q) by rw [← HR2.o]; simp [Zh, Zx, hp, hp2, hqq]);clear hqq;obtain ⟨c0, c1, c2, c3, c4, c5⟩ := hat;obtain ⟨z, hz⟩ : ∃ z, v0 = z := ⟨_, rfl⟩;rw [hz] at c0 c1 c2 c3 c4 c5 hp hp2 hel0 HQ0;have hl2 := (Za.refl x).alloc (.cells #[.int .i64 z.kind, .int .i64 z.aH, .int .i64 z.index, .string z.text, .int .i64 z.set_.low, .int .i64 z.set_.high] 34);have HH := zh (Zay r B cs F _ z _ (HS.o.later (HLX.o.trans hl2)) (Zc.keep hel0 (fun _ h => h) (Ze.later hl2)));rw [HQ0.o] at HH;have HLY := zh (HLX.o.trans hl2);clear hl2 hz hel0
  cases p with
  | false =>
   cases p2 with
   | false =>
    have hR0 : R = false := by rw [HR3.o]; rfl
    subst hR0;go_wp2_with fail;go_ret;exact ⟨rfl, HB.o.trans HLY.o⟩
   | true =>
    have hR0 : R = q := by rw [HR3.o]; simp
    subst hR0;go_wp2_with fail;refine HH.o.mono ?_;rintro e y ⟨rfl, hy⟩;have HLZ := zh (HLY.o.trans hy);clear hy;go_wp2_with fail;go_ret;exact ⟨rfl, HB.o.trans HLZ.o⟩
  | true =>
   have hR0 : R = q := by rw [HR3.o]; simp
   subst hR0;go_wp2_with fail;refine HH.o.mono ?_;rintro e y ⟨rfl, hy⟩;have HLZ := zh (HLY.o.trans hy);clear hy;go_wp2_with fail;go_ret;exact ⟨rfl, HB.o.trans HLZ.o⟩
 ·have t1 : ((l.length : Int) != 1) = true := bne_iff_ne.2 (by omega);have hR0 : R = false := by
   rw [← hR2]
   match l, hN with
   | [], _ => simp [Zh]
   | _ :: _ :: _, _ => simp [Zh]
   | [_], h => exact absurd rfl h
  subst hR0;go_enter Tryz.func107, Tryz.ntmps107;go_wp2_with fail;go_ret;exact ⟨rfl, HB.o⟩
theorem Zn9 (r : Zf) (B : Nat) (cs : List Value) (F : Nat → Prop) (w : World) (l : List Zd) (v : Value) (h : Z3 F w B r cs) (hr : Zo Zg 6 F w l v) :
  Calls Tryz.prog 107 #[.pointer (some ⟨B, 0, none⟩), .int .i64 21, v] w fun e w' => e = .returned (.bool (Zab r 21 l)) ∧ Below w.heap.size w w' := by
 obtain ⟨R, hR⟩ : ∃ R, Zab r 21 l = R := ⟨_, rfl⟩;rw [hR];have hR2 : Zh r [] l = R := by rw [← hR]; simp [Zab, Zar]
 clear hR;obtain ⟨A, c, rfl, hc, hcm, _⟩ := id hr;unfold maxLen at hcm;have hl1 : Za w (w.alloc (.cells #[] 3)) := (Za.refl w).alloc _;have HS := zh (h.later hl1);have HRW := zh (hr.later Zc hl1);have HB := zh hl1;clear h hr hl1
 by_cases hN : l.length = 0
 ·obtain rfl : l = [] := List.eq_nil_of_length_eq_zero hN;clear hN;have HR2 := zh hR2;clear hR2;simp only [List.length_cons, List.length_nil, Nat.zero_add, Nat.reduceAdd] at hc HRW ⊢;go_enter Tryz.func107, Tryz.ntmps107;go_wp2_with fail;refine wp_loop_rounds 1 ?_;rw [rounds_succ];obtain ⟨x, hx⟩ : ∃ x, x = (w.alloc (.cells #[] 3)) := ⟨_, rfl⟩;rw [← hx] at HS HRW HB ⊢;clear hx;have HLX := zh (Za.refl x);have hR0 : R = true := by rw [← HR2.o]; simp [Zh, Zx]
  subst hR0;go_wp2_with fail;go_ret;exact ⟨rfl, HB.o.trans HLX.o⟩
 ·have t1 : ((l.length : Int) != 0) = true := bne_iff_ne.2 (by omega);have hR0 : R = false := by
   rw [← hR2]
   match l, hN with
   | _ :: _, _ => simp [Zh]
   | [], h => exact absurd rfl h
  subst hR0;go_enter Tryz.func107, Tryz.ntmps107;go_wp2_with fail;go_ret;exact ⟨rfl, HB.o⟩
theorem Zoa (r : Zf) (B : Nat) (cs : List Value) (F : Nat → Prop) (w : World) (l : List Zd) (v : Value) (h : Z3 F w B r cs) (hr : Zo Zg 6 F w l v) :
  Calls Tryz.prog 107 #[.pointer (some ⟨B, 0, none⟩), .int .i64 22, v] w fun e w' => e = .returned (.bool (Zab r 22 l)) ∧ Below w.heap.size w w' := by
 obtain ⟨R, hR⟩ : ∃ R, Zab r 22 l = R := ⟨_, rfl⟩;rw [hR];have hR2 : Zh r [] l = R := by rw [← hR]; simp [Zab, Zar]
 clear hR;obtain ⟨A, c, rfl, hc, hcm, _⟩ := id hr;unfold maxLen at hcm;have hl1 : Za w (w.alloc (.cells #[] 3)) := (Za.refl w).alloc _;have HS := zh (h.later hl1);have HRW := zh (hr.later Zc hl1);have HB := zh hl1;clear h hr hl1
 by_cases hN : l.length = 0
 ·obtain rfl : l = [] := List.eq_nil_of_length_eq_zero hN;clear hN;have HR2 := zh hR2;clear hR2;simp only [List.length_cons, List.length_nil, Nat.zero_add, Nat.reduceAdd] at hc HRW ⊢;go_enter Tryz.func107, Tryz.ntmps107;go_wp2_with fail;refine wp_loop_rounds 1 ?_;rw [rounds_succ];obtain ⟨x, hx⟩ : ∃ x, x = (w.alloc (.cells #[] 3)) := ⟨_, rfl⟩;rw [← hx] at HS HRW HB ⊢;clear hx;have HLX := zh (Za.refl x);have hR0 : R = true := by rw [← HR2.o]; simp [Zh, Zx]
  subst hR0;go_wp2_with fail;go_ret;exact ⟨rfl, HB.o.trans HLX.o⟩
 ·have t1 : ((l.length : Int) != 0) = true := bne_iff_ne.2 (by omega);have hR0 : R = false := by
   rw [← hR2]
   match l, hN with
   | _ :: _, _ => simp [Zh]
   | [], h => exact absurd rfl h
  subst hR0;go_enter Tryz.func107, Tryz.ntmps107;go_wp2_with fail;go_ret;exact ⟨rfl, HB.o⟩
theorem Zob (r : Zf) (B : Nat) (cs : List Value) (F : Nat → Prop) (w : World) (l : List Zd) (v : Value) (h : Z3 F w B r cs) (hr : Zo Zg 6 F w l v) :
  Calls Tryz.prog 107 #[.pointer (some ⟨B, 0, none⟩), .int .i64 23, v] w fun e w' => e = .returned (.bool (Zab r 23 l)) ∧ Below w.heap.size w w' := by
 obtain ⟨R, hR⟩ : ∃ R, Zab r 23 l = R := ⟨_, rfl⟩;rw [hR];have hR2 : Zh r [] l = R := by rw [← hR]; simp [Zab, Zar]
 clear hR;obtain ⟨A, c, rfl, hc, hcm, _⟩ := id hr;unfold maxLen at hcm;have hl1 : Za w (w.alloc (.cells #[] 3)) := (Za.refl w).alloc _;have HS := zh (h.later hl1);have HRW := zh (hr.later Zc hl1);have HB := zh hl1;clear h hr hl1
 by_cases hN : l.length = 0
 ·obtain rfl : l = [] := List.eq_nil_of_length_eq_zero hN;clear hN;have HR2 := zh hR2;clear hR2;simp only [List.length_cons, List.length_nil, Nat.zero_add, Nat.reduceAdd] at hc HRW ⊢;go_enter Tryz.func107, Tryz.ntmps107;go_wp2_with fail;refine wp_loop_rounds 1 ?_;rw [rounds_succ];obtain ⟨x, hx⟩ : ∃ x, x = (w.alloc (.cells #[] 3)) := ⟨_, rfl⟩;rw [← hx] at HS HRW HB ⊢;clear hx;have HLX := zh (Za.refl x);have hR0 : R = true := by rw [← HR2.o]; simp [Zh, Zx]
  subst hR0;go_wp2_with fail;go_ret;exact ⟨rfl, HB.o.trans HLX.o⟩
 ·have t1 : ((l.length : Int) != 0) = true := bne_iff_ne.2 (by omega);have hR0 : R = false := by
   rw [← hR2]
   match l, hN with
   | _ :: _, _ => simp [Zh]
   | [], h => exact absurd rfl h
  subst hR0;go_enter Tryz.func107, Tryz.ntmps107;go_wp2_with fail;go_ret;exact ⟨rfl, HB.o⟩
theorem Zoc (r : Zf) (B : Nat) (w : World) (l : List Zd) (A : Option Addr) (c : Nat) (op : Int) (h : op < 1) :
  Calls Tryz.prog 107 #[.pointer (some ⟨B, 0, none⟩), .int .i64 op, .slice A l.length c] w fun e w' => e = .returned (.bool (Zab r op l)) ∧ Below w.heap.size w w' := by
 have hR : Zab r op l = false := by unfold Zab; rw [decide_eq_false (by omega)]; rfl
 rw [hR];have t1 : (op == 1) = false := by simp; omega
 have t13 : (op == 13) = false := by simp; omega
 have t14 : (op == 14) = false := by simp; omega
 have t15 : (op == 15) = false := by simp; omega
 have t16 : (op == 16) = false := by simp; omega
 have t17 : (op == 17) = false := by simp; omega
 have t18 : (op == 18) = false := by simp; omega
 have t20 : (op == 20) = false := by simp; omega
 have d2 : decide (2 ≤ op) = false := decide_eq_false (by omega);have d7 : decide (7 ≤ op) = false := decide_eq_false (by omega);have e1 : decide (op < 1) = true := decide_eq_true (by omega);clear h hR;go_enter Tryz.func107, Tryz.ntmps107;go_wp2_with fail;go_ret;exact ⟨rfl, (Za.refl w).alloc _⟩
theorem Zod (r : Zf) (B : Nat) (w : World) (l : List Zd) (A : Option Addr) (c : Nat) (op : Int) (h : 23 < op) :
  Calls Tryz.prog 107 #[.pointer (some ⟨B, 0, none⟩), .int .i64 op, .slice A l.length c] w fun e w' => e = .returned (.bool (Zab r op l)) ∧ Below w.heap.size w w' := by
 have hR : Zab r op l = false := by unfold Zab; rw [decide_eq_false (p := op ≤ 23) (by omega)]; simp
 rw [hR];have t1 : (op == 1) = false := by simp; omega
 have t13 : (op == 13) = false := by simp; omega
 have t14 : (op == 14) = false := by simp; omega
 have t15 : (op == 15) = false := by simp; omega
 have t16 : (op == 16) = false := by simp; omega
 have t17 : (op == 17) = false := by simp; omega
 have t18 : (op == 18) = false := by simp; omega
 have t20 : (op == 20) = false := by simp; omega
 have d2 : decide (2 ≤ op) = true := decide_eq_true (by omega);have d6 : decide (op ≤ 6) = false := decide_eq_false (by omega);have d7 : decide (7 ≤ op) = true := decide_eq_true (by omega);have d10 : decide (op ≤ 10) = false := decide_eq_false (by omega);have e1 : decide (op < 1) = false := decide_eq_false (by omega);have e23 : decide (23 < op) = true := decide_eq_true (by omega);clear h hR;go_enter Tryz.func107, Tryz.ntmps107;go_wp2_with fail;go_ret;exact ⟨rfl, (Za.refl w).alloc _⟩
theorem Zjg (r : Zf) (B : Nat) (cs : List Value) (F : Nat → Prop) (w : World) (op : Int) (l : List Zd) (v : Value) (h : Z3 F w B r cs) (hr : Zo Zg 6 F w l v) :
  Calls Tryz.prog 107 #[.pointer (some ⟨B, 0, none⟩), .int .i64 op, v] w fun e w' => e = .returned (.bool (Zab r op l)) ∧ Below w.heap.size w w' := by
 obtain ⟨A, c, hv, _⟩ := id hr;have hk : op < 1 ∨ 23 < op ∨ op = 1 ∨ op = 2 ∨ op = 3 ∨ op = 4 ∨ op = 5 ∨ op = 6 ∨ op = 7 ∨ op = 8 ∨ op = 9 ∨ op = 10 ∨ op = 11 ∨ op = 12 ∨ op = 13 ∨ op = 14 ∨ op = 15 ∨ op = 16 ∨ op = 17 ∨ op = 18 ∨ op = 19 ∨ op = 20 ∨ op = 21 ∨ op = 22 ∨ op = 23 := by omega
 rcases hk with hk | hk | rfl | rfl | rfl | rfl | rfl | rfl | rfl | rfl | rfl | rfl | rfl | rfl | rfl | rfl | rfl | rfl | rfl | rfl | rfl | rfl | rfl | rfl | rfl
 ·rw [hv]; exact Zoc r B w l A c op hk
 ·rw [hv]; exact Zod r B w l A c op hk
 ·exact Zpv r B cs F w l v h hr
 ·exact Zpw r B cs F w l v h hr
 ·exact Zpx r B cs F w l v h hr
 ·exact Zpy r B cs F w l v h hr
 ·exact Zpz r B cs F w l v h hr
 ·exact Zp0 r B cs F w l v h hr
 ·exact Zp1 r B cs F w l v h hr
 ·exact Zp2 r B cs F w l v h hr
 ·exact Zp3 r B cs F w l v h hr
 ·exact Zny r B cs F w l v h hr
 ·exact Znz r B cs F w l v h hr
 ·exact Zn0 r B cs F w l v h hr
 ·exact Zn1 r B cs F w l v h hr
 ·exact Zn2 r B cs F w l v h hr
 ·exact Zn3 r B cs F w l v h hr
 ·exact Zn4 r B cs F w l v h hr
 ·exact Zn5 r B cs F w l v h hr
 ·exact Zn6 r B cs F w l v h hr
 ·exact Zn7 r B cs F w l v h hr
 ·exact Zn8 r B cs F w l v h hr
 ·exact Zn9 r B cs F w l v h hr
 ·exact Zoa r B cs F w l v h hr
 ·exact Zob r B cs F w l v h hr
theorem Zoe (w : World) : Calls Tryz.prog 135 #[.int .i64 1] w fun e w' => e = .returned (.slice (some ⟨w.heap.size, 0, none⟩) 1 1) ∧ w' = w.alloc (.cells #[.int .i64 2] 3) := by
 go_enter Tryz.func135, Tryz.ntmps135;go_wp2_with fail;go_ret;exact ⟨rfl, rfl⟩
theorem Zof (w : World) : Calls Tryz.prog 135 #[.int .i64 2] w fun e w' => e = .returned (.slice (some ⟨w.heap.size, 0, none⟩) 1 1) ∧ w' = w.alloc (.cells #[.int .i64 1] 3) := by
 go_enter Tryz.func135, Tryz.ntmps135;go_wp2_with fail;go_ret;exact ⟨rfl, rfl⟩
theorem Zog (w : World) : Calls Tryz.prog 135 #[.int .i64 3] w fun e w' => e = .returned (.slice (some ⟨w.heap.size, 0, none⟩) 1 1) ∧ w' = w.alloc (.cells #[.int .i64 1] 3) := by
 go_enter Tryz.func135, Tryz.ntmps135;go_wp2_with fail;go_ret;exact ⟨rfl, rfl⟩
theorem Zoh (w : World) : Calls Tryz.prog 135 #[.int .i64 4] w fun e w' => e = .returned (.slice (some ⟨w.heap.size, 0, none⟩) 1 1) ∧ w' = w.alloc (.cells #[.int .i64 1] 3) := by
 go_enter Tryz.func135, Tryz.ntmps135;go_wp2_with fail;go_ret;exact ⟨rfl, rfl⟩
theorem Zoi (w : World) : Calls Tryz.prog 135 #[.int .i64 5] w fun e w' => e = .returned (.slice (some ⟨w.heap.size, 0, none⟩) 1 1) ∧ w' = w.alloc (.cells #[.int .i64 1] 3) := by
 go_enter Tryz.func135, Tryz.ntmps135;go_wp2_with fail;go_ret;exact ⟨rfl, rfl⟩
theorem Zoj (w : World) : Calls Tryz.prog 135 #[.int .i64 6] w fun e w' => e = .returned (.slice (some ⟨w.heap.size, 0, none⟩) 1 1) ∧ w' = w.alloc (.cells #[.int .i64 1] 3) := by
 go_enter Tryz.func135, Tryz.ntmps135;go_wp2_with fail;go_ret;exact ⟨rfl, rfl⟩
theorem Zok (w : World) : Calls Tryz.prog 135 #[.int .i64 7] w fun e w' => e = .returned (.slice (some ⟨w.heap.size, 0, none⟩) 1 1) ∧ w' = w.alloc (.cells #[.int .i64 3] 3) := by
 go_enter Tryz.func135, Tryz.ntmps135;go_wp2_with fail;go_ret;exact ⟨rfl, rfl⟩
theorem Zol (w : World) : Calls Tryz.prog 135 #[.int .i64 8] w fun e w' => e = .returned (.slice (some ⟨w.heap.size, 0, none⟩) 1 1) ∧ w' = w.alloc (.cells #[.int .i64 3] 3) := by
 go_enter Tryz.func135, Tryz.ntmps135;go_wp2_with fail;go_ret;exact ⟨rfl, rfl⟩
theorem Zom (w : World) : Calls Tryz.prog 135 #[.int .i64 9] w fun e w' => e = .returned (.slice (some ⟨w.heap.size, 0, none⟩) 1 1) ∧ w' = w.alloc (.cells #[.int .i64 3] 3) := by
 go_enter Tryz.func135, Tryz.ntmps135;go_wp2_with fail;go_ret;exact ⟨rfl, rfl⟩
theorem Zmm (w : World) : Calls Tryz.prog 135 #[.int .i64 10] w fun e w' => e = .returned (.slice (some ⟨w.heap.size, 0, none⟩) 1 1) ∧ w' = w.alloc (.cells #[.int .i64 3] 3) := by
 go_enter Tryz.func135, Tryz.ntmps135;go_wp2_with fail;go_ret;exact ⟨rfl, rfl⟩
theorem Zmn (w : World) : Calls Tryz.prog 135 #[.int .i64 13] w fun e w' => e = .returned (.slice (some ⟨w.heap.size, 0, none⟩) 1 1) ∧ w' = w.alloc (.cells #[.int .i64 12] 3) := by
 go_enter Tryz.func135, Tryz.ntmps135;go_wp2_with fail;go_ret;exact ⟨rfl, rfl⟩
theorem Zmo (w : World) : Calls Tryz.prog 135 #[.int .i64 14] w fun e w' => e = .returned (.slice (some ⟨w.heap.size, 0, none⟩) 2 2) ∧ w' = w.alloc (.cells #[.int .i64 12, .int .i64 12] 3) := by
 go_enter Tryz.func135, Tryz.ntmps135;go_wp2_with fail;go_ret;exact ⟨rfl, rfl⟩
theorem Zmp (w : World) : Calls Tryz.prog 135 #[.int .i64 15] w fun e w' => e = .returned (.slice (some ⟨w.heap.size, 0, none⟩) 2 2) ∧ w' = w.alloc (.cells #[.int .i64 12, .int .i64 12] 3) := by
 go_enter Tryz.func135, Tryz.ntmps135;go_wp2_with fail;go_ret;exact ⟨rfl, rfl⟩
theorem Zmq (w : World) : Calls Tryz.prog 135 #[.int .i64 16] w fun e w' => e = .returned (.slice (some ⟨w.heap.size, 0, none⟩) 2 2) ∧ w' = w.alloc (.cells #[.int .i64 12, .int .i64 13] 3) := by
 go_enter Tryz.func135, Tryz.ntmps135;go_wp2_with fail;go_ret;exact ⟨rfl, rfl⟩
theorem Zmr (w : World) : Calls Tryz.prog 135 #[.int .i64 17] w fun e w' => e = .returned (.slice (some ⟨w.heap.size, 0, none⟩) 2 2) ∧ w' = w.alloc (.cells #[.int .i64 12, .int .i64 13] 3) := by
 go_enter Tryz.func135, Tryz.ntmps135;go_wp2_with fail;go_ret;exact ⟨rfl, rfl⟩
theorem Zms (w : World) : Calls Tryz.prog 135 #[.int .i64 18] w fun e w' => e = .returned (.slice (some ⟨w.heap.size, 0, none⟩) 1 1) ∧ w' = w.alloc (.cells #[.int .i64 13] 3) := by
 go_enter Tryz.func135, Tryz.ntmps135;go_wp2_with fail;go_ret;exact ⟨rfl, rfl⟩
theorem Zmt (w : World) : Calls Tryz.prog 135 #[.int .i64 20] w fun e w' => e = .returned (.slice (some ⟨w.heap.size, 0, none⟩) 1 1) ∧ w' = w.alloc (.cells #[.int .i64 13] 3) := by
 go_enter Tryz.func135, Tryz.ntmps135;go_wp2_with fail;go_ret;exact ⟨rfl, rfl⟩
theorem Zmu (op : Int) (w : World) (h : op ≠ 1 ∧ op ≠ 2 ∧ op ≠ 3 ∧ op ≠ 4 ∧ op ≠ 5 ∧ op ≠ 6 ∧ op ≠ 7 ∧ op ≠ 8 ∧ op ≠ 9 ∧ op ≠ 10 ∧ op ≠ 13 ∧ op ≠ 14 ∧ op ≠ 15 ∧ op ≠ 16 ∧ op ≠ 17 ∧ op ≠ 18 ∧ op ≠ 20) : Calls Tryz.prog 135 #[.int .i64 op] w fun e w' => e = .returned (.slice none 0 0) ∧ w' = w := by
 obtain ⟨h1, h2, h3, h4, h5, h6, h7, h8, h9, h10, h13, h14, h15, h16, h17, h18, h20⟩ := h;replace h1 : (op == 1) = false := nH.2 h1;replace h2 : (op == 2) = false := nH.2 h2;replace h3 : (op == 3) = false := nH.2 h3;replace h4 : (op == 4) = false := nH.2 h4;replace h5 : (op == 5) = false := nH.2 h5;replace h6 : (op == 6) = false := nH.2 h6;replace h7 : (op == 7) = false := nH.2 h7;replace h8 : (op == 8) = false := nH.2 h8;replace h9 : (op == 9) = false := nH.2 h9;replace h10 : (op == 10) = false := nH.2 h10;replace h13 : (op == 13) = false := nH.2 h13;replace h14 : (op == 14) = false := nH.2 h14;replace h15 : (op == 15) = false := nH.2 h15;replace h16 : (op == 16) = false := nH.2 h16;replace h17 : (op == 17) = false := nH.2 h17;replace h18 : (op == 18) = false := nH.2 h18;replace h20 : (op == 20) = false := nH.2 h20;go_enter Tryz.func135, Tryz.ntmps135;go_wp2_with fail;go_ret;exact ⟨rfl, rfl⟩
theorem Zcg (w : World) (ks : List Int) (hk : ∀ k ∈ ks, Zy k) (hn : ks.length ≤ 2) {cs : Array Value} (hc : cs.toList = ks.map fun k => .int .i64 k) : Zo Zqp 1 (fun _ => True) (w.alloc (.cells cs 3)) ks (.slice (some ⟨w.heap.size, 0, none⟩) ks.length ks.length) := by
 have hb := heap_alloc_new w (.cells cs 3);refine ⟨_, _, rfl, Nat.le_refl _, by unfold maxLen; omega, fun i hi => ⟨_, _, [.int .i64 ks[i]], rfl, trivial, Zb hb, ⟨rfl, hk _ (List.getElem_mem hi)⟩, fun j x hj => ?_⟩⟩;have hj0 : j = 0 := by have := (List.getElem?_eq_some_iff.1 hj).1; simpa using this
 subst hj0;simp only [List.getElem?_cons_zero, Option.some.injEq] at hj;rw [cell_of_row _ _ _ _ _ _ hb, ← hj, ← Array.getElem?_toList, hc, Nat.zero_add, Nat.mul_one, Nat.add_zero, List.getElem?_map, List.getElem?_eq_getElem hi]
 rfl
theorem Zhk (op : Int) (w : World) : Calls Tryz.prog 135 #[.int .i64 op] w fun e w' => ∃ v', e = .returned v' ∧ Zo Zqp 1 (fun _ => True) w' (Zar op) v' ∧ Za w w' := by
 have hk : op = 1 ∨ op = 2 ∨ op = 3 ∨ op = 4 ∨ op = 5 ∨ op = 6 ∨ op = 7 ∨ op = 8 ∨ op = 9 ∨ op = 10 ∨ op = 13 ∨ op = 14 ∨ op = 15 ∨ op = 16 ∨ op = 17 ∨ op = 18 ∨ op = 20 ∨ (op ≠ 1 ∧ op ≠ 2 ∧ op ≠ 3 ∧ op ≠ 4 ∧ op ≠ 5 ∧ op ≠ 6 ∧ op ≠ 7 ∧ op ≠ 8 ∧ op ≠ 9 ∧ op ≠ 10 ∧ op ≠ 13 ∧ op ≠ 14 ∧ op ≠ 15 ∧ op ≠ 16 ∧ op ≠ 17 ∧ op ≠ 18 ∧ op ≠ 20) := by omega
 rcases hk with rfl | rfl | rfl | rfl | rfl | rfl | rfl | rfl | rfl | rfl | rfl | rfl | rfl | rfl | rfl | rfl | rfl | h
 ·refine (Zoe w).mono ?_;rintro e w' ⟨rfl, rfl⟩;exact ⟨_, rfl, Zcg w [2] (by intro k hk; simp at hk; unfold Zy; omega) (by simp) rfl, (Za.refl w).alloc _⟩
 ·refine (Zof w).mono ?_;rintro e w' ⟨rfl, rfl⟩;exact ⟨_, rfl, Zcg w [1] (by intro k hk; simp at hk; unfold Zy; omega) (by simp) rfl, (Za.refl w).alloc _⟩
 ·refine (Zog w).mono ?_;rintro e w' ⟨rfl, rfl⟩;exact ⟨_, rfl, Zcg w [1] (by intro k hk; simp at hk; unfold Zy; omega) (by simp) rfl, (Za.refl w).alloc _⟩
 ·refine (Zoh w).mono ?_;rintro e w' ⟨rfl, rfl⟩;exact ⟨_, rfl, Zcg w [1] (by intro k hk; simp at hk; unfold Zy; omega) (by simp) rfl, (Za.refl w).alloc _⟩
 ·refine (Zoi w).mono ?_;rintro e w' ⟨rfl, rfl⟩;exact ⟨_, rfl, Zcg w [1] (by intro k hk; simp at hk; unfold Zy; omega) (by simp) rfl, (Za.refl w).alloc _⟩
 ·refine (Zoj w).mono ?_;rintro e w' ⟨rfl, rfl⟩;exact ⟨_, rfl, Zcg w [1] (by intro k hk; simp at hk; unfold Zy; omega) (by simp) rfl, (Za.refl w).alloc _⟩
 ·refine (Zok w).mono ?_;rintro e w' ⟨rfl, rfl⟩;exact ⟨_, rfl, Zcg w [3] (by intro k hk; simp at hk; unfold Zy; omega) (by simp) rfl, (Za.refl w).alloc _⟩
 ·refine (Zol w).mono ?_;rintro e w' ⟨rfl, rfl⟩;exact ⟨_, rfl, Zcg w [3] (by intro k hk; simp at hk; unfold Zy; omega) (by simp) rfl, (Za.refl w).alloc _⟩
 ·refine (Zom w).mono ?_;rintro e w' ⟨rfl, rfl⟩;exact ⟨_, rfl, Zcg w [3] (by intro k hk; simp at hk; unfold Zy; omega) (by simp) rfl, (Za.refl w).alloc _⟩
 ·refine (Zmm w).mono ?_;rintro e w' ⟨rfl, rfl⟩;exact ⟨_, rfl, Zcg w [3] (by intro k hk; simp at hk; unfold Zy; omega) (by simp) rfl, (Za.refl w).alloc _⟩
 ·refine (Zmn w).mono ?_;rintro e w' ⟨rfl, rfl⟩;exact ⟨_, rfl, Zcg w [12] (by intro k hk; simp at hk; unfold Zy; omega) (by simp) rfl, (Za.refl w).alloc _⟩
 ·refine (Zmo w).mono ?_;rintro e w' ⟨rfl, rfl⟩;exact ⟨_, rfl, Zcg w [12, 12] (by intro k hk; simp at hk; unfold Zy; omega) (by simp) rfl, (Za.refl w).alloc _⟩
 ·refine (Zmp w).mono ?_;rintro e w' ⟨rfl, rfl⟩;exact ⟨_, rfl, Zcg w [12, 12] (by intro k hk; simp at hk; unfold Zy; omega) (by simp) rfl, (Za.refl w).alloc _⟩
 ·refine (Zmq w).mono ?_;rintro e w' ⟨rfl, rfl⟩;exact ⟨_, rfl, Zcg w [12, 13] (by intro k hk; simp at hk; unfold Zy; omega) (by simp) rfl, (Za.refl w).alloc _⟩
 ·refine (Zmr w).mono ?_;rintro e w' ⟨rfl, rfl⟩;exact ⟨_, rfl, Zcg w [12, 13] (by intro k hk; simp at hk; unfold Zy; omega) (by simp) rfl, (Za.refl w).alloc _⟩
 ·refine (Zms w).mono ?_;rintro e w' ⟨rfl, rfl⟩;exact ⟨_, rfl, Zcg w [13] (by intro k hk; simp at hk; unfold Zy; omega) (by simp) rfl, (Za.refl w).alloc _⟩
 ·refine (Zmt w).mono ?_;rintro e w' ⟨rfl, rfl⟩;exact ⟨_, rfl, Zcg w [13] (by intro k hk; simp at hk; unfold Zy; omega) (by simp) rfl, (Za.refl w).alloc _⟩
 ·refine (Zmu op w h).mono ?_;rintro e w' ⟨rfl, rfl⟩;have e : Zar op = [] := by unfold Zar; (repeat' split) <;> first | rfl | omega
  rw [e];exact ⟨_, rfl, Zo.nil _ _ _ _, Za.refl _⟩
theorem Zo.at__ {α : Type} {El : Zbt α} {size : Nat} {F : Nat → Prop} {w : World} {l : List α} {A : Option Addr} {n c : Nat} (h : Zo El size F w l (.slice A n c)) {j : Nat} (hj : j < l.length) :
  ∃ b o cs, A = some ⟨b, o, none⟩ ∧ F b ∧ b < w.heap.size ∧ El F w l[j] cs ∧ ∀ q x, cs[q]? = some x → w.cell? ⟨b, o + j * size + q, none⟩ = some x := by
 obtain ⟨A', c', e, _, _, hel⟩ := h;cases e;exact hel j hj
theorem Zev {r : Zf} : ∀ {ks : List Int} {l : List Zd}, Zh r ks l = true ↔ (ks.length = l.length ∧ ∀ i (h : i < ks.length) (h' : i < l.length), Zx r ks[i] l[i] = true)
 | [], [] => by simp [Zh]
 | [], v :: vs => by simp [Zh]
 | k :: ks, [] => by simp [Zh]
 | k :: ks, v :: vs => by
  have ih := @Zev r ks vs;simp only [Zh, Bool.and_eq_true, ih, List.length_cons]
  constructor
  ·rintro ⟨h1, h2, h3⟩;refine ⟨by omega, fun i h h' => ?_⟩
   cases i with
   | zero => exact h1
   | succ i => exact h3 i (by omega) (by omega)
  ·rintro ⟨h1, h2⟩;exact ⟨h2 0 (by omega) (by omega), by omega, fun i h h' => h2 (i + 1) (by omega) (by omega)⟩
theorem Zj3 {r : Zf} {ks : List Int} {l : List Zd} {i : Nat} (h : i < ks.length) (h' : i < l.length) (hp : Zx r ks[i] l[i] = false) : Zh r ks l = false := by
 rw [← Bool.not_eq_true, Zev];rintro ⟨_, h2⟩;have := h2 i h h';rw [hp] at this
 cases this
theorem Zk4 (r : Zf) (B : Nat) (cs : List Value) (F : Nat → Prop) (w : World) (kd tg sr : Int) (l : List Zd) (v vk : Value) (h : Z3 F w B r cs) (hr : Zo Zg 6 F w l v) :
  Calls Tryz.prog 150 #[.pointer (some ⟨B, 0, none⟩), .agg #[.int .i64 kd, .int .i64 tg, .int .i64 sr, v, vk]] w fun e w' => e = .returned (.bool (Zab r tg l)) ∧ Below w.heap.size w w' := by
 obtain ⟨R, hR⟩ : ∃ R, Zab r tg l = R := ⟨_, rfl⟩;rw [hR];have HR := zh hR;clear hR;obtain ⟨A, c, rfl, hc, hcm, _⟩ := id hr;unfold maxLen at hcm;have hl1 := (Za.refl w).alloc (.cells #[.int .i64 kd, .int .i64 tg, .int .i64 sr, .slice A l.length c, vk] 94);have HS := zh (h.later hl1);have HRW := zh (hr.later Zc hl1);have HM := zh (heap_alloc_new w (.cells #[.int .i64 kd, .int .i64 tg, .int .i64 sr, .slice A l.length c, vk] 94));have HB := zh hl1;obtain ⟨w1, hw1⟩ : ∃ x, x = w.alloc (.cells #[.int .i64 kd, .int .i64 tg, .int .i64 sr, .slice A l.length c, vk] 94) := ⟨_, rfl⟩;have hsz : w.heap.size < w1.heap.size := by rw [hw1]; simp
 have HI := zh (Zhk tg w1);rw [← hw1] at HS HRW HM HB;clear h hr hl1;go_enter Tryz.func150, Tryz.ntmps150;go_wp2_with fail;rw [← hw1];clear hw1;refine HI.o.mono ?_;rintro e w2 ⟨vk2, rfl, hks, hl2⟩;obtain ⟨A2, c2, rfl, hc2, hcm2, _⟩ := id hks;unfold maxLen at hcm2;obtain ⟨ks, hkk⟩ : ∃ ks, Zar tg = ks := ⟨_, rfl⟩;rw [hkk] at hks hc2 ⊢;have HKK := zh hkk;have HKS := zh hks;replace HS := zh (HS.o.later hl2);replace HRW := zh (HRW.o.later Zc hl2);replace HM := zh ((hl2.block _ hsz).trans HM.o);replace HB := zh (HB.o.trans hl2);clear hl2 hkk hks HI hsz;have m1 := cq HM.o 1;have m3 := cq HM.o 3;simp only [nD, nE, nF] at m1 m3;have HR2 := zh (show R = (decide (1 ≤ tg) && (decide (tg ≤ 23) && Zh r ks l)) by rw [← HR.o, ← HKK.o]; rfl)
 by_cases hn : ks.length = l.length
 ·have t1 : ((ks.length : Int) != (l.length : Int)) = false := by rw [hn]; simp
  have HN := zh hn;clear hn
  by_cases h1 : tg < 1
  ·have t2 : decide (tg < 1) = true := decide_eq_true h1;have hR0 : R = false := by rw [HR2.o, decide_eq_false (by omega)]; rfl
   subst hR0;go_wp2_with fail;go_ret;exact ⟨rfl, HB.o⟩
  ·have t2 : decide (tg < 1) = false := decide_eq_false h1
   by_cases h23 : 23 < tg
   ·have t3 : decide (23 < tg) = true := decide_eq_true h23;have hR0 : R = false := by rw [HR2.o, decide_eq_false (p := tg ≤ 23) (by omega)]; simp
    subst hR0;go_wp2_with fail;go_ret;exact ⟨rfl, HB.o⟩
   ·have t3 : decide (23 < tg) = false := decide_eq_false h23;have HR3 := zh (show R = Zh r ks l by rw [HR2.o, decide_eq_true (by omega : 1 ≤ tg), decide_eq_true (by omega : tg ≤ 23)]; rfl);clear h1 h23;go_wp2_with fail;clear m1 m3 t1 t2 t3
    go_loopw [6] (fun i wr => ∃ j : Nat, i = .int .i64 j ∧ j ≤ ks.length ∧ Hd (∀ q (h : q < ks.length) (h' : q < l.length), q < j → Zx r ks[q] l[q] = true) ∧ Hd (Za w2 wr)) (fun i _ => ks.length - (intOf i).toNat)
    case atStart => exact ⟨0, rfl, Nat.zero_le _, zh (fun _ _ _ h => by omega), zh (Za.refl _)⟩
    case round =>
     obtain ⟨j, rfl, hj, HD, HL⟩ := hrel
     by_cases hlt : j < ks.length
     ·have hlt' : j < l.length := by rw [← HN.o]; exact hlt
      have t1 : decide ((j : Int) < ks.length) = true := decide_eq_true (by omega);obtain ⟨b, o, rfl, hb, hat, hel⟩ := (HRW.o.later Zc HL.o).vat hlt';obtain ⟨kb, ko, kcs, rfl, _, hkb, hke, hkc⟩ := (HKS.o.later Zsu HL.o).at__ hlt;obtain ⟨rfl, hk64⟩ := hke;have k0 := hkc 0 _ rfl;simp only [Nat.mul_one, Nat.add_zero] at k0;have HMW := zB HL HM;have m3 := cq HMW.o 3;simp only [nD, nE, nF] at m3;obtain ⟨y, hy⟩ : ∃ y, l[j] = y := ⟨_, rfl⟩;obtain ⟨k, hk⟩ : ∃ k, ks[j] = k := ⟨_, rfl⟩;rw [hy] at hat hel;rw [hk] at k0 hk64;have HY := zh hy;have HK := zh hk;have HEL := zh hel;obtain ⟨c0, c1, c2', c3, c4, c5⟩ := hat;clear hy hk hel;have HVN := zh (VAt.new wr y);have hl3 := (Za.refl wr).alloc (.cells #[.int .i64 y.kind, .int .i64 y.aH, .int .i64 y.index, .string y.text, .int .i64 y.set_.low, .int .i64 y.set_.high] 34);obtain ⟨p, hp⟩ : ∃ p, Zj r y = p := ⟨_, rfl⟩;have HH := zh (Zbr r B cs F _ y _ (HS.o.later (HL.o.trans hl3)) (Zc.keep HEL.o (fun _ h => h) (Ze.later hl3)));rw [hp] at HH;have HP := zh hp;have HL3 := zh (HL.o.trans hl3);clear hp;obtain ⟨V, hV⟩ : ∃ x, x = wr.alloc (.cells #[.int .i64 y.kind, .int .i64 y.aH, .int .i64 y.index, .string y.text, .int .i64 y.set_.low, .int .i64 y.set_.high] 34) := ⟨_, rfl⟩;have hVS : wr.heap.size < V.heap.size := by rw [hV]; simp
      have k1 := (hl3.cell ⟨kb, ko + j, none⟩ hkb).trans k0;have hkb1 : kb < V.heap.size := by omega
      rw [← hV] at HVN HH HL3 k1;clear k0 hl3 hkb;go_wp2_with fail;rw [← hV];clear hV m3 c0 c1 c2' c3 c4 c5;refine HH.o.mono ?_;rintro e V2 ⟨rfl, hl4⟩;have HV := zh (HVN.o.later hl4);have HLV := zh (HL3.o.trans hl4);have k0 := (Za.cell hl4 ⟨kb, ko + j, none⟩ hkb1).trans k1;have hKB : kb < V2.heap.size := Nat.lt_of_lt_of_le hkb1 hl4.size;have hVB : wr.heap.size < V2.heap.size := Nat.lt_of_lt_of_le hVS hl4.size;obtain ⟨z0, _, _, _, _, _⟩ := id HV.o;clear hl4 k1 hkb1 hVS
      cases p with
      | false =>
       have hR0 : R = false := by rw [HR3.o]; exact Zj3 hlt hlt' (by rw [HY.o, HK.o]; unfold Zx; rw [HP.o]; simp)
       subst hR0;go_wp2_with fail;go_ret;exact ⟨rfl, HB.o.trans HLV.o⟩
      | true =>
       obtain ⟨q, hq⟩ : ∃ q, Zx r k y = q := ⟨_, rfl⟩;have HQ := zh hq;have HQ2 := zh (show (if k = 13 then (y.kind == 13 || y.kind == 14) else y.kind == k) = q by rw [← hq]; unfold Zx; rw [HP.o]; simp);clear hq;have HD2 : q = true → Hd (∀ q (h : q < ks.length) (h' : q < l.length), q < j + 1 → Zx r ks[q] l[q] = true) := fun e => zh (fun q' h1 h2 h3 => by
        rcases Nat.lt_or_ge q' j with h4 | h4
        ·exact HD.o q' h1 h2 h4
        ·obtain rfl : q' = j := by omega
         rw [HY.o, HK.o, HQ.o, e])
       have hno : q = false → R = false := fun e => by rw [HR3.o]; exact Zj3 hlt hlt' (by rw [HY.o, HK.o, HQ.o, e])
       by_cases h13 : k = 13
       ·have u1 : (k == 13) = true := beq_iff_eq.2 h13;obtain ⟨p1, hp1⟩ : ∃ p, (y.kind == 13) = p := ⟨_, rfl⟩;obtain ⟨p2, hp2⟩ : ∃ p, (y.kind == 14) = p := ⟨_, rfl⟩;have n1 : (y.kind != 13) = !p1 := by rw [← hp1]; rfl
        have n2 : (y.kind != 14) = !p2 := by rw [← hp2]; rfl
        have HQ3 := zh (show q = (p1 || p2) by rw [← HQ2.o, if_pos h13, hp1, hp2]);clear hp1 hp2 h13
        cases p1 with
        | true =>
         simp only [Bool.not_true] at n1;have e1 : q = true := by rw [HQ3.o]; rfl
         have HD3 := HD2 e1;clear HD2 hno n2 e1 hVB;go_wp2_with fail
         go_roundw
         case rel => exact ⟨j + 1, by go_num, by omega, HD3, HLV⟩
         case measure => simp [intOf]; omega
        | false =>
         simp only [Bool.not_false] at n1
         cases p2 with
         | true =>
          simp only [Bool.not_true] at n2;have e1 : q = true := by rw [HQ3.o]; rfl
          have HD3 := HD2 e1;clear HD2 hno e1 hVB;go_wp2_with fail
          go_roundw
          case rel => exact ⟨j + 1, by go_num, by omega, HD3, HLV⟩
          case measure => simp [intOf]; omega
         | false =>
          simp only [Bool.not_false] at n2;have hR0 : R = false := hno (by rw [HQ3.o]; rfl);clear HD2 hno hVB;subst hR0;go_wp2_with fail;go_ret;exact ⟨rfl, HB.o.trans HLV.o⟩
       ·have u1 : (k == 13) = false := nH.2 h13;have HQ3 := zh (show (y.kind == k) = q by rw [← HQ2.o, if_neg h13]);have n1 : (y.kind != k) = !q := by rw [← HQ3.o]; rfl
        clear h13;go_upto_region 13 with (fail);refine Z4 (fun U hU => ?_);have hUL : Za V2 U := by rw [hU]; exact (Za.refl _).drew
        have HLU := zh (HLV.o.trans hUL);have hVU : wr.heap.size < U.heap.size := Nat.lt_of_lt_of_le hVB hUL.size;have hKU : kb < U.heap.size := Nat.lt_of_lt_of_le hKB hUL.size;have zu := (hUL.cell ⟨wr.heap.size, 0, none⟩ hVB).trans z0;have ku := (hUL.cell ⟨kb, ko + j, none⟩ hKB).trans k0;clear hU hUL hVB hKB z0 k0
        repeat go_big_quiet_step (fail)
        refine wpQuiet_nil ?_
        cases q with
        | true =>
         simp only [Bool.not_true] at n1;have HD3 := HD2 rfl;clear HD2 hno;go_wp2_with fail
         go_roundw
         case rel => exact ⟨j + 1, by go_num, by omega, HD3, HLU⟩
         case measure => simp [intOf]; omega
        | false =>
         simp only [Bool.not_false] at n1;have hR0 : R = false := hno rfl;clear HD2 hno;subst hR0;go_wp2_with fail;go_ret;exact ⟨rfl, HB.o.trans HLU.o⟩
     ·have t1 : decide ((j : Int) < ks.length) = false := decide_eq_false (by omega);have hR0 : R = true := by rw [HR3.o, Zev]; exact ⟨HN.o, fun i h h' => HD.o i h h' (by omega)⟩
      subst hR0;go_wp2_with fail;go_ret;exact ⟨rfl, HB.o.trans HL.o⟩
 ·have t1 : ((ks.length : Int) != (l.length : Int)) = true := bne_iff_ne.2 (by omega);have hR0 : R = false := by
   have : Zh r ks l = false := by rw [← Bool.not_eq_true, Zev]; rintro ⟨h1, _⟩; exact hn h1
   rw [HR2.o, this]; simp
  subst hR0;go_wp2_with fail;go_ret;exact ⟨rfl, HB.o⟩
end Go.Proofs.YtpmhelkiicigfaaGreatDoor
namespace Go.Proofs.YtpmhelkiicigfaaGreatDoor
open Go.RowKit
section
variable {P : Program} {ops : Array Oper} {Q : Exit → Act → World → Prop} {S : World → Prop}
/-- The state of the walk: S holds here and behind each operation that is not among the last ones. -/
def wpV (P : Program) (ops : Array Oper) (Q : Exit → Act → World → Prop) (L U : List Nat) (S : World → Prop) (fuel : Nat) (listed : Array Bool) (a : Act) (w : World) : Prop :=
 Zc7 P .any ops Q (Zjd L U) (Zkb U) S fuel listed a w
theorem Zey (L U : List Nat) (S : World → Prop) {id : Nat} {a : Act} {w : World} (hm : P.follows .mixedOrders = true)
  (h : ∀ w1, w1 = w.drew → wpV P ops Q L U S ops.size (Array.replicate ops.size false) a w1) : (Code.region id ops true).wp P Q a w :=
 wp_region_any hm (Zf1 _ _ _ _ (h w.drew rfl))
theorem Zon (i : Nat) (d : Option Tmp) {L U : List Nat} {oi : Oper} {v : Value} {fuel : Nat} {listed : Array Bool} {a : Act} {w : World} (hi : ops[i]? = some oi) (hd : oi.dst = d)
  (hB : Zl5 ops L listed i = true)
  (hQ : ∀ c a w, Q (.panic c) (a.put d v) w → Q (.panic c) a w)
  (hw : Region.wanted oi (yielded ops a.tmps) = true) (hS : S w) (hy : ∀ x, S x → (execOp a.eval oi).run P x = .ok (.value v) x)
  (h : wpV P ops Q L U S fuel (listed.setIfInBounds i true) (a.put d v) w) : wpV P ops Q L U S (fuel + 1) listed a w := by
 subst hd;simp only [Zl5, Bool.and_eq_true] at hB;obtain ⟨⟨⟨⟨hs, hf⟩, hr⟩, hc⟩, ht⟩ := hB;refine Zij hi (Region.noSelect_spec hs) hQ (fun j _ htj => ?_) fuel listed a w (Region.free_spec hi hf) (Zl0 hc) (by simpa using hr) (.inl ⟨hw, hy⟩) hS h;simp only [Zjd, Bool.or_eq_true] at htj
 rcases htj with h1 | h1
 ·exact .inr (List.all_eq_true.1 ht j (by simpa using h1))
 ·exact .inl h1
/-- Zon, what is always told alike left to Lean. -/
theorem tV (i d : Nat) {L U : List Nat} {oi : Oper} {v : Value} {fuel : Nat} {listed : Array Bool} {a : Act} {w : World} (hi : ops[i]? = some oi) (hd : oi.dst = some d) (hS : S w) (hy : ∀ x, S x → (execOp a.eval oi).run P x = .ok (.value v) x)
  (h : wpV P ops Q L U S fuel (listed.setIfInBounds i true) (a.put (some d) v) w) (hB : Zl5 ops L listed i = true := by kernel_rfl) (hQ : ∀ c a w, Q (.panic c) (a.put (some d) v) w → Q (.panic c) a w := by exact fun _ _ _ h => h) (hw : Region.wanted oi (yielded ops a.tmps) = true := by rfl) : wpV P ops Q L U S (fuel + 1) listed a w := Zon i (some d) hi hd hB hQ hw hS hy h
/-- The post of one operation that comes up alone. -/
def Zoo (Q : Exit → Act → World → Prop) (S : World → Prop) (K : Act → World → Prop) : Exit → Act → World → Prop
 | .normal, a', w' => S w' ∧ K a' w'
 | e, a', w' => Q e a' w'
theorem Zej (i : Nat) {L U : List Nat} {o : Oper} {fuel : Nat} {listed : Array Bool} {a : Act} {w : World} (hr : Region.ready .any ops listed = [i]) (hu : U.contains i = false) (ho : ops[i]? = some o)
  (h : wpList P ops (Zoo Q S (fun a' w' => wpV P ops Q L U S fuel (listed.setIfInBounds i true) a' w')) [o] a w) : wpV P ops Q L U S (fuel + 1) listed a w := by
 refine ⟨fun h0 => (by rw [hr] at h0; cases h0), fun j hj => ?_⟩;rw [hr] at hj;obtain rfl : j = i := by simpa using hj
 unfold wpList at h;unfold wpOp;rw [ho];have hK : ∀ a' w', wpList P ops (Zoo Q S (fun a' w' => wpV P ops Q L U S fuel (listed.setIfInBounds j true) a' w')) [] a' w' →
   (((Zjd L U j = false → S w') ∧ (Zkb U j = true → w' = w)) ∧ Zc7 P .any ops Q (Zjd L U) (Zkb U) S fuel (listed.setIfInBounds j true) a' w') := fun a' w' h' =>
  ⟨⟨fun _ => h'.1, fun h0 => (by unfold Zkb at h0; rw [hu] at h0; cases h0)⟩, h'.2⟩
 have hup : o.wp P a w (wpList P ops (Zoo Q S (fun a' w' => wpV P ops Q L U S fuel (listed.setIfInBounds j true) a' w')) []) (Zoo Q S (fun a' w' => wpV P ops Q L U S fuel (listed.setIfInBounds j true) a' w')) →
   o.wp P a w (wpList P ops (Zoo Q S (fun a' w' => wpV P ops Q L U S fuel (listed.setIfInBounds j true) a' w')) []) Q := fun h' => by
  unfold Oper.wp at *
  generalize (execOp a.eval o).run P w = r at *
  cases r with
  | ok n w' => cases n <;> exact h'
  | halt x w' => cases x <;> exact h'
 show if Region.wanted o (yielded ops a.tmps) = true then _ else _
 split
 ·rename_i hw;rw [if_pos hw] at h
  rcases h with h | ⟨h1, h2⟩
  ·exact .inl (Oper.wp_mono hK (hup h))
  ·exact .inr ⟨h1, h2⟩
 ·rename_i hw;rw [if_neg hw] at h;exact hK _ _ h
theorem Zfo {L U : List Nat} (os : List Oper) {n : Nat} {listed : Array Bool} {a : Act} {w : World} (hB : Zqt ops L U listed = true) (hn : L.length = n) (hos : L.map (ops[·]?) = os.map some)
  (h : wpList P ops Q os a w) : wpV P ops Q L U S n listed a w := by
 subst hn;simp only [Zqt, Bool.and_eq_true] at hB;exact Zje L L os listed a w hB.1 (fun i hi => ⟨by simpa using hi, by simpa using List.all_eq_true.1 hB.2 i hi⟩) hos h
end
end Go.Proofs.YtpmhelkiicigfaaGreatDoor
namespace Go.Proofs.YtpmhelkiicigfaaGreatDoor
open Go.RowKit
variable {P : Program} {ops : Array Oper} {Q : Exit → Act → World → Prop} {a : Act} {w : World} {rest : List Oper} {o : Oper}
end Go.Proofs.YtpmhelkiicigfaaGreatDoor
namespace Go.Proofs.YtpmhelkiicigfaaGreatDoor
open Go.RowKit
theorem Z3.made_ {F : Nat → Prop} {w : World} {B : Nat} {r : Zf} {cs : List Value} (h : Z3 F w B r cs) : w.cell? ⟨B, 12, none⟩ = some (.int .i64 r.made) := by
 obtain ⟨aL, aM, aN, aO, aP, aQ, aR, rfl, _⟩ := h.el;rw [cell_of_row _ B 12 _ _ _ h.blk]
 rfl
theorem Zf2 {r : Zf} {v : Zd} (h : Zj r v = true) (hk : v.kind = 2) : v.text.size ≤ 120 := by
 unfold Zj at h;rw [Bool.and_eq_true] at h;have h1 := h.1;unfold Zn at h1;rw [hk] at h1;simp at h1
 omega
theorem Zry {r : Zf} {v : Zd} (h : Zbn r v = true) (hk : v.kind = 2) : v.text.size ≤ 120 := by
 unfold Zbn at h;rw [Bool.and_eq_true] at h;exact Zf2 h.2 hk
theorem Zcs (n lo hi : Int) (w : World) : Calls Tryz.prog 84 #[.int .i64 n, .int .i64 lo, .int .i64 hi] w fun e w' => e = .returned (.bool (decide (lo ≤ n) && decide (n ≤ hi))) ∧ w' = w := by
 obtain ⟨p, hp⟩ : ∃ p, decide (lo ≤ n) = p := ⟨_, rfl⟩;obtain ⟨q, hq⟩ : ∃ p, decide (n ≤ hi) = p := ⟨_, rfl⟩;rw [hp, hq]
 cases p <;> cases q
 all_goals
  go_enter Tryz.func84, Tryz.ntmps84;go_wp2_with fail;go_ret;exact ⟨rfl, rfl⟩
theorem Z3.rec_ {F : Nat → Prop} {w : World} {r : Zf} {A : Option Addr} {c : Nat} (h : Zo Za1 3 F w r.aB (.slice A r.aB.length c)) {i : Nat} (hi : i < r.aB.length) :
  ∃ b o Af cf, A = some ⟨b, o, none⟩ ∧ b < w.heap.size ∧ w.cell? ⟨b, o + i * 3 + 1, none⟩ = some (.slice Af r.aB[i].fields.length cf) := by
 obtain ⟨A', c', e, _, _, hel⟩ := h;cases e;obtain ⟨b, o, cs, rfl, _, hb, hE, hc⟩ := hel i hi;obtain ⟨vf, rfl, _, h1, _⟩ := hE;obtain ⟨Af, cf, rfl, _⟩ := id h1;exact ⟨b, o, Af, cf, rfl, hb, hc 1 _ rfl⟩
end Go.Proofs.YtpmhelkiicigfaaGreatDoor
namespace Go.Proofs.YtpmhelkiicigfaaGreatDoor
open Go.RowKit Go.Maps
section
variable {P : Program}
theorem Zh0 {H : Type} {e : TypeId} (he : P.underlying e = some .bool) {v : Value} {z : DataW H × List MemPlace} (h : plainElem P e v = some z) : ∃ x, v = .bool x ∧ z = (.lit (.bool x), []) := by
 unfold plainElem at h;rw [he] at h
 split at h
 ·cases h; exact ⟨_, rfl, rfl⟩
 ·rename_i h2; cases h2
 ·rename_i h2; cases h2
 ·cases h
theorem Zf3 {H : Type} (w : World) {ops : Array Oper} {rest : List Oper} {o : Oper} {a : Act} {Q : Exit → Act → World → Prop}
  (hg : o.guard = none) (m x : Operand) (t : TypeId) (hop : o.op = Op.lookup t m x false)
  (k e : TypeId) (K : Keyed P k) (ht : P.underlying t = some (.map k e)) (he : P.underlying e = some .bool) (hz : (zeroValue e).run P w = .ok (.bool false) w) (b n : Nat) (D : DataW H)
  (hm : a.eval m = .map (some b)) (hown : w.ownsMap P k (plainElem P e) b n D) (key : Value) (kl : Lit) (hx : a.eval x = key) (hkey : keyOf P k key = some kl)
  (hK : ∀ c : Bool, D.atKey kl (.lit (.bool false)) = .lit (.bool c) → wpList P ops Q rest (a.put o.dst (.bool c)) w) :
  wpList P ops Q (o :: rest) a w := by
 refine wpList_plain hg fun K' hK' => ?_;obtain ⟨v, ps, hrun, hv⟩ := hown.lookup K ht hz (plainElem_bool he false) hkey;obtain ⟨c, rfl, hc⟩ := Zh0 he hv;simp only [Prod.mk.injEq] at hc;unfold Oper.wp;simp [execOp, hop, hm, hx, hrun, Result.andThen];exact hK' _ _ (hK c hc.1)
end
theorem Zvt : Keyed Tryz.prog 3 := int_keyed Tryz.underlying3
theorem Zwm (w : World) : (zeroValue 4).run Tryz.prog w = .ok (.bool false) w := by kernel_rfl
/-- The numbers of the first j aA that are not 0. -/
def Ze6 (l : List Zam) (j : Nat) (k : Int) : Bool := decide (k ≠ 0 ∧ ∃ q, ∃ h : q < l.length, q < j ∧ l[q].aI = k)
/-- Block b is the map that knows them. -/
def Zcj (w : World) (b : Nat) (l : List Zam) (j : Nat) : Prop :=
 ∃ (D : DataW Unit) (n : Nat), w.ownsMap Tryz.prog 3 (plainElem Tryz.prog 4) b n D ∧ n ≤ j ∧ Maps.IsMap D ∧ ∀ k : Int, Zy k → D.atKey (.int .i64 k) (.lit (.bool false)) = .lit (.bool (Ze6 l j k))
theorem Zcj.start (w : World) (l : List Zam) : Zcj (w.alloc (.map #[] 0)) w.heap.size l 0 :=
 ⟨.map [], 0, World.ownsMap_made _ _ _ _, Nat.le_refl _, ⟨[], rfl⟩, fun k _ => by
  have : Ze6 l 0 k = false := by unfold Ze6; rw [decide_eq_false]; rintro ⟨_, q, _, h, _⟩; omega
  rw [this]; rfl⟩
theorem Zcj.same {w x : World} {b : Nat} {l : List Zam} {j : Nat} (h : Zcj w b l j) (hb : x.heap[b]? = w.heap[b]?) : Zcj x b l j := by
 obtain ⟨D, n, ⟨es, clock, h1, h2⟩, h3⟩ := h;exact ⟨D, n, ⟨es, clock, hb.trans h1, h2⟩, h3⟩
theorem Zcj.lt {w : World} {b : Nat} {l : List Zam} {j : Nat} (h : Zcj w b l j) : b < w.heap.size := by
 obtain ⟨D, n, ⟨es, clock, h1, h2⟩, h3⟩ := h;exact Zb h1
theorem Zp4 {l : List Zam} {j : Nat} (hj : j < l.length) (h : l[j].aI = 0) (k : Int) : Ze6 l (j + 1) k = Ze6 l j k := by
 unfold Ze6;rw [decide_eq_decide]
 constructor
 ·rintro ⟨h0, q, hq, h1, h2⟩;refine ⟨h0, q, hq, ?_, h2⟩
  rcases Nat.lt_or_ge q j with h3 | h3
  ·exact h3
  ·obtain rfl : q = j := by omega
   omega
 ·rintro ⟨h0, q, hq, h1, h2⟩;exact ⟨h0, q, hq, by omega, h2⟩
theorem Zcj.zero {w : World} {b : Nat} {l : List Zam} {j : Nat} (h : Zcj w b l j) (hj : j < l.length) (h0 : l[j].aI = 0) : Zcj w b l (j + 1) := by
 obtain ⟨D, n, h1, h2, h3, h4⟩ := h;exact ⟨D, n, h1, by omega, h3, fun k hk => by rw [Zp4 hj h0]; exact h4 k hk⟩
theorem Zt1 {l : List Zam} {j : Nat} (hj : j < l.length) (h : l[j].aI ≠ 0) : Ze6 l (j + 1) l[j].aI = true := by
 unfold Ze6;rw [nJ];exact ⟨h, j, hj, by omega, rfl⟩
theorem Zop {l : List Zam} {j : Nat} (hj : j < l.length) {k : Int} (h : k ≠ l[j].aI) : Ze6 l (j + 1) k = Ze6 l j k := by
 unfold Ze6;rw [decide_eq_decide]
 constructor
 ·rintro ⟨h0, q, hq, h1, h2⟩;refine ⟨h0, q, hq, ?_, h2⟩
  rcases Nat.lt_or_ge q j with h3 | h3
  ·exact h3
  ·obtain rfl : q = j := by omega
   exact absurd h2.symm h
 ·rintro ⟨h0, q, hq, h1, h2⟩;exact ⟨h0, q, hq, by omega, h2⟩
theorem Zwn {k : Int} (h : Zy k) : (Lit.int .i64 k).wf = true := by
 unfold Zy at h;have h1 : IntKind.i64.min = -9223372036854775808 := by decide
 have h2 : IntKind.i64.max = 9223372036854775807 := by decide
 simp [Lit.wf]
 omega
theorem Zcj.look {w : World} {b : Nat} {l : List Zam} {j : Nat} (h : Zcj w b l j) {k : Int} (hk : Zy k) {ops : Array Oper} {rest : List Oper} {o : Oper} {a : Act} {Q : Exit → Act → World → Prop}
  (hg : o.guard = none) (m x : Operand) (hop : o.op = Op.lookup 92 m x false) (hm : a.eval m = .map (some b)) (hx : a.eval x = .int .i64 k)
  (hK : wpList Tryz.prog ops Q rest (a.put o.dst (.bool (Ze6 l j k))) w) : wpList Tryz.prog ops Q (o :: rest) a w := by
 obtain ⟨D, n, h1, h2, h3, h4⟩ := h;refine Zf3 w hg m x 92 hop 3 4 Zvt Tryz.underlying92 Tryz.underlying4 (Zwm _) b n D hm h1 _ (.int .i64 k) hx (keyOf_int_mk Tryz.underlying3 (Zwn hk)) ?_;intro c hc;rw [h4 k hk] at hc
 cases hc
 exact hK
theorem Zcj.store {w : World} {b : Nat} {l : List Zam} {j : Nat} (h : Zcj w b l j) (hj : j < l.length) (hk : Zy l[j].aI) (h0 : l[j].aI ≠ 0) (hn : j ≤ 1048576) {ops : Array Oper} {rest : List Oper} {o : Oper} {a : Act} {Q : Exit → Act → World → Prop}
  (hg : o.guard = none) (m x v : Operand) (hop : o.op = Op.mapUpdate 92 m x v) (hm : a.eval m = .map (some b)) (hx : a.eval x = .int .i64 l[j].aI) (hv : a.eval v = .bool true)
  (hK : ∀ w', Zcj w' b l (j + 1) → w.grownBy w' (some b) → wpList Tryz.prog ops Q rest (a.put o.dst undef) w') : wpList Tryz.prog ops Q (o :: rest) a w := by
 obtain ⟨D, n, h1, h2, h3, h4⟩ := h;have hkey : keyOf Tryz.prog 3 (.int .i64 l[j].aI) = some (.int .i64 l[j].aI) := keyOf_int_mk Tryz.underlying3 (Zwn hk);refine wpList_mapUpdate_own w hg m x v 92 hop 3 4 Zvt Tryz.underlying92 _ b n D hm h1 (by unfold maxLen; omega) _ _ (.int .i64 l[j].aI) hx hv hkey (.lit (.bool true)) [] (plainElem_bool Tryz.underlying4 true) ?_;intro w' hw hgr;refine hK w' ⟨_, _, hw, by omega, ?_, fun k hk2 => ?_⟩ hgr
 ·obtain ⟨es, rfl⟩ := h3;exact ⟨_, rfl⟩
 ·by_cases e : k = l[j].aI
  ·subst e;rw [atKey_put_same h3 (Zvt.key hkey), Zt1 hj h0]
  ·rw [atKey_put_other (by intro h; cases h; exact e rfl), Zop hj e];exact h4 k hk2
end Go.Proofs.YtpmhelkiicigfaaGreatDoor
namespace Go.Proofs.YtpmhelkiicigfaaGreatDoor
open Go.RowKit
theorem Zvu (r : Zf) (B : Nat) (cs : List Value) (F : Nat → Prop) (w : World) (tag aI : Int) (aJ aK : List Zd) (vi vk : Value) (h : Z3 F w B r cs) (hi : Zo Zg 6 F w aJ vi) (hk : Zo Zg 6 F w aK vk) (hkz : aK.length ≤ 1048576) :
  Calls Tryz.prog 51 #[.pointer (some ⟨B, 0, none⟩), .agg #[.int .i64 1, .int .i64 tag, .int .i64 aI, vi, vk]] w fun e w' => e = .returned (.bool (Zai r ⟨1, tag, aI, aJ, aK⟩)) ∧ Below w.heap.size w w' := by
 obtain ⟨R, hR⟩ : ∃ R, Zai r ⟨1, tag, aI, aJ, aK⟩ = R := ⟨_, rfl⟩;rw [hR];have HR0 := zh hR;clear hR;obtain ⟨Ai, ci, rfl, hci, hcmi, _⟩ := id hi;obtain ⟨Ak, ck, rfl, hck, hcmk, _⟩ := id hk;unfold maxLen at hcmi hcmk;have hl1 := (Za.refl w).alloc (.cells #[.int .i64 1, .int .i64 tag, .int .i64 aI, .slice Ai aJ.length ci, .slice Ak aK.length ck] 94);have HS := zh (h.later hl1);have HI := zh (hi.later Zc hl1);have HK := zh (hk.later Zc hl1);have HM := zh (heap_alloc_new w (.cells #[.int .i64 1, .int .i64 tag, .int .i64 aI, .slice Ai aJ.length ci, .slice Ak aK.length ck] 94));have HB := zh hl1;obtain ⟨w1, hw1⟩ : ∃ x, x = w.alloc (.cells #[.int .i64 1, .int .i64 tag, .int .i64 aI, .slice Ai aJ.length ci, .slice Ak aK.length ck] 94) := ⟨_, rfl⟩;rw [← hw1] at HS HI HK HM HB;have HLC := zh (Za.refl w1);clear h hi hk hl1;obtain ⟨s0, hs0⟩ : ∃ q, (aI == 0) = q := ⟨_, rfl⟩;have W0s0 : (aI != 0) = !s0 := by rw [← hs0]; exact (by rw [Bool.eq_iff_iff]; simp only [nJ, nK, nL, ne_eq, nM, nI, nH] <;> omega)
 obtain ⟨tg, htg⟩ : ∃ q, (tag == 0) = q := ⟨_, rfl⟩;have W0tg : (tag != 0) = !tg := by rw [← htg]; exact (by rw [Bool.eq_iff_iff]; simp only [nJ, nK, nL, ne_eq, nM, nI, nH] <;> omega)
 have W1tg : (tag == 0) = tg := htg;obtain ⟨ky, hky⟩ : ∃ q, (decide (aK.length = 0)) = q := ⟨_, rfl⟩;have W0ky : ((aK.length : Int) != 0) = !ky := by rw [← hky]; exact (by rw [Bool.eq_iff_iff]; simp only [nJ, nK, nL, ne_eq, nM, nI, nH] <;> omega)
 have W1ky : ((aK.length : Int) == 0) = ky := by rw [← hky]; exact (by rw [Bool.eq_iff_iff]; simp only [nJ, nK, nL, ne_eq, nM, nI, nH] <;> omega)
 obtain ⟨b1, hb1⟩ : ∃ q, (decide (aJ.length ≤ 24)) = q := ⟨_, rfl⟩;have W0b1 : (decide ((aJ.length : Int) ≤ 24)) = b1 := by rw [← hb1]; exact (by rw [Bool.eq_iff_iff]; simp only [nJ, nK, nL, ne_eq, nM, nI, nH] <;> omega)
 obtain ⟨ai, hai⟩ : ∃ q, (Zao r aJ) = q := ⟨_, rfl⟩;have HR := zh (show R = (s0 && (tg && (ky && (b1 && (ai))))) by rw [← HR0.o, ← hs0, ← htg, ← hky, ← hb1, ← hai]; try rfl);have Hs0 := zh hs0;clear hs0;have Htg := zh htg;clear htg;have Hky := zh hky;clear hky;have Hb1 := zh hb1;clear hb1;have Hai := zh hai;clear hai;go_enter Tryz.func51, Tryz.ntmps51;go_upto_region 2 with (fail);rw [← hw1];clear hw1
 cases s0 with
 | false =>
  simp only [Bool.not_false] at W0s0;refine Z4 (fun W hW => ?_);have hWL : Za w1 W := by rw [hW]; exact (Za.refl _).drew
  clear hW;replace HLC := zh (HLC.o.trans hWL);clear hWL;have HMC := zB HLC HM;have m0 := cz5 HMC.o;have y12 := (HS.o.later HLC.o).made_;have hMB := Zb HMC.o;have hSB := (HS.o.later HLC.o).lt
  repeat go_big_quiet_step (fail)
  refine wpQuiet_nil ?_;have hR0 : R = false := by rw [HR.o]; simp
  subst hR0;go_wp2_with fail;go_ret;exact ⟨rfl, HB.o.trans HLC.o⟩
 | true =>
  simp only [Bool.not_true] at W0s0;refine Z4 (fun V hV => ?_);have hVL : Za w1 V := by rw [hV]; exact (Za.refl _).drew
  clear hV;replace HLC := zh (HLC.o.trans hVL);clear hVL;have HMC := zB HLC HM;have m0 := cz5 HMC.o;have y12 := (HS.o.later HLC.o).made_;have hMB := Zb HMC.o;have hSB := (HS.o.later HLC.o).lt
  repeat go_big_quiet_step (fail)
  refine wpQuiet_nil ?_;clear y12 hMB hSB;go_upto_region 10 with (fail)
  cases b1 with
  | false =>
   go_upto_region 32 with (fail)
   cases tg with
   | false =>
    have hR0 : R = false := by rw [HR.o]; simp
    subst hR0;go_wp2_with fail;go_ret;exact ⟨rfl, HB.o.trans HLC.o⟩
   | true =>
    cases ky with
    | false =>
     have hR0 : R = false := by rw [HR.o]; simp
     subst hR0;go_wp2_with fail;go_ret;exact ⟨rfl, HB.o.trans HLC.o⟩
    | true =>
     have hR0 : R = false := by rw [HR.o]; simp
     subst hR0;go_wp2_with fail;go_ret;exact ⟨rfl, HB.o.trans HLC.o⟩
  | true =>
   go_wp2_with fail;refine (Zbj r B cs F _ aJ _ (HS.o.later HLC.o) (HI.o.later Zc HLC.o)).mono ?_;rw [Hai.o];rintro e w5 ⟨rfl, hcl⟩;clear HMC m0;replace HLC := zh (HLC.o.trans hcl);clear hcl;go_upto_region 32 with (fail)
   cases tg with
   | false =>
    have hR0 : R = false := by rw [HR.o]; simp
    subst hR0;go_wp2_with fail;go_ret;exact ⟨rfl, HB.o.trans HLC.o⟩
   | true =>
    cases ky with
    | false =>
     have hR0 : R = false := by rw [HR.o]; simp
     subst hR0;go_wp2_with fail;go_ret;exact ⟨rfl, HB.o.trans HLC.o⟩
    | true =>
     cases ai with
     | false =>
      have hR0 : R = false := by rw [HR.o]; simp
      subst hR0;go_wp2_with fail;go_ret;exact ⟨rfl, HB.o.trans HLC.o⟩
     | true =>
      have hR0 : R = true := by rw [HR.o]; simp
      subst hR0;go_wp2_with fail;go_ret;exact ⟨rfl, HB.o.trans HLC.o⟩
theorem Zvv (r : Zf) (B : Nat) (cs : List Value) (F : Nat → Prop) (w : World) (tag aI : Int) (aJ aK : List Zd) (vi vk : Value) (h : Z3 F w B r cs) (hi : Zo Zg 6 F w aJ vi) (hk : Zo Zg 6 F w aK vk) (hkz : aK.length ≤ 1048576) :
  Calls Tryz.prog 51 #[.pointer (some ⟨B, 0, none⟩), .agg #[.int .i64 2, .int .i64 tag, .int .i64 aI, vi, vk]] w fun e w' => e = .returned (.bool (Zai r ⟨2, tag, aI, aJ, aK⟩)) ∧ Below w.heap.size w w' := by
 obtain ⟨R, hR⟩ : ∃ R, Zai r ⟨2, tag, aI, aJ, aK⟩ = R := ⟨_, rfl⟩;rw [hR];have HR0 := zh hR;clear hR;obtain ⟨Ai, ci, rfl, hci, hcmi, _⟩ := id hi;obtain ⟨Ak, ck, rfl, hck, hcmk, _⟩ := id hk;unfold maxLen at hcmi hcmk;have hl1 := (Za.refl w).alloc (.cells #[.int .i64 2, .int .i64 tag, .int .i64 aI, .slice Ai aJ.length ci, .slice Ak aK.length ck] 94);have HS := zh (h.later hl1);have HI := zh (hi.later Zc hl1);have HK := zh (hk.later Zc hl1);have HM := zh (heap_alloc_new w (.cells #[.int .i64 2, .int .i64 tag, .int .i64 aI, .slice Ai aJ.length ci, .slice Ak aK.length ck] 94));have HB := zh hl1;obtain ⟨w1, hw1⟩ : ∃ x, x = w.alloc (.cells #[.int .i64 2, .int .i64 tag, .int .i64 aI, .slice Ai aJ.length ci, .slice Ak aK.length ck] 94) := ⟨_, rfl⟩;rw [← hw1] at HS HI HK HM HB;have HLC := zh (Za.refl w1);clear h hi hk hl1;obtain ⟨s1, hs1⟩ : ∃ q, (decide (1 ≤ aI)) = q := ⟨_, rfl⟩;have W0s1 : (decide (aI < 1)) = !s1 := by rw [← hs1]; exact (by rw [Bool.eq_iff_iff]; simp only [nJ, nK, nL, ne_eq, nM, nI, nH] <;> omega)
 obtain ⟨s2, hs2⟩ : ∃ q, (decide (aI ≤ r.made)) = q := ⟨_, rfl⟩;have W0s2 : (decide (r.made < aI)) = !s2 := by rw [← hs2]; exact (by rw [Bool.eq_iff_iff]; simp only [nJ, nK, nL, ne_eq, nM, nI, nH] <;> omega)
 obtain ⟨tg, htg⟩ : ∃ q, (tag == 0) = q := ⟨_, rfl⟩;have W0tg : (tag != 0) = !tg := by rw [← htg]; exact (by rw [Bool.eq_iff_iff]; simp only [nJ, nK, nL, ne_eq, nM, nI, nH] <;> omega)
 have W1tg : (tag == 0) = tg := htg;obtain ⟨ky, hky⟩ : ∃ q, (decide (aK.length = 0)) = q := ⟨_, rfl⟩;have W0ky : ((aK.length : Int) != 0) = !ky := by rw [← hky]; exact (by rw [Bool.eq_iff_iff]; simp only [nJ, nK, nL, ne_eq, nM, nI, nH] <;> omega)
 have W1ky : ((aK.length : Int) == 0) = ky := by rw [← hky]; exact (by rw [Bool.eq_iff_iff]; simp only [nJ, nK, nL, ne_eq, nM, nI, nH] <;> omega)
 obtain ⟨b1, hb1⟩ : ∃ q, (decide (aJ.length ≤ 40)) = q := ⟨_, rfl⟩;have W0b1 : (decide ((aJ.length : Int) ≤ 40)) = b1 := by rw [← hb1]; exact (by rw [Bool.eq_iff_iff]; simp only [nJ, nK, nL, ne_eq, nM, nI, nH] <;> omega)
 obtain ⟨ai, hai⟩ : ∃ q, (Zao r aJ) = q := ⟨_, rfl⟩;have HR := zh (show R = ((s1 && s2) && (tg && (ky && (b1 && (ai))))) by rw [← HR0.o, ← hs1, ← hs2, ← htg, ← hky, ← hb1, ← hai]; try rfl);have Hs1 := zh hs1;clear hs1;have Hs2 := zh hs2;clear hs2;have Htg := zh htg;clear htg;have Hky := zh hky;clear hky;have Hb1 := zh hb1;clear hb1;have Hai := zh hai;clear hai;go_enter Tryz.func51, Tryz.ntmps51;go_upto_region 2 with (fail);rw [← hw1];clear hw1
 cases s1 with
 | false =>
  simp only [Bool.not_false] at W0s1;refine Z4 (fun W hW => ?_);have hWL : Za w1 W := by rw [hW]; exact (Za.refl _).drew
  clear hW;replace HLC := zh (HLC.o.trans hWL);clear hWL;have HMC := zB HLC HM;have m0 := cz5 HMC.o;have y12 := (HS.o.later HLC.o).made_;have hMB := Zb HMC.o;have hSB := (HS.o.later HLC.o).lt
  repeat go_big_quiet_step (fail)
  refine wpQuiet_nil ?_;have hR0 : R = false := by rw [HR.o]; simp
  subst hR0;go_wp2_with fail;go_ret;exact ⟨rfl, HB.o.trans HLC.o⟩
 | true =>
  simp only [Bool.not_true] at W0s1
  cases s2 with
  | false =>
   simp only [Bool.not_false] at W0s2;refine Z4 (fun W hW => ?_);have hWL : Za w1 W := by rw [hW]; exact (Za.refl _).drew
   clear hW;replace HLC := zh (HLC.o.trans hWL);clear hWL;have HMC := zB HLC HM;have m0 := cz5 HMC.o;have y12 := (HS.o.later HLC.o).made_;have hMB := Zb HMC.o;have hSB := (HS.o.later HLC.o).lt
   repeat go_big_quiet_step (fail)
   refine wpQuiet_nil ?_;have hR0 : R = false := by rw [HR.o]; simp
   subst hR0;go_wp2_with fail;go_ret;exact ⟨rfl, HB.o.trans HLC.o⟩
  | true =>
   simp only [Bool.not_true] at W0s2;refine Z4 (fun V hV => ?_);have hVL : Za w1 V := by rw [hV]; exact (Za.refl _).drew
   clear hV;replace HLC := zh (HLC.o.trans hVL);clear hVL;have HMC := zB HLC HM;have m0 := cz5 HMC.o;have y12 := (HS.o.later HLC.o).made_;have hMB := Zb HMC.o;have hSB := (HS.o.later HLC.o).lt
   repeat go_big_quiet_step (fail)
   refine wpQuiet_nil ?_;clear y12 hMB hSB;go_upto_region 12 with (fail)
   cases b1 with
   | false =>
    go_upto_region 32 with (fail)
    cases tg with
    | false =>
     have hR0 : R = false := by rw [HR.o]; simp
     subst hR0;go_wp2_with fail;go_ret;exact ⟨rfl, HB.o.trans HLC.o⟩
    | true =>
     cases ky with
     | false =>
      have hR0 : R = false := by rw [HR.o]; simp
      subst hR0;go_wp2_with fail;go_ret;exact ⟨rfl, HB.o.trans HLC.o⟩
     | true =>
      have hR0 : R = false := by rw [HR.o]; simp
      subst hR0;go_wp2_with fail;go_ret;exact ⟨rfl, HB.o.trans HLC.o⟩
   | true =>
    go_wp2_with fail;refine (Zbj r B cs F _ aJ _ (HS.o.later HLC.o) (HI.o.later Zc HLC.o)).mono ?_;rw [Hai.o];rintro e w5 ⟨rfl, hcl⟩;clear HMC m0;replace HLC := zh (HLC.o.trans hcl);clear hcl;go_upto_region 32 with (fail)
    cases tg with
    | false =>
     have hR0 : R = false := by rw [HR.o]; simp
     subst hR0;go_wp2_with fail;go_ret;exact ⟨rfl, HB.o.trans HLC.o⟩
    | true =>
     cases ky with
     | false =>
      have hR0 : R = false := by rw [HR.o]; simp
      subst hR0;go_wp2_with fail;go_ret;exact ⟨rfl, HB.o.trans HLC.o⟩
     | true =>
      cases ai with
      | false =>
       have hR0 : R = false := by rw [HR.o]; simp
       subst hR0;go_wp2_with fail;go_ret;exact ⟨rfl, HB.o.trans HLC.o⟩
      | true =>
       have hR0 : R = true := by rw [HR.o]; simp
       subst hR0;go_wp2_with fail;go_ret;exact ⟨rfl, HB.o.trans HLC.o⟩
theorem Zvw (r : Zf) (B : Nat) (cs : List Value) (F : Nat → Prop) (w : World) (tag aI : Int) (aJ aK : List Zd) (vi vk : Value) (h : Z3 F w B r cs) (hi : Zo Zg 6 F w aJ vi) (hk : Zo Zg 6 F w aK vk) (hkz : aK.length ≤ 1048576) :
  Calls Tryz.prog 51 #[.pointer (some ⟨B, 0, none⟩), .agg #[.int .i64 3, .int .i64 tag, .int .i64 aI, vi, vk]] w fun e w' => e = .returned (.bool (Zai r ⟨3, tag, aI, aJ, aK⟩)) ∧ Below w.heap.size w w' := by
 obtain ⟨R, hR⟩ : ∃ R, Zai r ⟨3, tag, aI, aJ, aK⟩ = R := ⟨_, rfl⟩;rw [hR];have HR0 := zh hR;clear hR;obtain ⟨Ai, ci, rfl, hci, hcmi, _⟩ := id hi;obtain ⟨Ak, ck, rfl, hck, hcmk, _⟩ := id hk;unfold maxLen at hcmi hcmk;have hl1 := (Za.refl w).alloc (.cells #[.int .i64 3, .int .i64 tag, .int .i64 aI, .slice Ai aJ.length ci, .slice Ak aK.length ck] 94);have HS := zh (h.later hl1);have HI := zh (hi.later Zc hl1);have HK := zh (hk.later Zc hl1);have HM := zh (heap_alloc_new w (.cells #[.int .i64 3, .int .i64 tag, .int .i64 aI, .slice Ai aJ.length ci, .slice Ak aK.length ck] 94));have HB := zh hl1;obtain ⟨w1, hw1⟩ : ∃ x, x = w.alloc (.cells #[.int .i64 3, .int .i64 tag, .int .i64 aI, .slice Ai aJ.length ci, .slice Ak aK.length ck] 94) := ⟨_, rfl⟩;rw [← hw1] at HS HI HK HM HB;have HLC := zh (Za.refl w1);clear h hi hk hl1;obtain ⟨s1, hs1⟩ : ∃ q, (decide (1 ≤ aI)) = q := ⟨_, rfl⟩;have W0s1 : (decide (aI < 1)) = !s1 := by rw [← hs1]; exact (by rw [Bool.eq_iff_iff]; simp only [nJ, nK, nL, ne_eq, nM, nI, nH] <;> omega)
 obtain ⟨s2, hs2⟩ : ∃ q, (decide (aI ≤ r.made)) = q := ⟨_, rfl⟩;have W0s2 : (decide (r.made < aI)) = !s2 := by rw [← hs2]; exact (by rw [Bool.eq_iff_iff]; simp only [nJ, nK, nL, ne_eq, nM, nI, nH] <;> omega)
 obtain ⟨tg, htg⟩ : ∃ q, (tag == 0) = q := ⟨_, rfl⟩;have W0tg : (tag != 0) = !tg := by rw [← htg]; exact (by rw [Bool.eq_iff_iff]; simp only [nJ, nK, nL, ne_eq, nM, nI, nH] <;> omega)
 have W1tg : (tag == 0) = tg := htg;obtain ⟨b1, hb1⟩ : ∃ q, (decide (aK.length ≤ 40)) = q := ⟨_, rfl⟩;have W0b1 : (decide ((aK.length : Int) ≤ 40)) = b1 := by rw [← hb1]; exact (by rw [Bool.eq_iff_iff]; simp only [nJ, nK, nL, ne_eq, nM, nI, nH] <;> omega)
 obtain ⟨b2, hb2⟩ : ∃ q, (decide (aJ.length = aK.length + 1)) = q := ⟨_, rfl⟩;have W0b2 : ((aJ.length : Int) == (aK.length : Int) + 1) = b2 := by rw [← hb2]; exact (by rw [Bool.eq_iff_iff]; simp only [nJ, nK, nL, ne_eq, nM, nI, nH] <;> omega)
 have W1b2 : ((aJ.length : Int) == 1 + (aK.length : Int)) = b2 := by rw [← hb2]; exact (by rw [Bool.eq_iff_iff]; simp only [nJ, nK, nL, ne_eq, nM, nI, nH] <;> omega)
 obtain ⟨ai, hai⟩ : ∃ q, (Zao r aJ) = q := ⟨_, rfl⟩;obtain ⟨ak, hak⟩ : ∃ q, (Zao r aK) = q := ⟨_, rfl⟩;obtain ⟨di, hdi⟩ : ∃ q, (Zb0 aK) = q := ⟨_, rfl⟩;have HR := zh (show R = ((s1 && s2) && (tg && (b1 && (b2 && (ai && (ak && (di))))))) by rw [← HR0.o, ← hs1, ← hs2, ← htg, ← hb1, ← hb2, ← hai, ← hak, ← hdi]; try rfl);have Hs1 := zh hs1;clear hs1;have Hs2 := zh hs2;clear hs2;have Htg := zh htg;clear htg;have Hb1 := zh hb1;clear hb1;have Hb2 := zh hb2;clear hb2;have Hai := zh hai;clear hai;have Hak := zh hak;clear hak;have Hdi := zh hdi;clear hdi;obtain ⟨kz, hkz⟩ : ∃ q, ((aK.length : Int) == 0) = q := ⟨_, rfl⟩;go_enter Tryz.func51, Tryz.ntmps51;go_upto_region 2 with (fail);rw [← hw1];clear hw1
 cases s1 with
 | false =>
  simp only [Bool.not_false] at W0s1;refine Z4 (fun W hW => ?_);have hWL : Za w1 W := by rw [hW]; exact (Za.refl _).drew
  clear hW;replace HLC := zh (HLC.o.trans hWL);clear hWL;have HMC := zB HLC HM;have m0 := cz5 HMC.o;have y12 := (HS.o.later HLC.o).made_;have hMB := Zb HMC.o;have hSB := (HS.o.later HLC.o).lt
  repeat go_big_quiet_step (fail)
  refine wpQuiet_nil ?_;have hR0 : R = false := by rw [HR.o]; simp
  subst hR0;go_wp2_with fail;go_ret;exact ⟨rfl, HB.o.trans HLC.o⟩
 | true =>
  simp only [Bool.not_true] at W0s1
  cases s2 with
  | false =>
   simp only [Bool.not_false] at W0s2;refine Z4 (fun W hW => ?_);have hWL : Za w1 W := by rw [hW]; exact (Za.refl _).drew
   clear hW;replace HLC := zh (HLC.o.trans hWL);clear hWL;have HMC := zB HLC HM;have m0 := cz5 HMC.o;have y12 := (HS.o.later HLC.o).made_;have hMB := Zb HMC.o;have hSB := (HS.o.later HLC.o).lt
   repeat go_big_quiet_step (fail)
   refine wpQuiet_nil ?_;have hR0 : R = false := by rw [HR.o]; simp
   subst hR0;go_wp2_with fail;go_ret;exact ⟨rfl, HB.o.trans HLC.o⟩
  | true =>
   simp only [Bool.not_true] at W0s2;refine Z4 (fun V hV => ?_);have hVL : Za w1 V := by rw [hV]; exact (Za.refl _).drew
   clear hV;replace HLC := zh (HLC.o.trans hVL);clear hVL;have HMC := zB HLC HM;have m0 := cz5 HMC.o;have y12 := (HS.o.later HLC.o).made_;have hMB := Zb HMC.o;have hSB := (HS.o.later HLC.o).lt
   repeat go_big_quiet_step (fail)
   refine wpQuiet_nil ?_;clear y12 hMB hSB;go_upto_region 14 with (fail)
   cases b1 with
   | false =>
    go_upto_region 15 with (fail)
    cases b2 with
    | false =>
     go_upto_region 32 with (fail)
     cases tg with
     | false =>
      have hR0 : R = false := by rw [HR.o]; simp
      subst hR0;go_wp2_with fail;go_ret;exact ⟨rfl, HB.o.trans HLC.o⟩
     | true =>
      have hR0 : R = false := by rw [HR.o]; simp
      subst hR0;go_wp2_with fail;go_ret;exact ⟨rfl, HB.o.trans HLC.o⟩
    | true =>
     go_wp2_with fail;refine (Zbj r B cs F _ aJ _ (HS.o.later HLC.o) (HI.o.later Zc HLC.o)).mono ?_;rw [Hai.o];rintro e w9 ⟨rfl, hcl⟩;clear HMC m0;replace HLC := zh (HLC.o.trans hcl);clear hcl;go_upto_region 32 with (fail)
     cases tg with
     | false =>
      have hR0 : R = false := by rw [HR.o]; simp
      subst hR0;go_wp2_with fail;go_ret;exact ⟨rfl, HB.o.trans HLC.o⟩
     | true =>
      cases ai with
      | false =>
       have hR0 : R = false := by rw [HR.o]; simp
       subst hR0;go_wp2_with fail;go_ret;exact ⟨rfl, HB.o.trans HLC.o⟩
      | true =>
       have hR0 : R = false := by rw [HR.o]; simp
       subst hR0;go_wp2_with fail;go_ret;exact ⟨rfl, HB.o.trans HLC.o⟩
   | true =>
    go_wp2_with fail;refine (Ze5 aK _ F _ (HK.o.later Zc HLC.o)).mono ?_;rw [Hdi.o];rintro e w5 ⟨rfl, hcl⟩;clear HMC m0;replace HLC := zh (HLC.o.trans hcl);clear hcl;have HMC := zB HLC HM;have m0 := cz5 HMC.o
    cases di with
    | false =>
     go_upto_region 15 with (fail)
     cases b2 with
     | false =>
      go_upto_region 32 with (fail)
      cases tg with
      | false =>
       have hR0 : R = false := by rw [HR.o]; simp
       subst hR0;go_wp2_with fail;go_ret;exact ⟨rfl, HB.o.trans HLC.o⟩
      | true =>
       have hR0 : R = false := by rw [HR.o]; simp
       subst hR0;go_wp2_with fail;go_ret;exact ⟨rfl, HB.o.trans HLC.o⟩
     | true =>
      go_wp2_with fail;refine (Zbj r B cs F _ aJ _ (HS.o.later HLC.o) (HI.o.later Zc HLC.o)).mono ?_;rw [Hai.o];rintro e w9 ⟨rfl, hcl⟩;clear HMC m0;replace HLC := zh (HLC.o.trans hcl);clear hcl;go_upto_region 32 with (fail)
      cases tg with
      | false =>
       have hR0 : R = false := by rw [HR.o]; simp
       subst hR0;go_wp2_with fail;go_ret;exact ⟨rfl, HB.o.trans HLC.o⟩
      | true =>
       cases ai with
       | false =>
        have hR0 : R = false := by rw [HR.o]; simp
        subst hR0;go_wp2_with fail;go_ret;exact ⟨rfl, HB.o.trans HLC.o⟩
       | true =>
        have hR0 : R = false := by rw [HR.o]; simp
        subst hR0;go_wp2_with fail;go_ret;exact ⟨rfl, HB.o.trans HLC.o⟩
    | true =>
     go_wp2_with fail;refine (Zbj r B cs F _ aK _ (HS.o.later HLC.o) (HK.o.later Zc HLC.o)).mono ?_;rw [Hak.o];rintro e w6 ⟨rfl, hcl⟩;clear HMC m0;replace HLC := zh (HLC.o.trans hcl);clear hcl;have HMC := zB HLC HM;have m0 := cz5 HMC.o;go_upto_region 15 with (fail)
     cases b2 with
     | false =>
      go_upto_region 32 with (fail)
      cases tg with
      | false =>
       have hR0 : R = false := by rw [HR.o]; simp
       subst hR0;go_wp2_with fail;go_ret;exact ⟨rfl, HB.o.trans HLC.o⟩
      | true =>
       cases ak with
       | false =>
        have hR0 : R = false := by rw [HR.o]; simp
        subst hR0;go_wp2_with fail;go_ret;exact ⟨rfl, HB.o.trans HLC.o⟩
       | true =>
        have hR0 : R = false := by rw [HR.o]; simp
        subst hR0;go_wp2_with fail;go_ret;exact ⟨rfl, HB.o.trans HLC.o⟩
     | true =>
      go_wp2_with fail;refine (Zbj r B cs F _ aJ _ (HS.o.later HLC.o) (HI.o.later Zc HLC.o)).mono ?_;rw [Hai.o];rintro e w9 ⟨rfl, hcl⟩;clear HMC m0;replace HLC := zh (HLC.o.trans hcl);clear hcl;go_upto_region 32 with (fail)
      cases tg with
      | false =>
       have hR0 : R = false := by rw [HR.o]; simp
       subst hR0;go_wp2_with fail;go_ret;exact ⟨rfl, HB.o.trans HLC.o⟩
      | true =>
       cases ak with
       | false =>
        have hR0 : R = false := by rw [HR.o]; simp
        subst hR0;go_wp2_with fail;go_ret;exact ⟨rfl, HB.o.trans HLC.o⟩
       | true =>
        cases ai with
        | false =>
         have hR0 : R = false := by rw [HR.o]; simp
         subst hR0;go_wp2_with fail;go_ret;exact ⟨rfl, HB.o.trans HLC.o⟩
        | true =>
         have hR0 : R = true := by rw [HR.o]; simp
         subst hR0;go_wp2_with fail;go_ret;exact ⟨rfl, HB.o.trans HLC.o⟩
theorem Zvx (r : Zf) (B : Nat) (cs : List Value) (F : Nat → Prop) (w : World) (tag aI : Int) (aJ aK : List Zd) (vi vk : Value) (h : Z3 F w B r cs) (hi : Zo Zg 6 F w aJ vi) (hk : Zo Zg 6 F w aK vk) (hkz : aK.length ≤ 1048576) :
  Calls Tryz.prog 51 #[.pointer (some ⟨B, 0, none⟩), .agg #[.int .i64 4, .int .i64 tag, .int .i64 aI, vi, vk]] w fun e w' => e = .returned (.bool (Zai r ⟨4, tag, aI, aJ, aK⟩)) ∧ Below w.heap.size w w' := by
 obtain ⟨R, hR⟩ : ∃ R, Zai r ⟨4, tag, aI, aJ, aK⟩ = R := ⟨_, rfl⟩;rw [hR];have HR0 := zh hR;clear hR;obtain ⟨Ai, ci, rfl, hci, hcmi, _⟩ := id hi;obtain ⟨Ak, ck, rfl, hck, hcmk, _⟩ := id hk;unfold maxLen at hcmi hcmk;have hl1 := (Za.refl w).alloc (.cells #[.int .i64 4, .int .i64 tag, .int .i64 aI, .slice Ai aJ.length ci, .slice Ak aK.length ck] 94);have HS := zh (h.later hl1);have HI := zh (hi.later Zc hl1);have HK := zh (hk.later Zc hl1);have HM := zh (heap_alloc_new w (.cells #[.int .i64 4, .int .i64 tag, .int .i64 aI, .slice Ai aJ.length ci, .slice Ak aK.length ck] 94));have HB := zh hl1;obtain ⟨w1, hw1⟩ : ∃ x, x = w.alloc (.cells #[.int .i64 4, .int .i64 tag, .int .i64 aI, .slice Ai aJ.length ci, .slice Ak aK.length ck] 94) := ⟨_, rfl⟩;rw [← hw1] at HS HI HK HM HB;have HLC := zh (Za.refl w1);clear h hi hk hl1;obtain ⟨s1, hs1⟩ : ∃ q, (decide (1 ≤ aI)) = q := ⟨_, rfl⟩;have W0s1 : (decide (aI < 1)) = !s1 := by rw [← hs1]; exact (by rw [Bool.eq_iff_iff]; simp only [nJ, nK, nL, ne_eq, nM, nI, nH] <;> omega)
 obtain ⟨s2, hs2⟩ : ∃ q, (decide (aI ≤ r.made)) = q := ⟨_, rfl⟩;have W0s2 : (decide (r.made < aI)) = !s2 := by rw [← hs2]; exact (by rw [Bool.eq_iff_iff]; simp only [nJ, nK, nL, ne_eq, nM, nI, nH] <;> omega)
 obtain ⟨tg, htg⟩ : ∃ q, (tag == 0) = q := ⟨_, rfl⟩;have W0tg : (tag != 0) = !tg := by rw [← htg]; exact (by rw [Bool.eq_iff_iff]; simp only [nJ, nK, nL, ne_eq, nM, nI, nH] <;> omega)
 have W1tg : (tag == 0) = tg := htg;obtain ⟨b1, hb1⟩ : ∃ q, (decide (aK.length ≤ 40)) = q := ⟨_, rfl⟩;have W0b1 : (decide ((aK.length : Int) ≤ 40)) = b1 := by rw [← hb1]; exact (by rw [Bool.eq_iff_iff]; simp only [nJ, nK, nL, ne_eq, nM, nI, nH] <;> omega)
 obtain ⟨b2, hb2⟩ : ∃ q, (decide (aJ.length = 0)) = q := ⟨_, rfl⟩;have W0b2 : ((aJ.length : Int) == 0) = b2 := by rw [← hb2]; exact (by rw [Bool.eq_iff_iff]; simp only [nJ, nK, nL, ne_eq, nM, nI, nH] <;> omega)
 obtain ⟨ak, hak⟩ : ∃ q, (Zao r aK) = q := ⟨_, rfl⟩;obtain ⟨di, hdi⟩ : ∃ q, (Zb0 aK) = q := ⟨_, rfl⟩;have HR := zh (show R = ((s1 && s2) && (tg && (b1 && (b2 && (ak && (di)))))) by rw [← HR0.o, ← hs1, ← hs2, ← htg, ← hb1, ← hb2, ← hak, ← hdi]; try rfl);have Hs1 := zh hs1;clear hs1;have Hs2 := zh hs2;clear hs2;have Htg := zh htg;clear htg;have Hb1 := zh hb1;clear hb1;have Hb2 := zh hb2;clear hb2;have Hak := zh hak;clear hak;have Hdi := zh hdi;clear hdi;obtain ⟨kz, hkz⟩ : ∃ q, ((aK.length : Int) == 0) = q := ⟨_, rfl⟩;go_enter Tryz.func51, Tryz.ntmps51;go_upto_region 2 with (fail);rw [← hw1];clear hw1
 cases s1 with
 | false =>
  simp only [Bool.not_false] at W0s1;refine Z4 (fun W hW => ?_);have hWL : Za w1 W := by rw [hW]; exact (Za.refl _).drew
  clear hW;replace HLC := zh (HLC.o.trans hWL);clear hWL;have HMC := zB HLC HM;have m0 := cz5 HMC.o;have y12 := (HS.o.later HLC.o).made_;have hMB := Zb HMC.o;have hSB := (HS.o.later HLC.o).lt
  repeat go_big_quiet_step (fail)
  refine wpQuiet_nil ?_;have hR0 : R = false := by rw [HR.o]; simp
  subst hR0;go_wp2_with fail;go_ret;exact ⟨rfl, HB.o.trans HLC.o⟩
 | true =>
  simp only [Bool.not_true] at W0s1
  cases s2 with
  | false =>
   simp only [Bool.not_false] at W0s2;refine Z4 (fun W hW => ?_);have hWL : Za w1 W := by rw [hW]; exact (Za.refl _).drew
   clear hW;replace HLC := zh (HLC.o.trans hWL);clear hWL;have HMC := zB HLC HM;have m0 := cz5 HMC.o;have y12 := (HS.o.later HLC.o).made_;have hMB := Zb HMC.o;have hSB := (HS.o.later HLC.o).lt
   repeat go_big_quiet_step (fail)
   refine wpQuiet_nil ?_;have hR0 : R = false := by rw [HR.o]; simp
   subst hR0;go_wp2_with fail;go_ret;exact ⟨rfl, HB.o.trans HLC.o⟩
  | true =>
   simp only [Bool.not_true] at W0s2;refine Z4 (fun V hV => ?_);have hVL : Za w1 V := by rw [hV]; exact (Za.refl _).drew
   clear hV;replace HLC := zh (HLC.o.trans hVL);clear hVL;have HMC := zB HLC HM;have m0 := cz5 HMC.o;have y12 := (HS.o.later HLC.o).made_;have hMB := Zb HMC.o;have hSB := (HS.o.later HLC.o).lt
   repeat go_big_quiet_step (fail)
   refine wpQuiet_nil ?_;clear y12 hMB hSB;go_upto_region 17 with (fail)
   cases b1 with
   | false =>
    go_upto_region 32 with (fail)
    cases tg with
    | false =>
     have hR0 : R = false := by rw [HR.o]; simp
     subst hR0;go_wp2_with fail;go_ret;exact ⟨rfl, HB.o.trans HLC.o⟩
    | true =>
     cases b2 with
     | false =>
      have hR0 : R = false := by rw [HR.o]; simp
      subst hR0;go_wp2_with fail;go_ret;exact ⟨rfl, HB.o.trans HLC.o⟩
     | true =>
      have hR0 : R = false := by rw [HR.o]; simp
      subst hR0;go_wp2_with fail;go_ret;exact ⟨rfl, HB.o.trans HLC.o⟩
   | true =>
    go_wp2_with fail;refine (Ze5 aK _ F _ (HK.o.later Zc HLC.o)).mono ?_;rw [Hdi.o];rintro e w5 ⟨rfl, hcl⟩;clear HMC m0;replace HLC := zh (HLC.o.trans hcl);clear hcl;have HMC := zB HLC HM;have m0 := cz5 HMC.o
    cases di with
    | false =>
     go_upto_region 32 with (fail)
     cases tg with
     | false =>
      have hR0 : R = false := by rw [HR.o]; simp
      subst hR0;go_wp2_with fail;go_ret;exact ⟨rfl, HB.o.trans HLC.o⟩
     | true =>
      cases b2 with
      | false =>
       have hR0 : R = false := by rw [HR.o]; simp
       subst hR0;go_wp2_with fail;go_ret;exact ⟨rfl, HB.o.trans HLC.o⟩
      | true =>
       have hR0 : R = false := by rw [HR.o]; simp
       subst hR0;go_wp2_with fail;go_ret;exact ⟨rfl, HB.o.trans HLC.o⟩
    | true =>
     go_wp2_with fail;refine (Zbj r B cs F _ aK _ (HS.o.later HLC.o) (HK.o.later Zc HLC.o)).mono ?_;rw [Hak.o];rintro e w6 ⟨rfl, hcl⟩;clear HMC m0;replace HLC := zh (HLC.o.trans hcl);clear hcl;have HMC := zB HLC HM;have m0 := cz5 HMC.o;go_upto_region 32 with (fail)
     cases tg with
     | false =>
      have hR0 : R = false := by rw [HR.o]; simp
      subst hR0;go_wp2_with fail;go_ret;exact ⟨rfl, HB.o.trans HLC.o⟩
     | true =>
      cases ak with
      | false =>
       have hR0 : R = false := by rw [HR.o]; simp
       subst hR0;go_wp2_with fail;go_ret;exact ⟨rfl, HB.o.trans HLC.o⟩
      | true =>
       cases b2 with
       | false =>
                have hR0 : R = false := by rw [HR.o]; simp
                subst hR0;go_wp2_with fail;go_ret;exact ⟨rfl, HB.o.trans HLC.o⟩
       | true =>
                have hR0 : R = true := by rw [HR.o]; simp
                subst hR0;go_wp2_with fail;go_ret;exact ⟨rfl, HB.o.trans HLC.o⟩
theorem Zvy (r : Zf) (B : Nat) (cs : List Value) (F : Nat → Prop) (w : World) (tag aI : Int) (aJ aK : List Zd) (vi vk : Value) (h : Z3 F w B r cs) (hi : Zo Zg 6 F w aJ vi) (hk : Zo Zg 6 F w aK vk) (hkz : aK.length ≤ 1048576) :
  Calls Tryz.prog 51 #[.pointer (some ⟨B, 0, none⟩), .agg #[.int .i64 7, .int .i64 tag, .int .i64 aI, vi, vk]] w fun e w' => e = .returned (.bool (Zai r ⟨7, tag, aI, aJ, aK⟩)) ∧ Below w.heap.size w w' := by
 obtain ⟨R, hR⟩ : ∃ R, Zai r ⟨7, tag, aI, aJ, aK⟩ = R := ⟨_, rfl⟩;rw [hR];have HR0 := zh hR;clear hR;obtain ⟨Ai, ci, rfl, hci, hcmi, _⟩ := id hi;obtain ⟨Ak, ck, rfl, hck, hcmk, _⟩ := id hk;unfold maxLen at hcmi hcmk;have hl1 := (Za.refl w).alloc (.cells #[.int .i64 7, .int .i64 tag, .int .i64 aI, .slice Ai aJ.length ci, .slice Ak aK.length ck] 94);have HS := zh (h.later hl1);have HI := zh (hi.later Zc hl1);have HK := zh (hk.later Zc hl1);have HM := zh (heap_alloc_new w (.cells #[.int .i64 7, .int .i64 tag, .int .i64 aI, .slice Ai aJ.length ci, .slice Ak aK.length ck] 94));have HB := zh hl1;obtain ⟨w1, hw1⟩ : ∃ x, x = w.alloc (.cells #[.int .i64 7, .int .i64 tag, .int .i64 aI, .slice Ai aJ.length ci, .slice Ak aK.length ck] 94) := ⟨_, rfl⟩;rw [← hw1] at HS HI HK HM HB;have HLC := zh (Za.refl w1);clear h hi hk hl1;obtain ⟨s1, hs1⟩ : ∃ q, (decide (1 ≤ aI)) = q := ⟨_, rfl⟩;have W0s1 : (decide (aI < 1)) = !s1 := by rw [← hs1]; exact (by rw [Bool.eq_iff_iff]; simp only [nJ, nK, nL, ne_eq, nM, nI, nH] <;> omega)
 obtain ⟨s2, hs2⟩ : ∃ q, (decide (aI ≤ r.made)) = q := ⟨_, rfl⟩;have W0s2 : (decide (r.made < aI)) = !s2 := by rw [← hs2]; exact (by rw [Bool.eq_iff_iff]; simp only [nJ, nK, nL, ne_eq, nM, nI, nH] <;> omega)
 obtain ⟨ky, hky⟩ : ∃ q, (decide (aK.length = 0)) = q := ⟨_, rfl⟩;have W0ky : ((aK.length : Int) != 0) = !ky := by rw [← hky]; exact (by rw [Bool.eq_iff_iff]; simp only [nJ, nK, nL, ne_eq, nM, nI, nH] <;> omega)
 have W1ky : ((aK.length : Int) == 0) = ky := by rw [← hky]; exact (by rw [Bool.eq_iff_iff]; simp only [nJ, nK, nL, ne_eq, nM, nI, nH] <;> omega)
 obtain ⟨pa, hpa⟩ : ∃ q, (Zab r tag aJ) = q := ⟨_, rfl⟩;have HR := zh (show R = ((s1 && s2) && (ky && (pa))) by rw [← HR0.o, ← hs1, ← hs2, ← hky, ← hpa]; try rfl);have Hs1 := zh hs1;clear hs1;have Hs2 := zh hs2;clear hs2;have Hky := zh hky;clear hky;have Hpa := zh hpa;clear hpa;obtain ⟨tz, htz⟩ : ∃ q, (tag == 0) = q := ⟨_, rfl⟩;go_enter Tryz.func51, Tryz.ntmps51;go_upto_region 2 with (fail);rw [← hw1];clear hw1
 cases s1 with
 | false =>
  simp only [Bool.not_false] at W0s1;refine Z4 (fun W hW => ?_);have hWL : Za w1 W := by rw [hW]; exact (Za.refl _).drew
  clear hW;replace HLC := zh (HLC.o.trans hWL);clear hWL;have HMC := zB HLC HM;have m0 := cz5 HMC.o;have y12 := (HS.o.later HLC.o).made_;have hMB := Zb HMC.o;have hSB := (HS.o.later HLC.o).lt
  repeat go_big_quiet_step (fail)
  refine wpQuiet_nil ?_;have hR0 : R = false := by rw [HR.o]; simp
  subst hR0;go_wp2_with fail;go_ret;exact ⟨rfl, HB.o.trans HLC.o⟩
 | true =>
  simp only [Bool.not_true] at W0s1
  cases s2 with
  | false =>
   simp only [Bool.not_false] at W0s2;refine Z4 (fun W hW => ?_);have hWL : Za w1 W := by rw [hW]; exact (Za.refl _).drew
   clear hW;replace HLC := zh (HLC.o.trans hWL);clear hWL;have HMC := zB HLC HM;have m0 := cz5 HMC.o;have y12 := (HS.o.later HLC.o).made_;have hMB := Zb HMC.o;have hSB := (HS.o.later HLC.o).lt
   repeat go_big_quiet_step (fail)
   refine wpQuiet_nil ?_;have hR0 : R = false := by rw [HR.o]; simp
   subst hR0;go_wp2_with fail;go_ret;exact ⟨rfl, HB.o.trans HLC.o⟩
  | true =>
   simp only [Bool.not_true] at W0s2;refine Z4 (fun V hV => ?_);have hVL : Za w1 V := by rw [hV]; exact (Za.refl _).drew
   clear hV;replace HLC := zh (HLC.o.trans hVL);clear hVL;have HMC := zB HLC HM;have m0 := cz5 HMC.o;have y12 := (HS.o.later HLC.o).made_;have hMB := Zb HMC.o;have hSB := (HS.o.later HLC.o).lt
   repeat go_big_quiet_step (fail)
   refine wpQuiet_nil ?_;clear y12 hMB hSB;go_upto_region 26 with (fail);go_wp2_with fail;refine (Zjg r B cs F _ tag aJ _ (HS.o.later HLC.o) (HI.o.later Zc HLC.o)).mono ?_;rw [Hpa.o];rintro e w5 ⟨rfl, hcl⟩;clear HMC m0;replace HLC := zh (HLC.o.trans hcl);clear hcl;go_upto_region 32 with (fail)
   cases ky with
   | false =>
    have hR0 : R = false := by rw [HR.o]; simp
    subst hR0;go_wp2_with fail;go_ret;exact ⟨rfl, HB.o.trans HLC.o⟩
   | true =>
    cases pa with
    | false =>
     have hR0 : R = false := by rw [HR.o]; simp
     subst hR0;go_wp2_with fail;go_ret;exact ⟨rfl, HB.o.trans HLC.o⟩
    | true =>
     have hR0 : R = true := by rw [HR.o]; simp
     subst hR0;go_wp2_with fail;go_ret;exact ⟨rfl, HB.o.trans HLC.o⟩
theorem Zvz (r : Zf) (B : Nat) (cs : List Value) (F : Nat → Prop) (w : World) (tag aI : Int) (aJ aK : List Zd) (vi vk : Value) (h : Z3 F w B r cs) (hi : Zo Zg 6 F w aJ vi) (hk : Zo Zg 6 F w aK vk) (hkz : aK.length ≤ 1048576) :
  Calls Tryz.prog 51 #[.pointer (some ⟨B, 0, none⟩), .agg #[.int .i64 6, .int .i64 tag, .int .i64 aI, vi, vk]] w fun e w' => e = .returned (.bool (Zai r ⟨6, tag, aI, aJ, aK⟩)) ∧ Below w.heap.size w w' := by
 obtain ⟨R, hR⟩ : ∃ R, Zai r ⟨6, tag, aI, aJ, aK⟩ = R := ⟨_, rfl⟩;rw [hR];have HR0 := zh hR;clear hR;obtain ⟨Ai, ci, rfl, hci, hcmi, _⟩ := id hi;obtain ⟨Ak, ck, rfl, hck, hcmk, _⟩ := id hk;unfold maxLen at hcmi hcmk;have hl1 := (Za.refl w).alloc (.cells #[.int .i64 6, .int .i64 tag, .int .i64 aI, .slice Ai aJ.length ci, .slice Ak aK.length ck] 94);have HS := zh (h.later hl1);have HI := zh (hi.later Zc hl1);have HK := zh (hk.later Zc hl1);have HM := zh (heap_alloc_new w (.cells #[.int .i64 6, .int .i64 tag, .int .i64 aI, .slice Ai aJ.length ci, .slice Ak aK.length ck] 94));have HB := zh hl1;obtain ⟨w1, hw1⟩ : ∃ x, x = w.alloc (.cells #[.int .i64 6, .int .i64 tag, .int .i64 aI, .slice Ai aJ.length ci, .slice Ak aK.length ck] 94) := ⟨_, rfl⟩;rw [← hw1] at HS HI HK HM HB;have HLC := zh (Za.refl w1);clear h hi hk hl1;obtain ⟨s1, hs1⟩ : ∃ q, (decide (1 ≤ aI)) = q := ⟨_, rfl⟩;have W0s1 : (decide (aI < 1)) = !s1 := by rw [← hs1]; exact (by rw [Bool.eq_iff_iff]; simp only [nJ, nK, nL, ne_eq, nM, nI, nH] <;> omega)
 obtain ⟨s2, hs2⟩ : ∃ q, (decide (aI ≤ r.made)) = q := ⟨_, rfl⟩;have W0s2 : (decide (r.made < aI)) = !s2 := by rw [← hs2]; exact (by rw [Bool.eq_iff_iff]; simp only [nJ, nK, nL, ne_eq, nM, nI, nH] <;> omega)
 obtain ⟨ky, hky⟩ : ∃ q, (decide (aK.length = 0)) = q := ⟨_, rfl⟩;have W0ky : ((aK.length : Int) != 0) = !ky := by rw [← hky]; exact (by rw [Bool.eq_iff_iff]; simp only [nJ, nK, nL, ne_eq, nM, nI, nH] <;> omega)
 have W1ky : ((aK.length : Int) == 0) = ky := by rw [← hky]; exact (by rw [Bool.eq_iff_iff]; simp only [nJ, nK, nL, ne_eq, nM, nI, nH] <;> omega)
 obtain ⟨t1, ht1⟩ : ∃ q, (decide (1 ≤ tag)) = q := ⟨_, rfl⟩;have W0t1 : (decide (1 ≤ tag)) = t1 := ht1;obtain ⟨b1, hb1⟩ : ∃ q, (decide (aJ.length = 3)) = q := ⟨_, rfl⟩;have W0b1 : ((aJ.length : Int) == 3) = b1 := by rw [← hb1]; exact (by rw [Bool.eq_iff_iff]; simp only [nJ, nK, nL, ne_eq, nM, nI, nH] <;> omega)
 obtain ⟨X, hX⟩ : ∃ X, Zag r ⟨6, tag, aI, aJ, aK⟩ = X := ⟨_, rfl⟩;have HR := zh (show R = ((s1 && s2) && (ky && (X))) by rw [← HR0.o, ← hs1, ← hs2, ← hky, ← hX]; try rfl);have Hs1 := zh hs1;clear hs1;have Hs2 := zh hs2;clear hs2;have Hky := zh hky;clear hky;have Ht1 := zh ht1;clear ht1;have Hb1 := zh hb1;clear hb1;have HX := zh hX;clear hX;obtain ⟨tz, htz⟩ : ∃ q, (tag == 0) = q := ⟨_, rfl⟩;go_enter Tryz.func51, Tryz.ntmps51;go_upto_region 2 with (fail);rw [← hw1];clear hw1
 cases s1 with
 | false =>
  simp only [Bool.not_false] at W0s1;refine Z4 (fun W hW => ?_);have hWL : Za w1 W := by rw [hW]; exact (Za.refl _).drew
  clear hW;replace HLC := zh (HLC.o.trans hWL);clear hWL;have HMC := zB HLC HM;have m0 := cz5 HMC.o;have y12 := (HS.o.later HLC.o).made_;have hMB := Zb HMC.o;have hSB := (HS.o.later HLC.o).lt
  repeat go_big_quiet_step (fail)
  refine wpQuiet_nil ?_;have hR0 : R = false := by rw [HR.o]; try simp
  subst hR0;go_wp2_with fail;go_ret;exact ⟨rfl, HB.o.trans HLC.o⟩
 | true =>
  simp only [Bool.not_true] at W0s1
  cases s2 with
  | false =>
   simp only [Bool.not_false] at W0s2;refine Z4 (fun W hW => ?_);have hWL : Za w1 W := by rw [hW]; exact (Za.refl _).drew
   clear hW;replace HLC := zh (HLC.o.trans hWL);clear hWL;have HMC := zB HLC HM;have m0 := cz5 HMC.o;have y12 := (HS.o.later HLC.o).made_;have hMB := Zb HMC.o;have hSB := (HS.o.later HLC.o).lt
   repeat go_big_quiet_step (fail)
   refine wpQuiet_nil ?_;have hR0 : R = false := by rw [HR.o]; try simp
   subst hR0;go_wp2_with fail;go_ret;exact ⟨rfl, HB.o.trans HLC.o⟩
  | true =>
   simp only [Bool.not_true] at W0s2;refine Z4 (fun V hV => ?_);have hVL : Za w1 V := by rw [hV]; exact (Za.refl _).drew
   clear hV;replace HLC := zh (HLC.o.trans hVL);clear hVL;have HMC := zB HLC HM;have m0 := cz5 HMC.o;have y12 := (HS.o.later HLC.o).made_;have hMB := Zb HMC.o;have hSB := (HS.o.later HLC.o).lt
   repeat go_big_quiet_step (fail)
   refine wpQuiet_nil ?_;clear y12 hMB hSB;go_upto_region 23 with (fail);go_upto_region 24 with (fail)
   cases b1 with
   | false =>
    have hX0 : X = false := by
     rw [← HX.o]
     match aJ, of_decide_eq_false Hb1.o with
     | [], _ => first | rfl | simp [Zag]
     | [_], _ => first | rfl | simp [Zag]
     | [_, _], _ => first | rfl | simp [Zag]
     | _ :: _ :: _ :: _ :: _, _ => first | rfl | simp [Zag]
     | [_, _, _], h => exact absurd rfl h
    replace HR := zh (show R = false by rw [HR.o, hX0]; simp);go_upto_region 32 with (fail)
    cases t1 with
    | false =>
     have hR0 : R = false := by rw [HR.o]; try simp
     subst hR0;go_wp2_with fail;go_ret;exact ⟨rfl, HB.o.trans HLC.o⟩
    | true =>
     cases ky with
     | false =>
      have hR0 : R = false := by rw [HR.o]; try simp
      subst hR0;go_wp2_with fail;go_ret;exact ⟨rfl, HB.o.trans HLC.o⟩
     | true =>
      have hR0 : R = false := by rw [HR.o]; try simp
      subst hR0;go_wp2_with fail;go_ret;exact ⟨rfl, HB.o.trans HLC.o⟩
   | true =>
    have hlen : aJ.length = 3 := of_decide_eq_true Hb1.o;clear W0b1 Hb1;obtain ⟨a, b, c, rfl⟩ : ∃ a b c, aJ = [a, b, c] := by
     match aJ, hlen with
     | [a0, b0, c0], _ => exact ⟨a0, b0, c0, rfl⟩
    clear hlen;obtain ⟨b0, o0, e0, hb0, hat0, hel0⟩ := (HI.o.later Zc HLC.o).vat (j := 0) (by simp);cases e0;simp only [List.getElem_cons_succ, List.getElem_cons_zero, Nat.reduceMul, Nat.add_zero] at hat0 hel0;obtain ⟨i00, i01, i02, i03, i04, i05⟩ := hat0;obtain ⟨b1, o1, e1, hb1, hat1, hel1⟩ := (HI.o.later Zc HLC.o).vat (j := 1) (by simp);cases e1;simp only [List.getElem_cons_succ, List.getElem_cons_zero, Nat.reduceMul, Nat.add_zero] at hat1 hel1;obtain ⟨i10, i11, i12, i13, i14, i15⟩ := hat1;obtain ⟨b2, o2, e2, hb2, hat2, hel2⟩ := (HI.o.later Zc HLC.o).vat (j := 2) (by simp);cases e2;simp only [List.getElem_cons_succ, List.getElem_cons_zero, Nat.reduceMul, Nat.add_zero] at hat2 hel2;obtain ⟨i20, i21, i22, i23, i24, i25⟩ := hat2;obtain ⟨k0, hk0⟩ : ∃ q, (a.kind == 19) = q := ⟨_, rfl⟩;have W0k0 : (a.kind == 19) = k0 := hk0;obtain ⟨k1, hk1⟩ : ∃ q, (b.kind == 19) = q := ⟨_, rfl⟩;have W0k1 : (b.kind == 19) = k1 := hk1;obtain ⟨k2, hk2⟩ : ∃ q, (c.kind == 1) = q := ⟨_, rfl⟩;have W0k2 : (c.kind == 1) = k2 := hk2;obtain ⟨nn, hnn⟩ : ∃ q, (decide (0 ≤ c.aH)) = q := ⟨_, rfl⟩;have W0nn : (decide (0 ≤ c.aH)) = nn := hnn;obtain ⟨q0, hq0⟩ : ∃ q, (Zj r a) = q := ⟨_, rfl⟩;obtain ⟨q1, hq1⟩ : ∃ q, (Zj r b) = q := ⟨_, rfl⟩;obtain ⟨q2, hq2⟩ : ∃ q, (Zj r c) = q := ⟨_, rfl⟩;replace HR := zh (show R = (true && true && (ky && (t1 && (k0 && (q0 && (k1 && (q1 && (k2 && (q2 && nn))))))))) by rw [HR.o, ← HX.o, ← hk0, ← hq0, ← hk1, ← hq1, ← hk2, ← hq2, ← hnn, ← Ht1.o]; rfl)
    have Hk0 := zh hk0;clear hk0;have Hk1 := zh hk1;clear hk1;have Hk2 := zh hk2;clear hk2;have Hnn := zh hnn;clear hnn;have Hq0 := zh hq0;clear hq0;have Hq1 := zh hq1;clear hq1;have Hq2 := zh hq2;clear hq2
    cases k0 with
    | false =>
     go_upto_region 32 with (fail)
     cases t1 with
     | false =>
      have hR0 : R = false := by rw [HR.o]; try simp
      subst hR0;go_wp2_with fail;go_ret;exact ⟨rfl, HB.o.trans HLC.o⟩
     | true =>
      cases ky with
      | false =>
       have hR0 : R = false := by rw [HR.o]; try simp
       subst hR0;go_wp2_with fail;go_ret;exact ⟨rfl, HB.o.trans HLC.o⟩
      | true =>
       have hR0 : R = false := by rw [HR.o]; try simp
       subst hR0;go_wp2_with fail;go_ret;exact ⟨rfl, HB.o.trans HLC.o⟩
    | true =>
     go_wp2_with fail;refine (Zay r B cs F _ a _ (HS.o.later HLC.o) hel0).mono ?_;rw [Hq0.o];rintro e w5 ⟨rfl, hcl⟩;clear HMC m0;clear hel0 hb0 i00 i01 i02 i03 i04 i05 hel1 hb1 i10 i11 i12 i13 i14 i15 hel2 hb2 i20 i21 i22 i23 i24 i25;replace HLC := zh (HLC.o.trans hcl);clear hcl;have HMC := zB HLC HM;have m0 := cz5 HMC.o;obtain ⟨b0, o0, e0, hb0, hat0, hel0⟩ := (HI.o.later Zc HLC.o).vat (j := 0) (by simp);cases e0;simp only [List.getElem_cons_succ, List.getElem_cons_zero, Nat.reduceMul, Nat.add_zero] at hat0 hel0;obtain ⟨i00, i01, i02, i03, i04, i05⟩ := hat0;obtain ⟨b1, o1, e1, hb1, hat1, hel1⟩ := (HI.o.later Zc HLC.o).vat (j := 1) (by simp);cases e1;simp only [List.getElem_cons_succ, List.getElem_cons_zero, Nat.reduceMul, Nat.add_zero] at hat1 hel1;obtain ⟨i10, i11, i12, i13, i14, i15⟩ := hat1;obtain ⟨b2, o2, e2, hb2, hat2, hel2⟩ := (HI.o.later Zc HLC.o).vat (j := 2) (by simp);cases e2;simp only [List.getElem_cons_succ, List.getElem_cons_zero, Nat.reduceMul, Nat.add_zero] at hat2 hel2;obtain ⟨i20, i21, i22, i23, i24, i25⟩ := hat2
     cases q0 with
     | false =>
      go_upto_region 32 with (fail)
      cases t1 with
      | false =>
       have hR0 : R = false := by rw [HR.o]; try simp
       subst hR0;go_wp2_with fail;go_ret;exact ⟨rfl, HB.o.trans HLC.o⟩
      | true =>
       cases ky with
       | false =>
        have hR0 : R = false := by rw [HR.o]; try simp
        subst hR0;go_wp2_with fail;go_ret;exact ⟨rfl, HB.o.trans HLC.o⟩
       | true =>
        have hR0 : R = false := by rw [HR.o]; try simp
        subst hR0;go_wp2_with fail;go_ret;exact ⟨rfl, HB.o.trans HLC.o⟩
     | true =>
      cases k1 with
      | false =>
       go_upto_region 32 with (fail)
       cases t1 with
       | false =>
        have hR0 : R = false := by rw [HR.o]; try simp
        subst hR0;go_wp2_with fail;go_ret;exact ⟨rfl, HB.o.trans HLC.o⟩
       | true =>
        cases ky with
        | false =>
         have hR0 : R = false := by rw [HR.o]; try simp
         subst hR0;go_wp2_with fail;go_ret;exact ⟨rfl, HB.o.trans HLC.o⟩
        | true =>
         have hR0 : R = false := by rw [HR.o]; try simp
         subst hR0;go_wp2_with fail;go_ret;exact ⟨rfl, HB.o.trans HLC.o⟩
      | true =>
       go_wp2_with fail;refine (Zay r B cs F _ b _ (HS.o.later HLC.o) hel1).mono ?_;rw [Hq1.o];rintro e w6 ⟨rfl, hcl⟩;clear HMC m0;clear hel0 hb0 i00 i01 i02 i03 i04 i05 hel1 hb1 i10 i11 i12 i13 i14 i15 hel2 hb2 i20 i21 i22 i23 i24 i25;replace HLC := zh (HLC.o.trans hcl);clear hcl;have HMC := zB HLC HM;have m0 := cz5 HMC.o;obtain ⟨b0, o0, e0, hb0, hat0, hel0⟩ := (HI.o.later Zc HLC.o).vat (j := 0) (by simp);cases e0;simp only [List.getElem_cons_succ, List.getElem_cons_zero, Nat.reduceMul, Nat.add_zero] at hat0 hel0;obtain ⟨i00, i01, i02, i03, i04, i05⟩ := hat0;obtain ⟨b1, o1, e1, hb1, hat1, hel1⟩ := (HI.o.later Zc HLC.o).vat (j := 1) (by simp);cases e1;simp only [List.getElem_cons_succ, List.getElem_cons_zero, Nat.reduceMul, Nat.add_zero] at hat1 hel1;obtain ⟨i10, i11, i12, i13, i14, i15⟩ := hat1;obtain ⟨b2, o2, e2, hb2, hat2, hel2⟩ := (HI.o.later Zc HLC.o).vat (j := 2) (by simp);cases e2;simp only [List.getElem_cons_succ, List.getElem_cons_zero, Nat.reduceMul, Nat.add_zero] at hat2 hel2;obtain ⟨i20, i21, i22, i23, i24, i25⟩ := hat2
       cases q1 with
       | false =>
        go_upto_region 32 with (fail)
        cases t1 with
        | false =>
         have hR0 : R = false := by rw [HR.o]; try simp
         subst hR0;go_wp2_with fail;go_ret;exact ⟨rfl, HB.o.trans HLC.o⟩
        | true =>
         cases ky with
         | false =>
          have hR0 : R = false := by rw [HR.o]; try simp
          subst hR0;go_wp2_with fail;go_ret;exact ⟨rfl, HB.o.trans HLC.o⟩
         | true =>
          have hR0 : R = false := by rw [HR.o]; try simp
          subst hR0;go_wp2_with fail;go_ret;exact ⟨rfl, HB.o.trans HLC.o⟩
       | true =>
        cases k2 with
        | false =>
         go_upto_region 32 with (fail)
         cases t1 with
         | false =>
          have hR0 : R = false := by rw [HR.o]; try simp
          subst hR0;go_wp2_with fail;go_ret;exact ⟨rfl, HB.o.trans HLC.o⟩
         | true =>
          cases ky with
          | false =>
           have hR0 : R = false := by rw [HR.o]; try simp
           subst hR0;go_wp2_with fail;go_ret;exact ⟨rfl, HB.o.trans HLC.o⟩
          | true =>
           have hR0 : R = false := by rw [HR.o]; try simp
           subst hR0;go_wp2_with fail;go_ret;exact ⟨rfl, HB.o.trans HLC.o⟩
        | true =>
         go_wp2_with fail;refine (Zay r B cs F _ c _ (HS.o.later HLC.o) hel2).mono ?_;rw [Hq2.o];rintro e w7 ⟨rfl, hcl⟩;clear HMC m0;clear hel0 hb0 i00 i01 i02 i03 i04 i05 hel1 hb1 i10 i11 i12 i13 i14 i15 hel2 hb2 i20 i21 i22 i23 i24 i25;replace HLC := zh (HLC.o.trans hcl);clear hcl;have HMC := zB HLC HM;have m0 := cz5 HMC.o;obtain ⟨b0, o0, e0, hb0, hat0, hel0⟩ := (HI.o.later Zc HLC.o).vat (j := 0) (by simp);cases e0;simp only [List.getElem_cons_succ, List.getElem_cons_zero, Nat.reduceMul, Nat.add_zero] at hat0 hel0;obtain ⟨i00, i01, i02, i03, i04, i05⟩ := hat0;obtain ⟨b1, o1, e1, hb1, hat1, hel1⟩ := (HI.o.later Zc HLC.o).vat (j := 1) (by simp);cases e1;simp only [List.getElem_cons_succ, List.getElem_cons_zero, Nat.reduceMul, Nat.add_zero] at hat1 hel1;obtain ⟨i10, i11, i12, i13, i14, i15⟩ := hat1;obtain ⟨b2, o2, e2, hb2, hat2, hel2⟩ := (HI.o.later Zc HLC.o).vat (j := 2) (by simp);cases e2;simp only [List.getElem_cons_succ, List.getElem_cons_zero, Nat.reduceMul, Nat.add_zero] at hat2 hel2;obtain ⟨i20, i21, i22, i23, i24, i25⟩ := hat2
         cases q2 with
         | false =>
          go_upto_region 32 with (fail)
          cases t1 with
          | false =>
           have hR0 : R = false := by rw [HR.o]; try simp
           subst hR0;go_wp2_with fail;go_ret;exact ⟨rfl, HB.o.trans HLC.o⟩
          | true =>
           cases ky with
           | false =>
            have hR0 : R = false := by rw [HR.o]; try simp
            subst hR0;go_wp2_with fail;go_ret;exact ⟨rfl, HB.o.trans HLC.o⟩
           | true =>
            have hR0 : R = false := by rw [HR.o]; try simp
            subst hR0;go_wp2_with fail;go_ret;exact ⟨rfl, HB.o.trans HLC.o⟩
         | true =>
          go_upto_region 32 with (fail)
          cases t1 with
          | false =>
           have hR0 : R = false := by rw [HR.o]; try simp
           subst hR0;go_wp2_with fail;go_ret;exact ⟨rfl, HB.o.trans HLC.o⟩
          | true =>
           cases ky with
           | false =>
            have hR0 : R = false := by rw [HR.o]; try simp
            subst hR0;go_wp2_with fail;go_ret;exact ⟨rfl, HB.o.trans HLC.o⟩
           | true =>
            cases nn with
            | false =>
             have hR0 : R = false := by rw [HR.o]; try simp
             subst hR0;go_wp2_with fail;go_ret;exact ⟨rfl, HB.o.trans HLC.o⟩
            | true =>
             have hR0 : R = true := by rw [HR.o]; simp
             subst hR0;go_wp2_with fail;go_ret;exact ⟨rfl, HB.o.trans HLC.o⟩
theorem Zv0 (r : Zf) (B : Nat) (cs : List Value) (F : Nat → Prop) (w : World) (tag aI : Int) (aJ aK : List Zd) (vi vk : Value) (h : Z3 F w B r cs) (hi : Zo Zg 6 F w aJ vi) (hk : Zo Zg 6 F w aK vk) (hkz : aK.length ≤ 1048576) :
  Calls Tryz.prog 51 #[.pointer (some ⟨B, 0, none⟩), .agg #[.int .i64 8, .int .i64 tag, .int .i64 aI, vi, vk]] w fun e w' => e = .returned (.bool (Zai r ⟨8, tag, aI, aJ, aK⟩)) ∧ Below w.heap.size w w' := by
 obtain ⟨R, hR⟩ : ∃ R, Zai r ⟨8, tag, aI, aJ, aK⟩ = R := ⟨_, rfl⟩;rw [hR];have HR0 := zh hR;clear hR;obtain ⟨Ai, ci, rfl, hci, hcmi, _⟩ := id hi;obtain ⟨Ak, ck, rfl, hck, hcmk, _⟩ := id hk;unfold maxLen at hcmi hcmk;have hl1 := (Za.refl w).alloc (.cells #[.int .i64 8, .int .i64 tag, .int .i64 aI, .slice Ai aJ.length ci, .slice Ak aK.length ck] 94);have HS := zh (h.later hl1);have HI := zh (hi.later Zc hl1);have HK := zh (hk.later Zc hl1);have HM := zh (heap_alloc_new w (.cells #[.int .i64 8, .int .i64 tag, .int .i64 aI, .slice Ai aJ.length ci, .slice Ak aK.length ck] 94));have HB := zh hl1;obtain ⟨w1, hw1⟩ : ∃ x, x = w.alloc (.cells #[.int .i64 8, .int .i64 tag, .int .i64 aI, .slice Ai aJ.length ci, .slice Ak aK.length ck] 94) := ⟨_, rfl⟩;rw [← hw1] at HS HI HK HM HB;have HLC := zh (Za.refl w1);clear h hi hk hl1;obtain ⟨s0, hs0⟩ : ∃ q, (aI == 0) = q := ⟨_, rfl⟩;have W0s0 : (aI != 0) = !s0 := by rw [← hs0]; exact (by rw [Bool.eq_iff_iff]; simp only [nJ, nK, nL, ne_eq, nM, nI, nH] <;> omega)
 obtain ⟨tg, htg⟩ : ∃ q, (tag == 0) = q := ⟨_, rfl⟩;have W0tg : (tag != 0) = !tg := by rw [← htg]; exact (by rw [Bool.eq_iff_iff]; simp only [nJ, nK, nL, ne_eq, nM, nI, nH] <;> omega)
 have W1tg : (tag == 0) = tg := htg;obtain ⟨ky, hky⟩ : ∃ q, (decide (aK.length = 0)) = q := ⟨_, rfl⟩;have W0ky : ((aK.length : Int) != 0) = !ky := by rw [← hky]; exact (by rw [Bool.eq_iff_iff]; simp only [nJ, nK, nL, ne_eq, nM, nI, nH] <;> omega)
 have W1ky : ((aK.length : Int) == 0) = ky := by rw [← hky]; exact (by rw [Bool.eq_iff_iff]; simp only [nJ, nK, nL, ne_eq, nM, nI, nH] <;> omega)
 obtain ⟨b1, hb1⟩ : ∃ q, (decide (aJ.length = 2)) = q := ⟨_, rfl⟩;have W0b1 : ((aJ.length : Int) == 2) = b1 := by rw [← hb1]; exact (by rw [Bool.eq_iff_iff]; simp only [nJ, nK, nL, ne_eq, nM, nI, nH] <;> omega)
 obtain ⟨X, hX⟩ : ∃ X, Zag r ⟨8, tag, aI, aJ, aK⟩ = X := ⟨_, rfl⟩;have HR := zh (show R = (s0 && (tg && (ky && (X)))) by rw [← HR0.o, ← hs0, ← htg, ← hky, ← hX]; try rfl);have Hs0 := zh hs0;clear hs0;have Htg := zh htg;clear htg;have Hky := zh hky;clear hky;have Hb1 := zh hb1;clear hb1;have HX := zh hX;clear hX;go_enter Tryz.func51, Tryz.ntmps51;go_upto_region 2 with (fail);rw [← hw1];clear hw1
 cases s0 with
 | false =>
  simp only [Bool.not_false] at W0s0;refine Z4 (fun W hW => ?_);have hWL : Za w1 W := by rw [hW]; exact (Za.refl _).drew
  clear hW;replace HLC := zh (HLC.o.trans hWL);clear hWL;have HMC := zB HLC HM;have m0 := cz5 HMC.o;have y12 := (HS.o.later HLC.o).made_;have hMB := Zb HMC.o;have hSB := (HS.o.later HLC.o).lt
  repeat go_big_quiet_step (fail)
  refine wpQuiet_nil ?_;have hR0 : R = false := by rw [HR.o]; try simp
  subst hR0;go_wp2_with fail;go_ret;exact ⟨rfl, HB.o.trans HLC.o⟩
 | true =>
  simp only [Bool.not_true] at W0s0;refine Z4 (fun V hV => ?_);have hVL : Za w1 V := by rw [hV]; exact (Za.refl _).drew
  clear hV;replace HLC := zh (HLC.o.trans hVL);clear hVL;have HMC := zB HLC HM;have m0 := cz5 HMC.o;have y12 := (HS.o.later HLC.o).made_;have hMB := Zb HMC.o;have hSB := (HS.o.later HLC.o).lt
  repeat go_big_quiet_step (fail)
  refine wpQuiet_nil ?_;clear y12 hMB hSB;go_upto_region 29 with (fail)
  cases b1 with
  | false =>
   have hX0 : X = false := by
    rw [← HX.o]
    match aJ, of_decide_eq_false Hb1.o with
    | [], _ => first | rfl | simp [Zag]
    | [_], _ => first | rfl | simp [Zag]
    | _ :: _ :: _ :: _, _ => first | rfl | simp [Zag]
    | [_, _], h => exact absurd rfl h
   replace HR := zh (show R = false by rw [HR.o, hX0]; simp);go_upto_region 32 with (fail)
   cases tg with
   | false =>
    have hR0 : R = false := by rw [HR.o]; try simp
    subst hR0;go_wp2_with fail;go_ret;exact ⟨rfl, HB.o.trans HLC.o⟩
   | true =>
    cases ky with
    | false =>
     have hR0 : R = false := by rw [HR.o]; try simp
     subst hR0;go_wp2_with fail;go_ret;exact ⟨rfl, HB.o.trans HLC.o⟩
    | true =>
     have hR0 : R = false := by rw [HR.o]; try simp
     subst hR0;go_wp2_with fail;go_ret;exact ⟨rfl, HB.o.trans HLC.o⟩
  | true =>
   have hlen : aJ.length = 2 := of_decide_eq_true Hb1.o;clear W0b1 Hb1;obtain ⟨a, b, rfl⟩ : ∃ a b, aJ = [a, b] := by
    match aJ, hlen with
    | [a0, b0], _ => exact ⟨a0, b0, rfl⟩
   clear hlen;obtain ⟨b0, o0, e0, hb0, hat0, hel0⟩ := (HI.o.later Zc HLC.o).vat (j := 0) (by simp);cases e0;simp only [List.getElem_cons_succ, List.getElem_cons_zero, Nat.reduceMul, Nat.add_zero] at hat0 hel0;obtain ⟨i00, i01, i02, i03, i04, i05⟩ := hat0;obtain ⟨b1, o1, e1, hb1, hat1, hel1⟩ := (HI.o.later Zc HLC.o).vat (j := 1) (by simp);cases e1;simp only [List.getElem_cons_succ, List.getElem_cons_zero, Nat.reduceMul, Nat.add_zero] at hat1 hel1;obtain ⟨i10, i11, i12, i13, i14, i15⟩ := hat1;obtain ⟨k0, hk0⟩ : ∃ q, (a.kind == 5) = q := ⟨_, rfl⟩;have W0k0 : (a.kind == 5) = k0 := hk0;obtain ⟨ai, hai⟩ : ∃ q, (Zao r [a, b]) = q := ⟨_, rfl⟩;replace HR := zh (show R = (true && (tg && (ky && (k0 && ai)))) by rw [HR.o, ← HX.o, ← hk0, ← hai]; simp [Zag, Zao]);have Hk0 := zh hk0;clear hk0;have Hai := zh hai;clear hai
   cases k0 with
   | false =>
    go_upto_region 32 with (fail)
    cases tg with
    | false =>
     have hR0 : R = false := by rw [HR.o]; try simp
     subst hR0;go_wp2_with fail;go_ret;exact ⟨rfl, HB.o.trans HLC.o⟩
    | true =>
     cases ky with
     | false =>
      have hR0 : R = false := by rw [HR.o]; try simp
      subst hR0;go_wp2_with fail;go_ret;exact ⟨rfl, HB.o.trans HLC.o⟩
     | true =>
      have hR0 : R = false := by rw [HR.o]; try simp
      subst hR0;go_wp2_with fail;go_ret;exact ⟨rfl, HB.o.trans HLC.o⟩
   | true =>
    go_wp2_with fail;refine (Zbj r B cs F _ [a, b] _ (HS.o.later HLC.o) (HI.o.later Zc HLC.o)).mono ?_;rw [Hai.o];rintro e w5 ⟨rfl, hcl⟩;clear HMC m0;clear hel0 hb0 i00 i01 i02 i03 i04 i05 hel1 hb1 i10 i11 i12 i13 i14 i15;replace HLC := zh (HLC.o.trans hcl);clear hcl;go_upto_region 32 with (fail)
    cases tg with
    | false =>
     have hR0 : R = false := by rw [HR.o]; try simp
     subst hR0;go_wp2_with fail;go_ret;exact ⟨rfl, HB.o.trans HLC.o⟩
    | true =>
     cases ky with
     | false =>
      have hR0 : R = false := by rw [HR.o]; try simp
      subst hR0;go_wp2_with fail;go_ret;exact ⟨rfl, HB.o.trans HLC.o⟩
     | true =>
      cases ai with
      | false =>
       have hR0 : R = false := by rw [HR.o]; try simp
       subst hR0;go_wp2_with fail;go_ret;exact ⟨rfl, HB.o.trans HLC.o⟩
      | true =>
       have hR0 : R = true := by rw [HR.o]; simp
       subst hR0;go_wp2_with fail;go_ret;exact ⟨rfl, HB.o.trans HLC.o⟩
theorem Zv1 (r : Zf) (B : Nat) (cs : List Value) (F : Nat → Prop) (w : World) (tag aI : Int) (aJ aK : List Zd) (vi vk : Value) (h : Z3 F w B r cs) (hi : Zo Zg 6 F w aJ vi) (hk : Zo Zg 6 F w aK vk) (hkz : aK.length ≤ 1048576) :
  Calls Tryz.prog 51 #[.pointer (some ⟨B, 0, none⟩), .agg #[.int .i64 5, .int .i64 tag, .int .i64 aI, vi, vk]] w fun e w' => e = .returned (.bool (Zai r ⟨5, tag, aI, aJ, aK⟩)) ∧ Below w.heap.size w w' := by
 obtain ⟨R, hR⟩ : ∃ R, Zai r ⟨5, tag, aI, aJ, aK⟩ = R := ⟨_, rfl⟩;rw [hR];have HR0 := zh hR;clear hR;obtain ⟨Ai, ci, rfl, hci, hcmi, _⟩ := id hi;obtain ⟨Ak, ck, rfl, hck, hcmk, _⟩ := id hk;unfold maxLen at hcmi hcmk;have hl1 := (Za.refl w).alloc (.cells #[.int .i64 5, .int .i64 tag, .int .i64 aI, .slice Ai aJ.length ci, .slice Ak aK.length ck] 94);have HS := zh (h.later hl1);have HI := zh (hi.later Zc hl1);have HK := zh (hk.later Zc hl1);have HM := zh (heap_alloc_new w (.cells #[.int .i64 5, .int .i64 tag, .int .i64 aI, .slice Ai aJ.length ci, .slice Ak aK.length ck] 94));have HB := zh hl1;obtain ⟨w1, hw1⟩ : ∃ x, x = w.alloc (.cells #[.int .i64 5, .int .i64 tag, .int .i64 aI, .slice Ai aJ.length ci, .slice Ak aK.length ck] 94) := ⟨_, rfl⟩;rw [← hw1] at HS HI HK HM HB;have HLC := zh (Za.refl w1);clear h hi hk hl1;obtain ⟨s1, hs1⟩ : ∃ q, (decide (1 ≤ aI)) = q := ⟨_, rfl⟩;have W0s1 : (decide (aI < 1)) = !s1 := by rw [← hs1]; exact (by rw [Bool.eq_iff_iff]; simp only [nJ, nK, nL, ne_eq, nM, nI, nH] <;> omega)
 obtain ⟨s2, hs2⟩ : ∃ q, (decide (aI ≤ r.made)) = q := ⟨_, rfl⟩;have W0s2 : (decide (r.made < aI)) = !s2 := by rw [← hs2]; exact (by rw [Bool.eq_iff_iff]; simp only [nJ, nK, nL, ne_eq, nM, nI, nH] <;> omega)
 obtain ⟨ky, hky⟩ : ∃ q, (decide (aK.length = 0)) = q := ⟨_, rfl⟩;have W0ky : ((aK.length : Int) != 0) = !ky := by rw [← hky]; exact (by rw [Bool.eq_iff_iff]; simp only [nJ, nK, nL, ne_eq, nM, nI, nH] <;> omega)
 have W1ky : ((aK.length : Int) == 0) = ky := by rw [← hky]; exact (by rw [Bool.eq_iff_iff]; simp only [nJ, nK, nL, ne_eq, nM, nI, nH] <;> omega)
 obtain ⟨t1, ht1⟩ : ∃ q, (decide (0 ≤ tag)) = q := ⟨_, rfl⟩;have W0t1 : (decide (0 ≤ tag)) = t1 := ht1;obtain ⟨X, hX⟩ : ∃ X, Zag r ⟨5, tag, aI, aJ, aK⟩ = X := ⟨_, rfl⟩;have HR := zh (show R = ((s1 && s2) && (ky && (X))) by rw [← HR0.o, ← hs1, ← hs2, ← hky, ← hX]; try rfl);have Hs1 := zh hs1;clear hs1;have Hs2 := zh hs2;clear hs2;have Hky := zh hky;clear hky;have Ht1 := zh ht1;clear ht1;have HX := zh hX;clear hX;obtain ⟨tz, htz⟩ : ∃ q, (tag == 0) = q := ⟨_, rfl⟩;go_enter Tryz.func51, Tryz.ntmps51;go_upto_region 2 with (fail);rw [← hw1];clear hw1
 cases s1 with
 | false =>
  simp only [Bool.not_false] at W0s1;refine Z4 (fun W hW => ?_);have hWL : Za w1 W := by rw [hW]; exact (Za.refl _).drew
  clear hW;replace HLC := zh (HLC.o.trans hWL);clear hWL;have HMC := zB HLC HM;obtain ⟨m0, m1, m2, m3, m4⟩ := cz5 HMC.o;have y12 := (HS.o.later HLC.o).made_;have hMB := Zb HMC.o;have hSB := (HS.o.later HLC.o).lt
  repeat go_big_quiet_step (fail)
  refine wpQuiet_nil ?_;have hR0 : R = false := by rw [HR.o]; try simp
  subst hR0;go_wp2_with fail;go_ret;exact ⟨rfl, HB.o.trans HLC.o⟩
 | true =>
  simp only [Bool.not_true] at W0s1
  cases s2 with
  | false =>
   simp only [Bool.not_false] at W0s2;refine Z4 (fun W hW => ?_);have hWL : Za w1 W := by rw [hW]; exact (Za.refl _).drew
   clear hW;replace HLC := zh (HLC.o.trans hWL);clear hWL;have HMC := zB HLC HM;obtain ⟨m0, m1, m2, m3, m4⟩ := cz5 HMC.o;have y12 := (HS.o.later HLC.o).made_;have hMB := Zb HMC.o;have hSB := (HS.o.later HLC.o).lt
   repeat go_big_quiet_step (fail)
   refine wpQuiet_nil ?_;have hR0 : R = false := by rw [HR.o]; try simp
   subst hR0;go_wp2_with fail;go_ret;exact ⟨rfl, HB.o.trans HLC.o⟩
  | true =>
   simp only [Bool.not_true] at W0s2;refine Z4 (fun V hV => ?_);have hVL : Za w1 V := by rw [hV]; exact (Za.refl _).drew
   clear hV;replace HLC := zh (HLC.o.trans hVL);clear hVL;have HMC := zB HLC HM;obtain ⟨m0, m1, m2, m3, m4⟩ := cz5 HMC.o;have y12 := (HS.o.later HLC.o).made_;have hMB := Zb HMC.o;have hSB := (HS.o.later HLC.o).lt
   repeat go_big_quiet_step (fail)
   refine wpQuiet_nil ?_;clear y12 hMB hSB;go_upto_region 20 with (fail);clear m0 m1 m2 m3 m4 HMC
   cases t1 with
   | false =>
    have hX0 : X = false := by rw [← HX.o]; have := of_decide_eq_false Ht1.o; simp [Zag, this]
    replace HR := zh (show R = false by rw [HR.o, hX0]; simp);refine Z4 (fun W hW => ?_);have hWL : Za V W := by rw [hW]; exact (Za.refl _).drew
    clear hW;replace HLC := zh (HLC.o.trans hWL);clear hWL;have HMC := zB HLC HM;obtain ⟨m0, m1, m2, m3, m4⟩ := cz5 HMC.o;have y12 := (HS.o.later HLC.o).made_;have hMB := Zb HMC.o;have hSB := (HS.o.later HLC.o).lt
    repeat go_big_quiet_step (fail)
    refine wpQuiet_nil ?_;go_upto_region 21 with (fail);clear HMC m0 m1 m2 m3 m4 y12 hMB hSB;refine Z4 (fun U hU => ?_);have hUL : Za W U := by rw [hU]; exact (Za.refl _).drew
    clear hU;replace HLC := zh (HLC.o.trans hUL);clear hUL;have HMC := zB HLC HM;obtain ⟨m0, m1, m2, m3, m4⟩ := cz5 HMC.o;have y12 := (HS.o.later HLC.o).made_;have hMB := Zb HMC.o;have hSB := (HS.o.later HLC.o).lt
    repeat go_big_quiet_step (fail)
    refine wpQuiet_nil ?_;go_upto_region 32 with (fail)
    cases ky with
    | false =>
     have hR0 : R = false := by rw [HR.o]; try simp
     subst hR0;go_wp2_with fail;go_ret;exact ⟨rfl, HB.o.trans HLC.o⟩
    | true =>
     have hR0 : R = false := by rw [HR.o]; try simp
     subst hR0;go_wp2_with fail;go_ret;exact ⟨rfl, HB.o.trans HLC.o⟩
   | true =>
    obtain ⟨i, rfl⟩ : ∃ i : Nat, tag = i := ⟨tag.toNat, by have := of_decide_eq_true Ht1.o; omega⟩
    by_cases hlt : i < r.aB.length
    ·have u2 : decide ((i : Int) < (r.aB.length : Int)) = true := decide_eq_true (by omega);have hlt2 : (i : Int) < (r.aB.length : Int) := by omega
     obtain ⟨b3, hb3⟩ : ∃ q, (decide (aJ.length = r.aB[i].fields.length)) = q := ⟨_, rfl⟩;have W0b3 : ((aJ.length : Int) == (r.aB[i].fields.length : Int)) = b3 := by rw [← hb3]; exact (by rw [Bool.eq_iff_iff]; simp only [nJ, nK, nL, ne_eq, nM, nI, nH] <;> omega)
     obtain ⟨ai, hai⟩ : ∃ q, (Zao r aJ) = q := ⟨_, rfl⟩;replace HR := zh (show R = (true && true && (ky && (b3 && ai))) by rw [HR.o, ← HX.o, ← hb3, ← hai]; simp [Zag, hlt]);have Hb3 := zh hb3;have Hai := zh hai;clear hb3 hai;refine Z4 (fun W hW => ?_);have hWL : Za V W := by rw [hW]; exact (Za.refl _).drew
     clear hW;replace HLC := zh (HLC.o.trans hWL);clear hWL;have HMC := zB HLC HM;obtain ⟨m0, m1, m2, m3, m4⟩ := cz5 HMC.o;have y12 := (HS.o.later HLC.o).made_;have hMB := Zb HMC.o;have hSB := (HS.o.later HLC.o).lt;obtain ⟨Ar, cr, y1, hcr, hcmr, hrr⟩ := (HS.o.later HLC.o).aB;unfold maxLen at hcmr
     repeat go_big_quiet_step (fail)
     refine wpQuiet_nil ?_;go_upto_region 21 with (fail);clear HMC m0 m1 m2 m3 m4 y12 hMB hSB
     cases b3 with
     | false =>
      refine Z4 (fun U hU => ?_);have hUL : Za W U := by rw [hU]; exact (Za.refl _).drew
      clear hU;replace HLC := zh (HLC.o.trans hUL);clear hUL;have HMC := zB HLC HM;obtain ⟨m0, m1, m2, m3, m4⟩ := cz5 HMC.o;have y12 := (HS.o.later HLC.o).made_;have hMB := Zb HMC.o;have hSB := (HS.o.later HLC.o).lt;obtain ⟨Ar, cr, y1, hcr, hcmr, hrr⟩ := (HS.o.later HLC.o).aB;unfold maxLen at hcmr;obtain ⟨rb, ro, Af, cf, e0, hrb, yr⟩ := Z3.rec_ hrr hlt;cases e0
      repeat go_big_quiet_step (fail)
      refine wpQuiet_nil ?_;go_upto_region 32 with (fail)
      cases ky with
      | false =>
       have hR0 : R = false := by rw [HR.o]; try simp
       subst hR0;go_wp2_with fail;go_ret;exact ⟨rfl, HB.o.trans HLC.o⟩
      | true =>
       have hR0 : R = false := by rw [HR.o]; try simp
       subst hR0;go_wp2_with fail;go_ret;exact ⟨rfl, HB.o.trans HLC.o⟩
     | true =>
      refine Zax [21, 22, 23] [] (by kernel_rfl) (fun U hU => ?_);have hUL : Za W U := by rw [hU]; exact (Za.refl _).drew
      clear hU;replace HLC := zh (HLC.o.trans hUL);clear hUL;have HMC := zB HLC HM;obtain ⟨m0, m1, m2, m3, m4⟩ := cz5 HMC.o;have y12 := (HS.o.later HLC.o).made_;have hMB := Zb HMC.o;have hSB := (HS.o.later HLC.o).lt;obtain ⟨Ar, cr, y1, hcr, hcmr, hrr⟩ := (HS.o.later HLC.o).aB;unfold maxLen at hcmr;obtain ⟨rb, ro, Af, cf, e0, hrb, yr⟩ := Z3.rec_ hrr hlt;cases e0;refine tU 0 141 (v := ?_) rfl rfl (fun x hx => ?_) ?_;rotate_left
      ·go_simp;first|done|with_reducible rfl
      simp only [Act.put, nA, nB, nC];refine tU 1 142 (v := ?_) rfl rfl (fun x hx => ?_) ?_;rotate_left
      ·go_simp;first|done|with_reducible rfl
      simp only [Act.put, nA, nB, nC];refine tU 2 143 (v := ?_) rfl rfl (fun x hx => ?_) ?_;rotate_left
      ·go_simp;first|done|with_reducible rfl
      simp only [Act.put, nA, nB, nC];refine tU 3 144 (v := ?_) rfl rfl (fun x hx => ?_) ?_;rotate_left
      ·have x0 := (hx.cell ⟨w.heap.size, 0, none⟩ hMB).trans m0; have x1 := (hx.cell ⟨w.heap.size, 1, none⟩ hMB).trans m1; have x2 := (hx.cell ⟨w.heap.size, 2, none⟩ hMB).trans m2; have x3 := (hx.cell ⟨w.heap.size, 3, none⟩ hMB).trans m3; have x4 := (hx.cell ⟨w.heap.size, 4, none⟩ hMB).trans m4; have x12 := (hx.cell ⟨B, 12, none⟩ hSB).trans y12; have x1r := (hx.cell ⟨B, 1, none⟩ hSB).trans y1; have xr := (hx.cell ⟨rb, ro + i * 3 + 1, none⟩ hrb).trans yr; go_simp;first|done|with_reducible rfl
      simp only [Act.put, nA, nB, nC];refine tU 4 145 (v := ?_) rfl rfl (fun x hx => ?_) ?_;rotate_left
      ·go_simp;first|done|with_reducible rfl
      simp only [Act.put, nA, nB, nC];refine tU 5 146 (v := ?_) rfl rfl (fun x hx => ?_) ?_;rotate_left
      ·go_simp;first|done|with_reducible rfl
      simp only [Act.put, nA, nB, nC];refine tU 6 147 (v := ?_) rfl rfl (fun x hx => ?_) ?_;rotate_left
      ·go_simp;first|done|with_reducible rfl
      simp only [Act.put, nA, nB, nC];refine tU 7 148 (v := ?_) rfl rfl (fun x hx => ?_) ?_;rotate_left
      ·go_simp;first|done|with_reducible rfl
      simp only [Act.put, nA, nB, nC];refine tU 8 149 (v := ?_) rfl rfl (fun x hx => ?_) ?_;rotate_left
      ·have x0 := (hx.cell ⟨w.heap.size, 0, none⟩ hMB).trans m0; have x1 := (hx.cell ⟨w.heap.size, 1, none⟩ hMB).trans m1; have x2 := (hx.cell ⟨w.heap.size, 2, none⟩ hMB).trans m2; have x3 := (hx.cell ⟨w.heap.size, 3, none⟩ hMB).trans m3; have x4 := (hx.cell ⟨w.heap.size, 4, none⟩ hMB).trans m4; have x12 := (hx.cell ⟨B, 12, none⟩ hSB).trans y12; have x1r := (hx.cell ⟨B, 1, none⟩ hSB).trans y1; have xr := (hx.cell ⟨rb, ro + i * 3 + 1, none⟩ hrb).trans yr; go_simp;first|done|with_reducible rfl
      simp only [Act.put, nA, nB, nC];refine tU 9 150 (v := ?_) rfl rfl (fun x hx => ?_) ?_;rotate_left
      ·go_simp;first|done|with_reducible rfl
      simp only [Act.put, nA, nB, nC];refine tU 10 151 (v := ?_) rfl rfl (fun x hx => ?_) ?_;rotate_left
      ·have x0 := (hx.cell ⟨w.heap.size, 0, none⟩ hMB).trans m0; have x1 := (hx.cell ⟨w.heap.size, 1, none⟩ hMB).trans m1; have x2 := (hx.cell ⟨w.heap.size, 2, none⟩ hMB).trans m2; have x3 := (hx.cell ⟨w.heap.size, 3, none⟩ hMB).trans m3; have x4 := (hx.cell ⟨w.heap.size, 4, none⟩ hMB).trans m4; have x12 := (hx.cell ⟨B, 12, none⟩ hSB).trans y12; have x1r := (hx.cell ⟨B, 1, none⟩ hSB).trans y1; have xr := (hx.cell ⟨rb, ro + i * 3 + 1, none⟩ hrb).trans yr; go_simp;first|done|with_reducible rfl
      simp only [Act.put, nA, nB, nC];refine tU 11 152 (v := ?_) rfl rfl (fun x hx => ?_) ?_;rotate_left
      ·go_simp;first|done|with_reducible rfl|rw[if_neg (by omega)]|rw[if_pos (by omega)]
      simp only [Act.put, nA, nB, nC];refine tU 12 153 (v := ?_) rfl rfl (fun x hx => ?_) ?_;rotate_left
      ·go_simp;first|done|with_reducible rfl
      simp only [Act.put, nA, nB, nC];refine tU 13 154 (v := ?_) rfl rfl (fun x hx => ?_) ?_;rotate_left
      ·have x0 := (hx.cell ⟨w.heap.size, 0, none⟩ hMB).trans m0; have x1 := (hx.cell ⟨w.heap.size, 1, none⟩ hMB).trans m1; have x2 := (hx.cell ⟨w.heap.size, 2, none⟩ hMB).trans m2; have x3 := (hx.cell ⟨w.heap.size, 3, none⟩ hMB).trans m3; have x4 := (hx.cell ⟨w.heap.size, 4, none⟩ hMB).trans m4; have x12 := (hx.cell ⟨B, 12, none⟩ hSB).trans y12; have x1r := (hx.cell ⟨B, 1, none⟩ hSB).trans y1; have xr := (hx.cell ⟨rb, ro + i * 3 + 1, none⟩ hrb).trans yr; go_simp;first|done|with_reducible rfl
      simp only [Act.put, nA, nB, nC];refine tU 14 155 (v := ?_) rfl rfl (fun x hx => ?_) ?_;rotate_left
      ·go_simp;first|done|with_reducible rfl
      simp only [Act.put, nA, nB, nC];refine tU 15 156 (v := ?_) rfl rfl (fun x hx => ?_) ?_;rotate_left
      ·go_simp;first|done|with_reducible rfl
      simp only [Act.put, nA, nB, nC];refine tU 16 157 (v := ?_) rfl rfl (fun x hx => ?_) ?_;rotate_left
      ·go_simp;first|done|with_reducible rfl
      simp only [Act.put, nA, nB, nC];refine tU 17 158 (v := ?_) rfl rfl (fun x hx => ?_) ?_;rotate_left
      ·go_simp;first|done|with_reducible rfl
      simp only [Act.put, nA, nB, nC];refine tU 18 159 (v := ?_) rfl rfl (fun x hx => ?_) ?_;rotate_left
      ·go_simp;first|done|with_reducible rfl
      simp only [Act.put, nA, nB, nC];refine tU 19 160 (v := ?_) rfl rfl (fun x hx => ?_) ?_;rotate_left
      ·go_simp;first|done|with_reducible rfl
      simp only [Act.put, nA, nB, nC];refine tU 20 161 (v := ?_) rfl rfl (fun x hx => ?_) ?_;rotate_left
      ·have x0 := (hx.cell ⟨w.heap.size, 0, none⟩ hMB).trans m0; have x1 := (hx.cell ⟨w.heap.size, 1, none⟩ hMB).trans m1; have x2 := (hx.cell ⟨w.heap.size, 2, none⟩ hMB).trans m2; have x3 := (hx.cell ⟨w.heap.size, 3, none⟩ hMB).trans m3; have x4 := (hx.cell ⟨w.heap.size, 4, none⟩ hMB).trans m4; have x12 := (hx.cell ⟨B, 12, none⟩ hSB).trans y12; have x1r := (hx.cell ⟨B, 1, none⟩ hSB).trans y1; have xr := (hx.cell ⟨rb, ro + i * 3 + 1, none⟩ hrb).trans yr; go_simp;first|done|with_reducible rfl
      simp only [Act.put, nA, nB, nC];refine Za7 [_, _, _] (by kernel_rfl) rfl rfl ?_;simp only [List.getElem_toArray, List.getElem_cons_succ, List.getElem_cons_zero];go_wp2_with fail;refine (Zbj r B cs F _ aJ _ (HS.o.later HLC.o) (HI.o.later Zc HLC.o)).mono ?_;rw [Hai.o];rintro e w5 ⟨rfl, hcl⟩;clear HMC m0 m1 m2 m3 m4;replace HLC := zh (HLC.o.trans hcl);clear hcl;go_upto_region 32 with (fail)
      cases ky with
      | false =>
       have hR0 : R = false := by rw [HR.o]; try simp
       subst hR0;go_wp2_with fail;go_ret;exact ⟨rfl, HB.o.trans HLC.o⟩
      | true =>
       cases ai with
       | false =>
        have hR0 : R = false := by rw [HR.o]; try simp
        subst hR0;go_wp2_with fail;go_ret;exact ⟨rfl, HB.o.trans HLC.o⟩
       | true =>
        have hR0 : R = true := by rw [HR.o]; simp
        subst hR0;go_wp2_with fail;go_ret;exact ⟨rfl, HB.o.trans HLC.o⟩
    ·have u2 : decide ((i : Int) < (r.aB.length : Int)) = false := decide_eq_false (by omega);have hX0 : X = false := by rw [← HX.o]; simp [Zag, List.getElem?_eq_none (show r.aB.length ≤ i by omega)]
     replace HR := zh (show R = false by rw [HR.o, hX0]; simp);refine Z4 (fun W hW => ?_);have hWL : Za V W := by rw [hW]; exact (Za.refl _).drew
     clear hW;replace HLC := zh (HLC.o.trans hWL);clear hWL;have HMC := zB HLC HM;obtain ⟨m0, m1, m2, m3, m4⟩ := cz5 HMC.o;have y12 := (HS.o.later HLC.o).made_;have hMB := Zb HMC.o;have hSB := (HS.o.later HLC.o).lt;obtain ⟨Ar, cr, y1, hcr, hcmr, hrr⟩ := (HS.o.later HLC.o).aB;unfold maxLen at hcmr
     repeat go_big_quiet_step (fail)
     refine wpQuiet_nil ?_;go_upto_region 21 with (fail);clear HMC m0 m1 m2 m3 m4 y12 hMB hSB;refine Z4 (fun U hU => ?_);have hUL : Za W U := by rw [hU]; exact (Za.refl _).drew
     clear hU;replace HLC := zh (HLC.o.trans hUL);clear hUL;have HMC := zB HLC HM;obtain ⟨m0, m1, m2, m3, m4⟩ := cz5 HMC.o;have y12 := (HS.o.later HLC.o).made_;have hMB := Zb HMC.o;have hSB := (HS.o.later HLC.o).lt
     repeat go_big_quiet_step (fail)
     refine wpQuiet_nil ?_;go_upto_region 32 with (fail)
     cases ky with
     | false =>
      have hR0 : R = false := by rw [HR.o]; try simp
      subst hR0;go_wp2_with fail;go_ret;exact ⟨rfl, HB.o.trans HLC.o⟩
     | true =>
      have hR0 : R = false := by rw [HR.o]; try simp
      subst hR0;go_wp2_with fail;go_ret;exact ⟨rfl, HB.o.trans HLC.o⟩
end Go.Proofs.YtpmhelkiicigfaaGreatDoor
namespace Go.Proofs.YtpmhelkiicigfaaGreatDoor
open Go.RowKit
end Go.Proofs.YtpmhelkiicigfaaGreatDoor
namespace Go.Proofs.YtpmhelkiicigfaaGreatDoor
open Go.RowKit
/-- The world y, with W's blocks below: it shows that it is later than W. -/
def Zdy (W y : World) : World := { y with os := W.os, tape := W.tape, output := W.output, heap := W.heap ++ y.heap.extract W.heap.size y.heap.size }
theorem Zm (W y : World) : Za W (Zdy W y) := by
 refine ⟨rfl, rfl, rfl, ?_, fun k hk => ?_⟩
 ·show W.heap.size ≤ (W.heap ++ _).size;simp
 ·show (W.heap ++ _)[k]? = W.heap[k]?;exact Array.getElem?_append_left hk
theorem Zch {W x : World} (h : Za W x) : x = Zdy W x := by
 have h1 : x.heap = W.heap ++ x.heap.extract W.heap.size x.heap.size := by
  have hs := h.size
  apply Array.ext
  ·simp; omega
  ·intro i h1 h2
   rcases Nat.lt_or_ge i W.heap.size with h3 | h3
   ·have h4 := h.block i h3;rw [Array.getElem?_eq_getElem h1, Array.getElem?_eq_getElem h3] at h4;rw [Array.getElem_append_left h3];exact Option.some.inj h4
   ·rw [Array.getElem_append_right h3];simp [Nat.add_sub_cancel' h3]
 cases x
 simp only [Zdy, World.mk.injEq];have h2 := h.os;have h3 := h.tape;have h4 := h.output;simp only at h1 h2 h3 h4;simp [h1.symm, h2, h3, h4]
theorem Zc5 {G : World → Prop} {W : World} (h : ∀ V, Za W V → G V) : ∀ w', (∃ y, w' = Zdy W y) → G w' := by
 rintro _ ⟨y, rfl⟩;exact h _ (Zm _ _)
theorem Zf4 {P : Program} {id : Nat} {Q : Exit → Act → World → Prop} {a : Act} {w : World} {l : List Oper} (W : World) (hm : P.follows .mixedOrders = true) (hB : Region.lexB .any l.toArray = true) (hW : Za W w)
  (h : wpQuiet P l.toArray (fun x => ∃ y, x = Zdy W y) (fun a' => ∀ w', (∃ y, w' = Zdy W y) → Q .normal a' w') l a) : (Code.region id l.toArray true).wp P Q a w :=
 wp_region_quiet (C := fun x => ∃ y, x = Zdy W y) hm hB ⟨w.drew, Zch hW.drew⟩ (by simpa using h)
theorem cg5 {w : World} (g : Nat) {t : TypeId} {fr : Nat × Nat} {a0 a1 a2 a3 a4 : Value} (h : w.heap[g]? = some (.cells #[a0, a1, a2, a3, a4] t fr)) : (∀ y, (Zdy w y).cell? ⟨g, 0, none⟩ = some a0) ∧ (∀ y, (Zdy w y).cell? ⟨g, 1, none⟩ = some a1) ∧ (∀ y, (Zdy w y).cell? ⟨g, 2, none⟩ = some a2) ∧ (∀ y, (Zdy w y).cell? ⟨g, 3, none⟩ = some a3) ∧ (∀ y, (Zdy w y).cell? ⟨g, 4, none⟩ = some a4) := ⟨fun y => cell_of_row _ g 0 _ t fr (((Zm w y).block g (Zb h)).trans h), fun y => cell_of_row _ g 1 _ t fr (((Zm w y).block g (Zb h)).trans h), fun y => cell_of_row _ g 2 _ t fr (((Zm w y).block g (Zb h)).trans h), fun y => cell_of_row _ g 3 _ t fr (((Zm w y).block g (Zb h)).trans h), fun y => cell_of_row _ g 4 _ t fr (((Zm w y).block g (Zb h)).trans h)⟩
theorem vg {w : World} {b o : Nat} {v : Zd} (h : VAt w b o v) : (∀ y, (Zdy w y).cell? ⟨b, o, none⟩ = some (.int .i64 v.kind)) ∧ (∀ y, (Zdy w y).cell? ⟨b, o + 1, none⟩ = some (.int .i64 v.aH)) ∧ (∀ y, (Zdy w y).cell? ⟨b, o + 2, none⟩ = some (.int .i64 v.index)) ∧ (∀ y, (Zdy w y).cell? ⟨b, o + 3, none⟩ = some (.string v.text)) ∧ (∀ y, (Zdy w y).cell? ⟨b, o + 4, none⟩ = some (.int .i64 v.set_.low)) ∧ (∀ y, (Zdy w y).cell? ⟨b, o + 5, none⟩ = some (.int .i64 v.set_.high)) :=
 ⟨fun y => (h.later (Zm w y)).c0, fun y => (h.later (Zm w y)).c1, fun y => (h.later (Zm w y)).c2, fun y => (h.later (Zm w y)).c3, fun y => (h.later (Zm w y)).c4, fun y => (h.later (Zm w y)).c5⟩
theorem Zv2 (r : Zf) (B : Nat) (cs : List Value) (F : Nat → Prop) (w : World) (tag aI : Int) (aJ aK : List Zd) (vi vk : Value) (h : Z3 F w B r cs) (hi : Zo Zg 6 F w aJ vi) (hk : Zo Zg 6 F w aK vk) (hkz : aK.length ≤ 1048576) :
  Calls Tryz.prog 51 #[.pointer (some ⟨B, 0, none⟩), .agg #[.int .i64 9, .int .i64 tag, .int .i64 aI, vi, vk]] w fun e w' => e = .returned (.bool (Zai r ⟨9, tag, aI, aJ, aK⟩)) ∧ Below w.heap.size w w' := by
 obtain ⟨R, hR⟩ : ∃ R, Zai r ⟨9, tag, aI, aJ, aK⟩ = R := ⟨_, rfl⟩;rw [hR];have HR0 := zh hR;clear hR;obtain ⟨Ai, ci, rfl, hci, hcmi, _⟩ := id hi;obtain ⟨Ak, ck, rfl, hck, hcmk, _⟩ := id hk;unfold maxLen at hcmi hcmk;have hl1 := (Za.refl w).alloc (.cells #[.int .i64 9, .int .i64 tag, .int .i64 aI, .slice Ai aJ.length ci, .slice Ak aK.length ck] 94);have HS := zh (h.later hl1);have HI := zh (hi.later Zc hl1);have HK := zh (hk.later Zc hl1);have HM := zh (heap_alloc_new w (.cells #[.int .i64 9, .int .i64 tag, .int .i64 aI, .slice Ai aJ.length ci, .slice Ak aK.length ck] 94));have HB := zh hl1;obtain ⟨w1, hw1⟩ : ∃ x, x = w.alloc (.cells #[.int .i64 9, .int .i64 tag, .int .i64 aI, .slice Ai aJ.length ci, .slice Ak aK.length ck] 94) := ⟨_, rfl⟩;rw [← hw1] at HS HI HK HM HB;have HLC := zh (Za.refl w1);clear h hi hk hl1;obtain ⟨s0, hs0⟩ : ∃ q, (aI == 0) = q := ⟨_, rfl⟩;have W0s0 : (aI != 0) = !s0 := by rw [← hs0]; exact (by rw [Bool.eq_iff_iff]; simp only [nJ, nK, nL, ne_eq, nM, nI, nH] <;> omega)
 obtain ⟨tg, htg⟩ : ∃ q, (tag == 0) = q := ⟨_, rfl⟩;have W0tg : (tag != 0) = !tg := by rw [← htg]; exact (by rw [Bool.eq_iff_iff]; simp only [nJ, nK, nL, ne_eq, nM, nI, nH] <;> omega)
 have W1tg : (tag == 0) = tg := htg;obtain ⟨ky, hky⟩ : ∃ q, (decide (aK.length = 0)) = q := ⟨_, rfl⟩;have W0ky : ((aK.length : Int) != 0) = !ky := by rw [← hky]; exact (by rw [Bool.eq_iff_iff]; simp only [nJ, nK, nL, ne_eq, nM, nI, nH] <;> omega)
 have W1ky : ((aK.length : Int) == 0) = ky := by rw [← hky]; exact (by rw [Bool.eq_iff_iff]; simp only [nJ, nK, nL, ne_eq, nM, nI, nH] <;> omega)
 obtain ⟨b1, hb1⟩ : ∃ q, (decide (aJ.length = 2)) = q := ⟨_, rfl⟩;have W0b1 : ((aJ.length : Int) == 2) = b1 := by rw [← hb1]; exact (by rw [Bool.eq_iff_iff]; simp only [nJ, nK, nL, ne_eq, nM, nI, nH] <;> omega)
 obtain ⟨X, hX⟩ : ∃ X, Zag r ⟨9, tag, aI, aJ, aK⟩ = X := ⟨_, rfl⟩;have HR := zh (show R = (s0 && (tg && (ky && (X)))) by rw [← HR0.o, ← hs0, ← htg, ← hky, ← hX]; try rfl);have Hs0 := zh hs0;clear hs0;have Htg := zh htg;clear htg;have Hky := zh hky;clear hky;have Hb1 := zh hb1;clear hb1;have HX := zh hX;clear hX;go_enter Tryz.func51, Tryz.ntmps51;go_upto_region 2 with (fail);rw [← hw1];clear hw1
 cases s0 with
 | false =>
  simp only [Bool.not_false] at W0s0;refine Z4 (fun W hW => ?_);have hWL : Za w1 W := by rw [hW]; exact (Za.refl _).drew
  clear hW;replace HLC := zh (HLC.o.trans hWL);clear hWL;have HMC := zB HLC HM;obtain ⟨m0, m1, m2, m3, m4⟩ := cz5 HMC.o;have y12 := (HS.o.later HLC.o).made_;have hMB := Zb HMC.o;have hSB := (HS.o.later HLC.o).lt
  repeat go_big_quiet_step (fail)
  refine wpQuiet_nil ?_;have hR0 : R = false := by rw [HR.o]; try simp
  subst hR0;go_wp2_with fail;go_ret;exact ⟨rfl, HB.o.trans HLC.o⟩
 | true =>
  simp only [Bool.not_true] at W0s0;refine Z4 (fun V hV => ?_);have hVL : Za w1 V := by rw [hV]; exact (Za.refl _).drew
  clear hV;replace HLC := zh (HLC.o.trans hVL);clear hVL;have HMC := zB HLC HM;obtain ⟨m0, m1, m2, m3, m4⟩ := cz5 HMC.o;have y12 := (HS.o.later HLC.o).made_;have hMB := Zb HMC.o;have hSB := (HS.o.later HLC.o).lt
  repeat go_big_quiet_step (fail)
  refine wpQuiet_nil ?_;clear y12 hMB hSB;go_upto_region 31 with (fail);clear m0 m1 m2 m3 m4 HMC;obtain ⟨m0, m1, m2, m3, m4⟩ := cz5 HM.o;have y12 := HS.o.made_;have hMB := Zb HM.o;have hSB := HS.o.lt
  cases b1 with
  | false =>
   have hX0 : X = false := by
    rw [← HX.o]
    match aJ, of_decide_eq_false Hb1.o with
    | [], _ => first | rfl | simp [Zag]
    | [_], _ => first | rfl | simp [Zag]
    | _ :: _ :: _ :: _, _ => first | rfl | simp [Zag]
    | [_, _], h => exact absurd rfl h
   replace HR := zh (show R = false by rw [HR.o, hX0]; simp);refine Z4 (fun W hW => ?_);replace HLC := zh (HLC.o.trans (show Za V W by rw [hW]; exact (Za.refl _).drew));clear hW;have hx := HLC.o;have x0 := (hx.cell ⟨w.heap.size, 0, none⟩ hMB).trans m0; have x1 := (hx.cell ⟨w.heap.size, 1, none⟩ hMB).trans m1; have x2 := (hx.cell ⟨w.heap.size, 2, none⟩ hMB).trans m2; have x3 := (hx.cell ⟨w.heap.size, 3, none⟩ hMB).trans m3; have x4 := (hx.cell ⟨w.heap.size, 4, none⟩ hMB).trans m4; have x12 := (hx.cell ⟨B, 12, none⟩ hSB).trans y12
   repeat go_big_quiet_step (fail)
   refine wpQuiet_nil ?_;clear hx x0 x1 x2 x3 x4 x12;go_upto_region 32 with (fail)
   cases tg with
   | false =>
    have hR0 : R = false := by rw [HR.o]; try simp
    subst hR0;go_wp2_with fail;go_ret;exact ⟨rfl, HB.o.trans HLC.o⟩
   | true =>
    cases ky with
    | false =>
     have hR0 : R = false := by rw [HR.o]; try simp
     subst hR0;go_wp2_with fail;go_ret;exact ⟨rfl, HB.o.trans HLC.o⟩
    | true =>
     have hR0 : R = false := by rw [HR.o]; try simp
     subst hR0;go_wp2_with fail;go_ret;exact ⟨rfl, HB.o.trans HLC.o⟩
  | true =>
   have hlen : aJ.length = 2 := of_decide_eq_true Hb1.o;clear W0b1 Hb1;obtain ⟨a, b, rfl⟩ : ∃ a b, aJ = [a, b] := by
    match aJ, hlen with
    | [a0, b0], _ => exact ⟨a0, b0, rfl⟩
   clear hlen;obtain ⟨k0, hk0⟩ : ∃ q, (a.kind == 2) = q := ⟨_, rfl⟩;have W0k0 : (a.kind == 2) = k0 := hk0;obtain ⟨k1, hk1⟩ : ∃ q, (b.kind == 1) = q := ⟨_, rfl⟩;have W0k1 : (b.kind == 1) = k1 := hk1;obtain ⟨ai, hai⟩ : ∃ q, (Zao r [a, b]) = q := ⟨_, rfl⟩;obtain ⟨n1, hn1⟩ : ∃ q, (decide (1 ≤ b.aH)) = q := ⟨_, rfl⟩;have W0n1 : (decide (1 ≤ b.aH)) = n1 := hn1;obtain ⟨n2, hn2⟩ : ∃ q, (decide (b.aH ≤ (a.text.size : Int) + 1)) = q := ⟨_, rfl⟩;have W0n2 : (decide (b.aH ≤ (a.text.size : Int) + 1)) = n2 := hn2;replace HR := zh (show R = (true && (tg && (ky && (k0 && (k1 && (ai && (n1 && n2))))))) by rw [HR.o, ← HX.o, ← hk0, ← hk1, ← hai, ← hn1, ← hn2]; simp [Zag, Zao, Bool.and_assoc]);have Hk0 := zh hk0;clear hk0;have Hk1 := zh hk1;clear hk1;have Hai := zh hai;clear hai;have Hn1 := zh hn1;clear hn1;have Hn2 := zh hn2;clear hn2;obtain ⟨b0, o0, e0, hb0, hat0, hel0⟩ := HI.o.vat (j := 0) (by simp);cases e0;simp only [List.getElem_cons_succ, List.getElem_cons_zero, Nat.reduceMul, Nat.add_zero] at hat0 hel0;have HAT0 := zh hat0;have HEL0 := zh hel0;clear hat0 hel0;obtain ⟨b1, o1, e1, hb1, hat1, hel1⟩ := HI.o.vat (j := 1) (by simp);cases e1;simp only [List.getElem_cons_succ, List.getElem_cons_zero, Nat.reduceMul, Nat.add_zero] at hat1 hel1;have HAT1 := zh hat1;have HEL1 := zh hel1;clear hat1 hel1
   cases k0 with
   | false =>
    refine Z4 (fun W hW => ?_);replace HLC := zh (HLC.o.trans (show Za V W by rw [hW]; exact (Za.refl _).drew));clear hW;have hx := HLC.o;have x0 := (hx.cell ⟨w.heap.size, 0, none⟩ hMB).trans m0; have x1 := (hx.cell ⟨w.heap.size, 1, none⟩ hMB).trans m1; have x2 := (hx.cell ⟨w.heap.size, 2, none⟩ hMB).trans m2; have x3 := (hx.cell ⟨w.heap.size, 3, none⟩ hMB).trans m3; have x4 := (hx.cell ⟨w.heap.size, 4, none⟩ hMB).trans m4; have x12 := (hx.cell ⟨B, 12, none⟩ hSB).trans y12; obtain ⟨i00, i01, i02, i03, i04, i05⟩ := HAT0.o.later hx; obtain ⟨i10, i11, i12, i13, i14, i15⟩ := HAT1.o.later hx
    repeat go_big_quiet_step (fail)
    refine wpQuiet_nil ?_;clear hx x0 x1 x2 x3 x4 x12 i00 i01 i02 i03 i04 i05 i10 i11 i12 i13 i14 i15;go_upto_region 32 with (fail)
    cases tg with
    | false =>
     have hR0 : R = false := by rw [HR.o]; try simp
     subst hR0;go_wp2_with fail;go_ret;exact ⟨rfl, HB.o.trans HLC.o⟩
    | true =>
     cases ky with
     | false =>
      have hR0 : R = false := by rw [HR.o]; try simp
      subst hR0;go_wp2_with fail;go_ret;exact ⟨rfl, HB.o.trans HLC.o⟩
     | true =>
      have hR0 : R = false := by rw [HR.o]; try simp
      subst hR0;go_wp2_with fail;go_ret;exact ⟨rfl, HB.o.trans HLC.o⟩
   | true =>
    cases k1 with
    | false =>
     refine Z4 (fun W hW => ?_);replace HLC := zh (HLC.o.trans (show Za V W by rw [hW]; exact (Za.refl _).drew));clear hW;have hx := HLC.o;have x0 := (hx.cell ⟨w.heap.size, 0, none⟩ hMB).trans m0; have x1 := (hx.cell ⟨w.heap.size, 1, none⟩ hMB).trans m1; have x2 := (hx.cell ⟨w.heap.size, 2, none⟩ hMB).trans m2; have x3 := (hx.cell ⟨w.heap.size, 3, none⟩ hMB).trans m3; have x4 := (hx.cell ⟨w.heap.size, 4, none⟩ hMB).trans m4; have x12 := (hx.cell ⟨B, 12, none⟩ hSB).trans y12; obtain ⟨i00, i01, i02, i03, i04, i05⟩ := HAT0.o.later hx; obtain ⟨i10, i11, i12, i13, i14, i15⟩ := HAT1.o.later hx
     repeat go_big_quiet_step (fail)
     refine wpQuiet_nil ?_;clear hx x0 x1 x2 x3 x4 x12 i00 i01 i02 i03 i04 i05 i10 i11 i12 i13 i14 i15;go_upto_region 32 with (fail)
     cases tg with
     | false =>
      have hR0 : R = false := by rw [HR.o]; try simp
      subst hR0;go_wp2_with fail;go_ret;exact ⟨rfl, HB.o.trans HLC.o⟩
     | true =>
      cases ky with
      | false =>
       have hR0 : R = false := by rw [HR.o]; try simp
       subst hR0;go_wp2_with fail;go_ret;exact ⟨rfl, HB.o.trans HLC.o⟩
      | true =>
       have hR0 : R = false := by rw [HR.o]; try simp
       subst hR0;go_wp2_with fail;go_ret;exact ⟨rfl, HB.o.trans HLC.o⟩
    | true =>
     cases ai with
     | false =>
      refine Zf4 w1 (by kernel_rfl) (by kernel_rfl) HLC.o ?_;obtain ⟨x0, x1, x2, x3, x4⟩ := cg5 w.heap.size HM.o;have x12 := fun y => ((Zm w1 y).cell ⟨B, 12, none⟩ hSB).trans y12;obtain ⟨i00, i01, i02, i03, i04, i05⟩ := vg HAT0.o;obtain ⟨i10, i11, i12, i13, i14, i15⟩ := vg HAT1.o
      repeat go_big_quiet_step (fail)
      go_big_quiet_step ((refine (Zbj r B cs F _ [a, b] _ (HS.o.later (Zm w1 _)) (HI.o.later Zc (Zm w1 _))).mono ?_; rw [Hai.o]; rintro e w9 ⟨rfl, hcl⟩; exact ⟨rfl, _, Zch ((Zm w1 _).trans hcl)⟩))
      repeat go_big_quiet_step (fail)
      refine wpQuiet_nil (Zc5 fun W hWL => ?_);replace HLC := zh hWL;clear hWL x0 x1 x2 x3 x4 x12 i00 i01 i02 i03 i04 i05 i10 i11 i12 i13 i14 i15;go_upto_region 32 with (fail)
      cases tg with
      | false =>
       have hR0 : R = false := by rw [HR.o]; try simp
       subst hR0;go_wp2_with fail;go_ret;exact ⟨rfl, HB.o.trans HLC.o⟩
      | true =>
       cases ky with
       | false =>
        have hR0 : R = false := by rw [HR.o]; try simp
        subst hR0;go_wp2_with fail;go_ret;exact ⟨rfl, HB.o.trans HLC.o⟩
       | true =>
        have hR0 : R = false := by rw [HR.o]; try simp
        subst hR0;go_wp2_with fail;go_ret;exact ⟨rfl, HB.o.trans HLC.o⟩
     | true =>
      have htx : a.text.size ≤ 120 := Zry (r := r) (by have := Hai.o; simp [Zao] at this; exact this.1) (by simpa using Hk0.o);have hwr : IntKind.i64.wrap ((a.text.size : Int) + 1) = (a.text.size : Int) + 1 := by rw [IntKind.wrap_i64]; omega
      cases n1 with
      | false =>
       refine Zf4 w1 (by kernel_rfl) (by kernel_rfl) HLC.o ?_;obtain ⟨x0, x1, x2, x3, x4⟩ := cg5 w.heap.size HM.o;have x12 := fun y => ((Zm w1 y).cell ⟨B, 12, none⟩ hSB).trans y12;obtain ⟨i00, i01, i02, i03, i04, i05⟩ := vg HAT0.o;obtain ⟨i10, i11, i12, i13, i14, i15⟩ := vg HAT1.o
       repeat go_big_quiet_step (fail)
       go_big_quiet_step ((refine (Zbj r B cs F _ [a, b] _ (HS.o.later (Zm w1 _)) (HI.o.later Zc (Zm w1 _))).mono ?_; rw [Hai.o]; rintro e w9 ⟨rfl, hcl⟩; exact ⟨rfl, _, Zch ((Zm w1 _).trans hcl)⟩))
       repeat go_big_quiet_step (fail)
       refine wpQuiet_nil (Zc5 fun W hWL => ?_);replace HLC := zh hWL;clear hWL x0 x1 x2 x3 x4 x12 i00 i01 i02 i03 i04 i05 i10 i11 i12 i13 i14 i15;go_upto_region 32 with (fail)
       cases tg with
       | false =>
        have hR0 : R = false := by rw [HR.o]; try simp
        subst hR0;go_wp2_with fail;go_ret;exact ⟨rfl, HB.o.trans HLC.o⟩
       | true =>
        cases ky with
        | false =>
         have hR0 : R = false := by rw [HR.o]; try simp
         subst hR0;go_wp2_with fail;go_ret;exact ⟨rfl, HB.o.trans HLC.o⟩
        | true =>
         have hR0 : R = false := by rw [HR.o]; try simp
         subst hR0;go_wp2_with fail;go_ret;exact ⟨rfl, HB.o.trans HLC.o⟩
      | true =>
       cases n2 with
       | false =>
        refine Zf4 w1 (by kernel_rfl) (by kernel_rfl) HLC.o ?_;obtain ⟨x0, x1, x2, x3, x4⟩ := cg5 w.heap.size HM.o;have x12 := fun y => ((Zm w1 y).cell ⟨B, 12, none⟩ hSB).trans y12;obtain ⟨i00, i01, i02, i03, i04, i05⟩ := vg HAT0.o;obtain ⟨i10, i11, i12, i13, i14, i15⟩ := vg HAT1.o
        repeat go_big_quiet_step (fail)
        go_big_quiet_step ((refine (Zbj r B cs F _ [a, b] _ (HS.o.later (Zm w1 _)) (HI.o.later Zc (Zm w1 _))).mono ?_; rw [Hai.o]; rintro e w9 ⟨rfl, hcl⟩; exact ⟨rfl, _, Zch ((Zm w1 _).trans hcl)⟩))
        repeat go_big_quiet_step (fail)
        refine wpQuiet_nil (Zc5 fun W hWL => ?_);replace HLC := zh hWL;clear hWL x0 x1 x2 x3 x4 x12 i00 i01 i02 i03 i04 i05 i10 i11 i12 i13 i14 i15;go_upto_region 32 with (fail)
        cases tg with
        | false =>
         have hR0 : R = false := by rw [HR.o]; try simp
         subst hR0;go_wp2_with fail;go_ret;exact ⟨rfl, HB.o.trans HLC.o⟩
        | true =>
         cases ky with
         | false =>
          have hR0 : R = false := by rw [HR.o]; try simp
          subst hR0;go_wp2_with fail;go_ret;exact ⟨rfl, HB.o.trans HLC.o⟩
         | true =>
          have hR0 : R = false := by rw [HR.o]; try simp
          subst hR0;go_wp2_with fail;go_ret;exact ⟨rfl, HB.o.trans HLC.o⟩
       | true =>
        refine Zf4 w1 (by kernel_rfl) (by kernel_rfl) HLC.o ?_;obtain ⟨x0, x1, x2, x3, x4⟩ := cg5 w.heap.size HM.o;have x12 := fun y => ((Zm w1 y).cell ⟨B, 12, none⟩ hSB).trans y12;obtain ⟨i00, i01, i02, i03, i04, i05⟩ := vg HAT0.o;obtain ⟨i10, i11, i12, i13, i14, i15⟩ := vg HAT1.o
        repeat go_big_quiet_step (fail)
        go_big_quiet_step ((refine (Zbj r B cs F _ [a, b] _ (HS.o.later (Zm w1 _)) (HI.o.later Zc (Zm w1 _))).mono ?_; rw [Hai.o]; rintro e w9 ⟨rfl, hcl⟩; exact ⟨rfl, _, Zch ((Zm w1 _).trans hcl)⟩))
        repeat go_big_quiet_step (fail)
        refine wpQuiet_nil (Zc5 fun W hWL => ?_);replace HLC := zh hWL;clear hWL x0 x1 x2 x3 x4 x12 i00 i01 i02 i03 i04 i05 i10 i11 i12 i13 i14 i15;go_upto_region 32 with (fail)
        cases tg with
        | false =>
         have hR0 : R = false := by rw [HR.o]; try simp
         subst hR0;go_wp2_with fail;go_ret;exact ⟨rfl, HB.o.trans HLC.o⟩
        | true =>
         cases ky with
         | false =>
          have hR0 : R = false := by rw [HR.o]; try simp
          subst hR0;go_wp2_with fail;go_ret;exact ⟨rfl, HB.o.trans HLC.o⟩
         | true =>
          have hR0 : R = true := by rw [HR.o]; simp
          subst hR0;go_wp2_with fail;go_ret;exact ⟨rfl, HB.o.trans HLC.o⟩
theorem Zu8 (r : Zf) (B : Nat) (cs : List Value) (F : Nat → Prop) (w : World) (kd tag aI : Int) (aJ aK : List Zd) (vi vk : Value) (h : Z3 F w B r cs) (hi : Zo Zg 6 F w aJ vi) (hk : Zo Zg 6 F w aK vk) (hkd : kd < 1) (hkz : aK.length ≤ 1048576) :
  Calls Tryz.prog 51 #[.pointer (some ⟨B, 0, none⟩), .agg #[.int .i64 kd, .int .i64 tag, .int .i64 aI, vi, vk]] w fun e w' => e = .returned (.bool (Zai r ⟨kd, tag, aI, aJ, aK⟩)) ∧ Below w.heap.size w w' := by
 obtain ⟨R, hR⟩ : ∃ R, Zai r ⟨kd, tag, aI, aJ, aK⟩ = R := ⟨_, rfl⟩;rw [hR];have HR0 := zh hR;clear hR;obtain ⟨Ai, ci, rfl, hci, hcmi, _⟩ := id hi;obtain ⟨Ak, ck, rfl, hck, hcmk, _⟩ := id hk;unfold maxLen at hcmi hcmk;have hl1 := (Za.refl w).alloc (.cells #[.int .i64 kd, .int .i64 tag, .int .i64 aI, .slice Ai aJ.length ci, .slice Ak aK.length ck] 94);have HS := zh (h.later hl1);have HI := zh (hi.later Zc hl1);have HK := zh (hk.later Zc hl1);have HM := zh (heap_alloc_new w (.cells #[.int .i64 kd, .int .i64 tag, .int .i64 aI, .slice Ai aJ.length ci, .slice Ak aK.length ck] 94));have HB := zh hl1;obtain ⟨w1, hw1⟩ : ∃ x, x = w.alloc (.cells #[.int .i64 kd, .int .i64 tag, .int .i64 aI, .slice Ai aJ.length ci, .slice Ak aK.length ck] 94) := ⟨_, rfl⟩;rw [← hw1] at HS HI HK HM HB;have HLC := zh (Za.refl w1);clear h hi hk hl1;have hR0 : R = false := by rw [← HR0.o]; unfold Zai Zag; simp only []; rw [if_neg (by omega : ¬ kd = 1), if_neg (by omega : ¬ kd = 2), if_neg (by omega : ¬ kd = 3), if_neg (by omega : ¬ kd = 4), if_neg (by omega : ¬ kd = 5), if_neg (by omega : ¬ kd = 6), if_neg (by omega : ¬ kd = 7), if_neg (by omega : ¬ kd = 8), if_neg (by omega : ¬ kd = 9)]; simp
 subst hR0;clear HR0;have g1 : (kd == 1) = false := nH.2 (by omega);have n1 : (kd != 1) = true := bne_iff_ne.2 (by omega);have g2 : (kd == 2) = false := nH.2 (by omega);have n2 : (kd != 2) = true := bne_iff_ne.2 (by omega);have g3 : (kd == 3) = false := nH.2 (by omega);have n3 : (kd != 3) = true := bne_iff_ne.2 (by omega);have g4 : (kd == 4) = false := nH.2 (by omega);have n4 : (kd != 4) = true := bne_iff_ne.2 (by omega);have g5 : (kd == 5) = false := nH.2 (by omega);have n5 : (kd != 5) = true := bne_iff_ne.2 (by omega);have g6 : (kd == 6) = false := nH.2 (by omega);have n6 : (kd != 6) = true := bne_iff_ne.2 (by omega);have g7 : (kd == 7) = false := nH.2 (by omega);have n7 : (kd != 7) = true := bne_iff_ne.2 (by omega);have g8 : (kd == 8) = false := nH.2 (by omega);have n8 : (kd != 8) = true := bne_iff_ne.2 (by omega);have g9 : (kd == 9) = false := nH.2 (by omega);have n9 : (kd != 9) = true := bne_iff_ne.2 (by omega);have d2 : decide (2 ≤ kd) = false := decide_eq_false (by omega);obtain ⟨s0, hs0⟩ : ∃ q, (aI == 0) = q := ⟨_, rfl⟩;have W0s0 : (aI != 0) = !s0 := by rw [← hs0]; exact (by rw [Bool.eq_iff_iff]; simp only [nJ, nK, nL, ne_eq, nM, nI, nH] <;> omega)
 obtain ⟨tg, htg⟩ : ∃ q, (tag == 0) = q := ⟨_, rfl⟩;have W0tg : (tag != 0) = !tg := by rw [← htg]; exact (by rw [Bool.eq_iff_iff]; simp only [nJ, nK, nL, ne_eq, nM, nI, nH] <;> omega)
 have W1tg : (tag == 0) = tg := htg;obtain ⟨ky, hky⟩ : ∃ q, (decide (aK.length = 0)) = q := ⟨_, rfl⟩;have W0ky : ((aK.length : Int) != 0) = !ky := by rw [← hky]; exact (by rw [Bool.eq_iff_iff]; simp only [nJ, nK, nL, ne_eq, nM, nI, nH] <;> omega)
 have W1ky : ((aK.length : Int) == 0) = ky := by rw [← hky]; exact (by rw [Bool.eq_iff_iff]; simp only [nJ, nK, nL, ne_eq, nM, nI, nH] <;> omega)
 have Hs0 := zh hs0;clear hs0;have Htg := zh htg;clear htg;have Hky := zh hky;clear hky;clear hkd;go_enter Tryz.func51, Tryz.ntmps51;go_upto_region 2 with (fail);rw [← hw1];clear hw1
 cases s0 with
 | false =>
  simp only [Bool.not_false] at W0s0;refine Z4 (fun W hW => ?_);have hWL : Za w1 W := by rw [hW]; exact (Za.refl _).drew
  clear hW;replace HLC := zh (HLC.o.trans hWL);clear hWL;have HMC := zB HLC HM;have m0 := cz5 HMC.o;have y12 := (HS.o.later HLC.o).made_;have hMB := Zb HMC.o;have hSB := (HS.o.later HLC.o).lt
  repeat go_big_quiet_step (fail)
  refine wpQuiet_nil ?_;go_wp2_with fail;go_ret;exact ⟨rfl, HB.o.trans HLC.o⟩
 | true =>
  simp only [Bool.not_true] at W0s0;refine Z4 (fun W hW => ?_);have hWL : Za w1 W := by rw [hW]; exact (Za.refl _).drew
  clear hW;replace HLC := zh (HLC.o.trans hWL);clear hWL;have HMC := zB HLC HM;have m0 := cz5 HMC.o;have y12 := (HS.o.later HLC.o).made_;have hMB := Zb HMC.o;have hSB := (HS.o.later HLC.o).lt
  repeat go_big_quiet_step (fail)
  refine wpQuiet_nil ?_;clear y12 hMB hSB;go_wp2_with fail;go_ret;exact ⟨rfl, HB.o.trans HLC.o⟩
theorem Zu9 (r : Zf) (B : Nat) (cs : List Value) (F : Nat → Prop) (w : World) (kd tag aI : Int) (aJ aK : List Zd) (vi vk : Value) (h : Z3 F w B r cs) (hi : Zo Zg 6 F w aJ vi) (hk : Zo Zg 6 F w aK vk) (hkd : 9 < kd) (hkz : aK.length ≤ 1048576) :
  Calls Tryz.prog 51 #[.pointer (some ⟨B, 0, none⟩), .agg #[.int .i64 kd, .int .i64 tag, .int .i64 aI, vi, vk]] w fun e w' => e = .returned (.bool (Zai r ⟨kd, tag, aI, aJ, aK⟩)) ∧ Below w.heap.size w w' := by
 obtain ⟨R, hR⟩ : ∃ R, Zai r ⟨kd, tag, aI, aJ, aK⟩ = R := ⟨_, rfl⟩;rw [hR];have HR0 := zh hR;clear hR;obtain ⟨Ai, ci, rfl, hci, hcmi, _⟩ := id hi;obtain ⟨Ak, ck, rfl, hck, hcmk, _⟩ := id hk;unfold maxLen at hcmi hcmk;have hl1 := (Za.refl w).alloc (.cells #[.int .i64 kd, .int .i64 tag, .int .i64 aI, .slice Ai aJ.length ci, .slice Ak aK.length ck] 94);have HS := zh (h.later hl1);have HI := zh (hi.later Zc hl1);have HK := zh (hk.later Zc hl1);have HM := zh (heap_alloc_new w (.cells #[.int .i64 kd, .int .i64 tag, .int .i64 aI, .slice Ai aJ.length ci, .slice Ak aK.length ck] 94));have HB := zh hl1;obtain ⟨w1, hw1⟩ : ∃ x, x = w.alloc (.cells #[.int .i64 kd, .int .i64 tag, .int .i64 aI, .slice Ai aJ.length ci, .slice Ak aK.length ck] 94) := ⟨_, rfl⟩;rw [← hw1] at HS HI HK HM HB;have HLC := zh (Za.refl w1);clear h hi hk hl1;have hR0 : R = false := by rw [← HR0.o]; unfold Zai Zag; simp only []; rw [if_neg (by omega : ¬ kd = 1), if_neg (by omega : ¬ kd = 2), if_neg (by omega : ¬ kd = 3), if_neg (by omega : ¬ kd = 4), if_neg (by omega : ¬ kd = 5), if_neg (by omega : ¬ kd = 6), if_neg (by omega : ¬ kd = 7), if_neg (by omega : ¬ kd = 8), if_neg (by omega : ¬ kd = 9)]; simp
 subst hR0;clear HR0;have g1 : (kd == 1) = false := nH.2 (by omega);have n1 : (kd != 1) = true := bne_iff_ne.2 (by omega);have g2 : (kd == 2) = false := nH.2 (by omega);have n2 : (kd != 2) = true := bne_iff_ne.2 (by omega);have g3 : (kd == 3) = false := nH.2 (by omega);have n3 : (kd != 3) = true := bne_iff_ne.2 (by omega);have g4 : (kd == 4) = false := nH.2 (by omega);have n4 : (kd != 4) = true := bne_iff_ne.2 (by omega);have g5 : (kd == 5) = false := nH.2 (by omega);have n5 : (kd != 5) = true := bne_iff_ne.2 (by omega);have g6 : (kd == 6) = false := nH.2 (by omega);have n6 : (kd != 6) = true := bne_iff_ne.2 (by omega);have g7 : (kd == 7) = false := nH.2 (by omega);have n7 : (kd != 7) = true := bne_iff_ne.2 (by omega);have g8 : (kd == 8) = false := nH.2 (by omega);have n8 : (kd != 8) = true := bne_iff_ne.2 (by omega);have g9 : (kd == 9) = false := nH.2 (by omega);have n9 : (kd != 9) = true := bne_iff_ne.2 (by omega);have d2 : decide (2 ≤ kd) = true := decide_eq_true (by omega);have d7 : decide (kd ≤ 7) = false := decide_eq_false (by omega);obtain ⟨s0, hs0⟩ : ∃ q, (aI == 0) = q := ⟨_, rfl⟩;have W0s0 : (aI != 0) = !s0 := by rw [← hs0]; exact (by rw [Bool.eq_iff_iff]; simp only [nJ, nK, nL, ne_eq, nM, nI, nH] <;> omega)
 obtain ⟨tg, htg⟩ : ∃ q, (tag == 0) = q := ⟨_, rfl⟩;have W0tg : (tag != 0) = !tg := by rw [← htg]; exact (by rw [Bool.eq_iff_iff]; simp only [nJ, nK, nL, ne_eq, nM, nI, nH] <;> omega)
 have W1tg : (tag == 0) = tg := htg;obtain ⟨ky, hky⟩ : ∃ q, (decide (aK.length = 0)) = q := ⟨_, rfl⟩;have W0ky : ((aK.length : Int) != 0) = !ky := by rw [← hky]; exact (by rw [Bool.eq_iff_iff]; simp only [nJ, nK, nL, ne_eq, nM, nI, nH] <;> omega)
 have W1ky : ((aK.length : Int) == 0) = ky := by rw [← hky]; exact (by rw [Bool.eq_iff_iff]; simp only [nJ, nK, nL, ne_eq, nM, nI, nH] <;> omega)
 have Hs0 := zh hs0;clear hs0;have Htg := zh htg;clear htg;have Hky := zh hky;clear hky;clear hkd;go_enter Tryz.func51, Tryz.ntmps51;go_upto_region 2 with (fail);rw [← hw1];clear hw1
 cases s0 with
 | false =>
  simp only [Bool.not_false] at W0s0;refine Z4 (fun W hW => ?_);have hWL : Za w1 W := by rw [hW]; exact (Za.refl _).drew
  clear hW;replace HLC := zh (HLC.o.trans hWL);clear hWL;have HMC := zB HLC HM;have m0 := cz5 HMC.o;have y12 := (HS.o.later HLC.o).made_;have hMB := Zb HMC.o;have hSB := (HS.o.later HLC.o).lt
  repeat go_big_quiet_step (fail)
  refine wpQuiet_nil ?_;go_wp2_with fail;go_ret;exact ⟨rfl, HB.o.trans HLC.o⟩
 | true =>
  simp only [Bool.not_true] at W0s0;refine Z4 (fun W hW => ?_);have hWL : Za w1 W := by rw [hW]; exact (Za.refl _).drew
  clear hW;replace HLC := zh (HLC.o.trans hWL);clear hWL;have HMC := zB HLC HM;have m0 := cz5 HMC.o;have y12 := (HS.o.later HLC.o).made_;have hMB := Zb HMC.o;have hSB := (HS.o.later HLC.o).lt
  repeat go_big_quiet_step (fail)
  refine wpQuiet_nil ?_;clear y12 hMB hSB;go_wp2_with fail;go_ret;exact ⟨rfl, HB.o.trans HLC.o⟩
theorem Zkc (r : Zf) (B : Nat) (cs : List Value) (F : Nat → Prop) (w : World) (o : Zam) (os : List Value) (h : Z3 F w B r cs) (ho : Zbk F w o os) (hkz : o.aK.length ≤ 1048576) :
  Calls Tryz.prog 51 #[.pointer (some ⟨B, 0, none⟩), .agg os.toArray] w fun e w' => e = .returned (.bool (Zai r o)) ∧ Below w.heap.size w w' := by
 obtain ⟨vi, vk, rfl, _, _, _, hi, hk⟩ := ho;obtain ⟨kd, tag, aI, aJ, aK⟩ := o;have hx : kd < 1 ∨ 9 < kd ∨ kd = 1 ∨ kd = 2 ∨ kd = 3 ∨ kd = 4 ∨ kd = 5 ∨ kd = 6 ∨ kd = 7 ∨ kd = 8 ∨ kd = 9 := by omega
 rcases hx with hx | hx | rfl | rfl | rfl | rfl | rfl | rfl | rfl | rfl | rfl
 ·exact Zu8 r B cs F w kd tag aI aJ aK vi vk h hi hk hx hkz
 ·exact Zu9 r B cs F w kd tag aI aJ aK vi vk h hi hk hx hkz
 ·exact Zvu r B cs F w tag aI aJ aK vi vk h hi hk hkz
 ·exact Zvv r B cs F w tag aI aJ aK vi vk h hi hk hkz
 ·exact Zvw r B cs F w tag aI aJ aK vi vk h hi hk hkz
 ·exact Zvx r B cs F w tag aI aJ aK vi vk h hi hk hkz
 ·exact Zv1 r B cs F w tag aI aJ aK vi vk h hi hk hkz
 ·exact Zvz r B cs F w tag aI aJ aK vi vk h hi hk hkz
 ·exact Zvy r B cs F w tag aI aJ aK vi vk h hi hk hkz
 ·exact Zv0 r B cs F w tag aI aJ aK vi vk h hi hk hkz
 ·exact Zv2 r B cs F w tag aI aJ aK vi vk h hi hk hkz
theorem Zgq (r : Zf) (cs : List Value) (F : Nat → Prop) (w : World) (hsz : Zav r ≤ 1048576) (h : Zcf F w r cs) (ht : Spc w) :
  Calls Tryz.prog 13 #[.agg cs.toArray] w fun e w' => e = .returned (.bool (Zap r)) ∧ Below w.heap.size w w' := by
 obtain ⟨R, hR⟩ : ∃ R, Zap r = R := ⟨_, rfl⟩;rw [hR];have HR0 := zh hR;clear hR;have hel := h;obtain ⟨aL, aM, aN, aO, aP, aQ, aR, rfl, aV, aW, aX, aY, aZ, bA, bB, bC, bD, bE, bF, bG⟩ := h;obtain ⟨An, cn, rfl, kn, ln, _⟩ := id aV;obtain ⟨Ar, cr, rfl, kr, lr, _⟩ := id aW;obtain ⟨Ao, co, rfl, ko, lo, _⟩ := id aX;obtain ⟨Ag, cg, rfl, kg, lg, _⟩ := id aY;obtain ⟨Au, cu, rfl, ku, lu, _⟩ := id bB;obtain ⟨At, ct, rfl, kt, lt, _⟩ := id bC;obtain ⟨Aa, ca, rfl, ka, la, _⟩ := id bD;unfold maxLen at ln lr lo lg lu lt la;have HSO : Hd (∀ j (h : j < r.aA.length), r.aA[j].aK.length ≤ 1048576) := zh (fun j h => by
  have hz : Zk ByteArray.size r.names + (Zk Zp r.aB + (Zk Zs r.aA + (Zk Zw r.globals + (r.aC.size + (Zk ByteArray.size r.output + (Zk ByteArray.size r.trace + (Zk (fun _ => 0) r.aE))))))) ≤ 1048576 := hsz;have h1 : Zk Zs r.aA = r.aA.length + Za0 Zs r.aA := rfl;have h2 := Zdz Zs r.aA _ (List.getElem_mem h);have h3 : Zs r.aA[j] = (r.aA[j].aJ.length + Za0 Zw r.aA[j].aJ) + (r.aA[j].aK.length + Za0 Zw r.aA[j].aK) := rfl
  omega)
 have HOL : Hd (r.aA.length ≤ 1048576) := zh (by
  have hz : Zk ByteArray.size r.names + (Zk Zp r.aB + (Zk Zs r.aA + (Zk Zw r.globals + (r.aC.size + (Zk ByteArray.size r.output + (Zk ByteArray.size r.trace + (Zk (fun _ => 0) r.aE))))))) ≤ 1048576 := hsz;have h1 : Zk Zs r.aA = r.aA.length + Za0 Zs r.aA := rfl
  omega)
 have HSL : Hd (r.aC.size ≤ 1048576) := zh (by
  have hz : Zk ByteArray.size r.names + (Zk Zp r.aB + (Zk Zs r.aA + (Zk Zw r.globals + (r.aC.size + (Zk ByteArray.size r.output + (Zk ByteArray.size r.trace + (Zk (fun _ => 0) r.aE))))))) ≤ 1048576 := hsz
  omega)
 have hl1 := (Za.refl w).alloc (.cells #[.slice An r.names.length cn, .slice Ar r.aB.length cr, .slice Ao r.aA.length co, .slice Ag r.globals.length cg, .string r.aC, .int .i64 r.aD, .slice Au r.output.length cu, .slice At r.trace.length ct, .slice Aa r.aE.length ca, .bool r.aF, .int .i64 r.ticks, .int .i64 r.aG, .int .i64 r.made] 30);have HEL := zh hel;have HQn := zh aV;have HQr := zh aW;have HQo := zh aX;have HQg := zh aY;have HQu := zh bB;have HQt := zh bC;have HQa := zh bD;have HP64 := zh (show Zy r.aD ∧ Zy r.ticks ∧ Zy r.aG ∧ Zy r.made from ⟨bA, bE, bF, bG⟩);have HM := zh (heap_alloc_new w (.cells #[.slice An r.names.length cn, .slice Ar r.aB.length cr, .slice Ao r.aA.length co, .slice Ag r.globals.length cg, .string r.aC, .int .i64 r.aD, .slice Au r.output.length cu, .slice At r.trace.length ct, .slice Aa r.aE.length ca, .bool r.aF, .int .i64 r.ticks, .int .i64 r.aG, .int .i64 r.made] 30));have HB := zh (show Below w.heap.size w _ from hl1);obtain ⟨M, hM⟩ : ∃ M, w.heap.size = M := ⟨_, rfl⟩;obtain ⟨w1, hw1⟩ : ∃ x, x = w.alloc (.cells #[.slice An r.names.length cn, .slice Ar r.aB.length cr, .slice Ao r.aA.length co, .slice Ag r.globals.length cg, .string r.aC, .int .i64 r.aD, .slice Au r.output.length cu, .slice At r.trace.length ct, .slice Aa r.aE.length ca, .bool r.aF, .int .i64 r.ticks, .int .i64 r.aG, .int .i64 r.made] 30) := ⟨_, rfl⟩
 rw [← hw1] at HM HB;rw [hM] at HM;clear hel hl1 hsz aV aW aX aY aZ bA bB bC bD bE bF bG;obtain ⟨n12, hn12⟩ : ∃ q, (decide (r.names.length ≤ 12)) = q := ⟨_, rfl⟩;have W0n12 : (decide (12 < (r.names.length : Int))) = !n12 := by rw [← hn12]; exact (by rw [Bool.eq_iff_iff]; simp only [nJ, nK, nL, ne_eq, nM, nI, nH] <;> omega)
 obtain ⟨nm, hnm⟩ : ∃ q, (r.names.all Zb5) = q := ⟨_, rfl⟩;obtain ⟨r8, hr8⟩ : ∃ q, (decide (r.aB.length ≤ 8)) = q := ⟨_, rfl⟩;have W0r8 : (decide (8 < (r.aB.length : Int))) = !r8 := by rw [← hr8]; exact (by rw [Bool.eq_iff_iff]; simp only [nJ, nK, nL, ne_eq, nM, nI, nH] <;> omega)
 obtain ⟨rok, hrok⟩ : ∃ q, (r.aB.all Ze4) = q := ⟨_, rfl⟩;obtain ⟨g12, hg12⟩ : ∃ q, (decide (r.globals.length ≤ 12)) = q := ⟨_, rfl⟩;have W0g12 : (decide (12 < (r.globals.length : Int))) = !g12 := by rw [← hg12]; exact (by rw [Bool.eq_iff_iff]; simp only [nJ, nK, nL, ne_eq, nM, nI, nH] <;> omega)
 obtain ⟨s120, hs120⟩ : ∃ q, (decide (r.aC.size ≤ 120)) = q := ⟨_, rfl⟩;have W0s120 : (decide (120 < (r.aC.size : Int))) = !s120 := by rw [← hs120]; exact (by rw [Bool.eq_iff_iff]; simp only [nJ, nK, nL, ne_eq, nM, nI, nH] <;> omega)
 obtain ⟨p1, hp1⟩ : ∃ q, (decide (1 ≤ r.aD)) = q := ⟨_, rfl⟩;have W0p1 : (decide (r.aD < 1)) = !p1 := by rw [← hp1]; exact (by rw [Bool.eq_iff_iff]; simp only [nJ, nK, nL, ne_eq, nM, nI, nH] <;> omega)
 obtain ⟨p2, hp2⟩ : ∃ q, (decide (r.aD ≤ (r.aC.size : Int) + 1)) = q := ⟨_, rfl⟩;have W0p2 : (decide ((r.aC.size : Int) + 1 < r.aD)) = !p2 := by rw [← hp2]; exact (by rw [Bool.eq_iff_iff]; simp only [nJ, nK, nL, ne_eq, nM, nI, nH] <;> omega)
 obtain ⟨a40, ha40⟩ : ∃ q, (decide (r.aE.length ≤ 40)) = q := ⟨_, rfl⟩;have W0a40 : (decide (40 < (r.aE.length : Int))) = !a40 := by rw [← ha40]; exact (by rw [Bool.eq_iff_iff]; simp only [nJ, nK, nL, ne_eq, nM, nI, nH] <;> omega)
 obtain ⟨acts, hacts⟩ : ∃ q, (r.aE.all (Zcy r)) = q := ⟨_, rfl⟩;obtain ⟨outs, houts⟩ : ∃ q, (r.output.all Zgn) = q := ⟨_, rfl⟩;obtain ⟨b0, hb0⟩ : ∃ q, (decide (0 ≤ r.aG)) = q := ⟨_, rfl⟩;have W0b0 : (decide (r.aG < 0)) = !b0 := by rw [← hb0]; exact (by rw [Bool.eq_iff_iff]; simp only [nJ, nK, nL, ne_eq, nM, nI, nH] <;> omega)
 obtain ⟨b4, hb4⟩ : ∃ q, (decide (r.aG ≤ 4000)) = q := ⟨_, rfl⟩;have W0b4 : (decide (4000 < r.aG)) = !b4 := by rw [← hb4]; exact (by rw [Bool.eq_iff_iff]; simp only [nJ, nK, nL, ne_eq, nM, nI, nH] <;> omega)
 obtain ⟨t0, ht0⟩ : ∃ q, (decide (0 ≤ r.ticks)) = q := ⟨_, rfl⟩;have W0t0 : (decide (r.ticks < 0)) = !t0 := by rw [← ht0]; exact (by rw [Bool.eq_iff_iff]; simp only [nJ, nK, nL, ne_eq, nM, nI, nH] <;> omega)
 obtain ⟨tb, htb⟩ : ∃ q, (decide (r.ticks ≤ r.aG)) = q := ⟨_, rfl⟩;have W0tb : (decide (r.aG < r.ticks)) = !tb := by rw [← htb]; exact (by rw [Bool.eq_iff_iff]; simp only [nJ, nK, nL, ne_eq, nM, nI, nH] <;> omega)
 obtain ⟨m0_, hm0_⟩ : ∃ q, (decide (0 ≤ r.made)) = q := ⟨_, rfl⟩;have W0m0_ : (decide (r.made < 0)) = !m0_ := by rw [← hm0_]; exact (by rw [Bool.eq_iff_iff]; simp only [nJ, nK, nL, ne_eq, nM, nI, nH] <;> omega)
 obtain ⟨gl, hgl⟩ : ∃ q, (Zao r r.globals) = q := ⟨_, rfl⟩;obtain ⟨objs, hobjs⟩ : ∃ q, (r.aA.all (Zai r)) = q := ⟨_, rfl⟩;obtain ⟨sers, hsers⟩ : ∃ q, (Zcp r.aA) = q := ⟨_, rfl⟩;have HR := zh (show R = (n12 && (nm && (r8 && (rok && (g12 && (s120 && (p1 && (p2 && (a40 && (acts && (outs && (b0 && (b4 && (t0 && (tb && (m0_ && (gl && (objs && (sers))))))))))))))))))) by rw [← HR0.o, ← hn12, ← hnm, ← hr8, ← hrok, ← hg12, ← hs120, ← hp1, ← hp2, ← ha40, ← hacts, ← houts, ← hb0, ← hb4, ← ht0, ← htb, ← hm0_, ← hgl, ← hobjs, ← hsers]; try rfl);have Hn12 := zh hn12;clear hn12;have Hnm := zh hnm;clear hnm;have Hr8 := zh hr8;clear hr8;have Hrok := zh hrok;clear hrok;have Hg12 := zh hg12;clear hg12;have Hs120 := zh hs120;clear hs120;have Hp1 := zh hp1;clear hp1;have Hp2 := zh hp2;clear hp2;have Ha40 := zh ha40;clear ha40;have Hacts := zh hacts;clear hacts;have Houts := zh houts;clear houts;have Hb0 := zh hb0;clear hb0;have Hb4 := zh hb4;clear hb4;have Ht0 := zh ht0;clear ht0;have Htb := zh htb;clear htb;have Hm0_ := zh hm0_;clear hm0_;have Hgl := zh hgl;clear hgl;have Hobjs := zh hobjs;clear hobjs;have Hsers := zh hsers;clear hsers;have HT := zh ht;clear ht;go_enter Tryz.func13, Tryz.ntmps13;go_upto_region 1 with (fail);rw [← hw1]
 try rw [hM]
 have HMS := zh hM;clear hw1 hM;have m0 := Zbb HM.o
 cases n12 with
 | false =>
  simp only [Bool.not_false] at W0n12;have hR0 : R = false := by rw [HR.o]; simp
  subst hR0;go_wp2_with fail;go_ret;exact ⟨rfl, HB.o⟩
 | true =>
  simp only [Bool.not_true] at W0n12;go_wp2_with fail;refine (Zik r.names _ F _ (HQn.o.later Zad HB.o) (HT.o.below HB.o)).mono ?_;rw [Hnm.o];rintro e x1 ⟨rfl, hcl⟩;clear m0;replace HM := zC hcl HM;replace HB := zh (HB.o.trans (Below.mono hcl HB.o.size));clear hcl;have m0 := Zbb HM.o
  cases nm with
  | false =>
   have hR0 : R = false := by rw [HR.o]; simp
   subst hR0;go_wp2_with fail;go_ret;exact ⟨rfl, HB.o⟩
  | true =>
   go_wp2_with fail;refine (Zjf r.aB _ F _ (HQr.o.later Zah HB.o) (HT.o.below HB.o)).mono ?_;rw [Hrok.o, Hr8.o];rintro e x2 ⟨rfl, hcl⟩;clear m0;replace HM := zC hcl HM;replace HB := zh (HB.o.trans (Below.mono hcl HB.o.size));clear hcl;have m0 := Zbb HM.o
   cases rok with
   | false =>
    have hR0 : R = false := by rw [HR.o]; simp
    subst hR0;go_wp2_with fail;go_ret;exact ⟨rfl, HB.o⟩
   | true =>
    cases r8 with
    | false =>
     simp only [Bool.not_false] at W0r8;have hR0 : R = false := by rw [HR.o]; simp
     subst hR0;go_wp2_with fail;go_ret;exact ⟨rfl, HB.o⟩
    | true =>
     simp only [Bool.not_true] at W0r8
     cases g12 with
     | false =>
      simp only [Bool.not_false] at W0g12;have hR0 : R = false := by rw [HR.o]; simp
      subst hR0;go_wp2_with fail;go_ret;exact ⟨rfl, HB.o⟩
     | true =>
      simp only [Bool.not_true] at W0g12
      cases s120 with
      | false =>
       simp only [Bool.not_false] at W0s120;have hR0 : R = false := by rw [HR.o]; simp
       subst hR0;go_wp2_with fail;go_ret;exact ⟨rfl, HB.o⟩
      | true =>
       simp only [Bool.not_true] at W0s120;have hs120 : r.aC.size ≤ 120 := of_decide_eq_true Hs120.o
       cases p1 with
       | false =>
        simp only [Bool.not_false] at W0p1;have hR0 : R = false := by rw [HR.o]; simp
        subst hR0;go_wp2_with fail;go_ret;exact ⟨rfl, HB.o⟩
       | true =>
        simp only [Bool.not_true] at W0p1
        cases p2 with
        | false =>
         simp only [Bool.not_false] at W0p2;have hR0 : R = false := by rw [HR.o]; simp
         subst hR0;go_wp2_with fail;go_ret;exact ⟨rfl, HB.o⟩
        | true =>
         simp only [Bool.not_true] at W0p2
         cases a40 with
         | false =>
          simp only [Bool.not_false] at W0a40;have hR0 : R = false := by rw [HR.o]; simp
          subst hR0;go_wp2_with fail;go_ret;exact ⟨rfl, HB.o⟩
         | true =>
          simp only [Bool.not_true] at W0a40;go_wp2_with fail;clear m0
          go_loopw [61] (fun i wr => ∃ j : Nat, i = .int .i64 j ∧ j ≤ r.aE.length ∧ Hd (∀ k (h : k < r.aE.length), k < j → Zcy r r.aE[k] = true) ∧ Hd (wr.heap[M]? = some (.cells #[.slice An r.names.length cn, .slice Ar r.aB.length cr, .slice Ao r.aA.length co, .slice Ag r.globals.length cg, .string r.aC, .int .i64 r.aD, .slice Au r.output.length cu, .slice At r.trace.length ct, .slice Aa r.aE.length ca, .bool r.aF, .int .i64 r.ticks, .int .i64 r.aG, .int .i64 r.made] 30 (0, 0))) ∧ Hd (Below w.heap.size w wr)) (fun i _ => r.aE.length - (intOf i).toNat)
          case atStart => exact ⟨0, rfl, Nat.zero_le _, zh (fun k _ h => by omega), HM, HB⟩
          case round =>
           clear HM HB;obtain ⟨j, rfl, hj, HD, HM, HB⟩ := hrel
           by_cases hlt : j < r.aE.length
           ·have t1 : decide ((j : Int) < r.aE.length) = true := decide_eq_true (by omega);obtain ⟨ob, oo, cs, rfl, _, hob, hE, hc⟩ := (HQa.o.later Zbd HB.o).at__ hlt;obtain ⟨rfl, hr64, hf64⟩ := hE;have e0 := hc 0 _ rfl;have e1 := hc 1 _ rfl;simp only [Nat.add_zero] at e0;obtain ⟨y, hy⟩ : ∃ y, r.aE[j] = y := ⟨_, rfl⟩;rw [hy] at e0 e1 hr64 hf64;have HY := zh hy;clear hy hc;have hl4 := (Za.refl wr).alloc (.cells #[.int .i64 y.routine, .int .i64 y.frame] 89);have HM4 := zC hl4 HM;have HB4 := zh (HB.o.trans (Below.mono hl4 HB.o.size));obtain ⟨p, hp⟩ : ∃ p, Za9 r y.frame 1 = p := ⟨_, rfl⟩;have HH := zh (Za2 r M _ F _ y.frame 1 (⟨HM4.o, Zal.keep HEL.o (fun _ h => h) (Ze.later HB4.o)⟩ : Z3 F _ M r _));rw [hp] at HH;have HP := zh hp;clear hp hl4;have HNO : Hd (Zcy r y = false → R = false) := zh (fun e => by rw [HR.o]; have : r.aE.all (Zcy r) = false := Zed hlt (by rw [HY.o]; exact e); rw [← Hacts.o, this]; simp);have m0 := Zbb HM4.o
            by_cases h0 : y.routine < 0
            ·have u1 : decide (y.routine < 0) = true := decide_eq_true h0;have hR0 : R = false := HNO.o (by unfold Zcy; rw [decide_eq_false (by omega)]; rfl);subst hR0;clear h0;go_wp2_with fail;go_ret;exact ⟨rfl, HB4.o⟩
            ·have u1 : decide (y.routine < 0) = false := decide_eq_false h0
             by_cases hn : y.routine < (r.names.length : Int)
             ·have u2 : decide ((r.names.length : Int) ≤ y.routine) = false := decide_eq_false (by omega);have HA := zh (show Zcy r y = p by unfold Zcy; rw [decide_eq_true (by omega), decide_eq_true hn, HP.o]; rfl);clear h0 hn;go_wp2_with fail;refine HH.o.mono ?_;rintro e w5 ⟨rfl, rfl⟩
              cases p with
              | true =>
               have HD2 : Hd (∀ k (h : k < r.aE.length), k < j + 1 → Zcy r r.aE[k] = true) := zh (Zda HD.o (fun _ => by rw [HY.o]; exact HA.o));go_wp2_with fail
               go_roundw
               case rel => exact ⟨j + 1, by go_num, by omega, HD2, HM4, HB4⟩
               case measure => simp [intOf]; omega
              | false =>
               have hR0 : R = false := HNO.o HA.o;subst hR0;go_wp2_with fail;go_ret;exact ⟨rfl, HB4.o⟩
             ·have u2 : decide ((r.names.length : Int) ≤ y.routine) = true := decide_eq_true (by omega);have hR0 : R = false := HNO.o (by unfold Zcy; rw [decide_eq_false hn]; simp);subst hR0;clear h0 hn;go_wp2_with fail;go_ret;exact ⟨rfl, HB4.o⟩
           ·have t1 : decide ((j : Int) < r.aE.length) = false := decide_eq_false (by omega);have h1 : r.aE.all (Zcy r) = true := Zfh (fun k hk => HD.o k hk (by omega));replace HR := zh (show _ = _ from HR.o.trans (by rw [← Hacts.o, h1]));clear h1;go_upto_region 9 with (fail);have m0 := Zbb HM.o;go_wp2_with fail
            go_loopw [86] (fun i wr => ∃ j : Nat, i = .int .i64 j ∧ j ≤ r.output.length ∧ Hd (∀ k (h : k < r.output.length), k < j → Zgn r.output[k] = true) ∧ Hd (wr.heap[M]? = some (.cells #[.slice An r.names.length cn, .slice Ar r.aB.length cr, .slice Ao r.aA.length co, .slice Ag r.globals.length cg, .string r.aC, .int .i64 r.aD, .slice Au r.output.length cu, .slice At r.trace.length ct, .slice Aa r.aE.length ca, .bool r.aF, .int .i64 r.ticks, .int .i64 r.aG, .int .i64 r.made] 30 (0, 0))) ∧ Hd (Below w.heap.size w wr)) (fun i _ => r.output.length - (intOf i).toNat)
            case atStart => exact ⟨0, rfl, Nat.zero_le _, zh (fun k _ h => by omega), HM, HB⟩
            case round =>
             clear HM HB m0;obtain ⟨j, rfl, hj, HD, HM, HB⟩ := hrel
             by_cases hlt : j < r.output.length
             ·have t1 : decide ((j : Int) < r.output.length) = true := decide_eq_true (by omega);obtain ⟨ob, oo, cs, rfl, _, hob, hE, hc⟩ := (HQu.o.later Zad HB.o).at__ hlt;obtain ⟨rfl, hsm⟩ := hE;have e0 := hc 0 _ rfl;simp only [Nat.mul_one, Nat.add_zero] at e0;obtain ⟨y, hy⟩ : ∃ y, r.output[j] = y := ⟨_, rfl⟩;rw [hy] at e0 hsm;have HY := zh hy;clear hy hc
              by_cases h120 : y.size ≤ 120
              ·have u1 : decide (120 < (y.size : Int)) = false := decide_eq_false (by omega);have HD2 : Hd (∀ k (h : k < r.output.length), k < j + 1 → Zgn r.output[k] = true) := zh (Zda HD.o (fun _ => by rw [HY.o]; exact decide_eq_true h120));clear h120 hsm;go_wp2_with fail
               go_roundw
               case rel => exact ⟨j + 1, by go_num, by omega, HD2, HM, HB⟩
               case measure => simp [intOf]; omega
              ·have u1 : decide (120 < (y.size : Int)) = true := decide_eq_true (by omega);have hR0 : R = false := by rw [HR.o]; have : r.output.all Zgn = false := Zed hlt (by rw [HY.o]; exact decide_eq_false h120); rw [← Houts.o, this]; simp
               subst hR0;clear h120 hsm;go_wp2_with fail;go_ret;exact ⟨rfl, HB.o⟩
             ·have t1 : decide ((j : Int) < r.output.length) = false := decide_eq_false (by omega);have h1 : r.output.all Zgn = true := Zfh (fun k hk => HD.o k hk (by omega));replace HR := zh (show _ = _ from HR.o.trans (by rw [← Houts.o, h1]));clear h1;go_upto_region 15 with (fail);have m0 := Zbb HM.o
              cases b0 with
              | false =>
               simp only [Bool.not_false] at W0b0;have hR0 : R = false := by rw [HR.o]; simp
               subst hR0;go_wp2_with fail;go_ret;exact ⟨rfl, HB.o⟩
              | true =>
               simp only [Bool.not_true] at W0b0
               cases b4 with
               | false =>
                simp only [Bool.not_false] at W0b4;have hR0 : R = false := by rw [HR.o]; simp
                subst hR0;go_wp2_with fail;go_ret;exact ⟨rfl, HB.o⟩
               | true =>
                simp only [Bool.not_true] at W0b4
                cases t0 with
                | false =>
                 simp only [Bool.not_false] at W0t0;have hR0 : R = false := by rw [HR.o]; simp
                 subst hR0;go_wp2_with fail;go_ret;exact ⟨rfl, HB.o⟩
                | true =>
                 simp only [Bool.not_true] at W0t0
                 cases tb with
                 | false =>
                  simp only [Bool.not_false] at W0tb;have hR0 : R = false := by rw [HR.o]; simp
                  subst hR0;go_wp2_with fail;go_ret;exact ⟨rfl, HB.o⟩
                 | true =>
                  simp only [Bool.not_true] at W0tb
                  cases m0_ with
                  | false =>
                   simp only [Bool.not_false] at W0m0_;have hR0 : R = false := by rw [HR.o]; simp
                   subst hR0;go_wp2_with fail;go_ret;exact ⟨rfl, HB.o⟩
                  | true =>
                   simp only [Bool.not_true] at W0m0_;go_wp2_with fail;refine (Zbj r M _ F _ r.globals _ (⟨HM.o, Zal.keep HEL.o (fun _ h => h) (Ze.later HB.o)⟩ : Z3 F _ M r _) (HQg.o.later Zc HB.o)).mono ?_;rw [Hgl.o];rintro e x3 ⟨rfl, hcl⟩;clear m0;replace HM := zC hcl HM;replace HB := zh (HB.o.trans (Below.mono hcl HB.o.size));clear hcl
                   cases gl with
                   | false =>
                    have hR0 : R = false := by rw [HR.o]; simp
                    subst hR0;go_wp2_with fail;go_ret;exact ⟨rfl, HB.o⟩
                   | true =>
                    have m0 := Zbb HM.o;have hmm := @run_makeMap Tryz.prog;have HM3 := zh (((Za.refl x3).alloc (.map #[] 0)).block _ (Zb HM.o) |>.trans HM.o);have q2 := cq HM3.o 2;simp only [nD, nE, nF] at q2;go_wp2_with fail;clear hmm q2;have HMP := zh (Zcj.start x3 r.aA);obtain ⟨b, hb⟩ : ∃ b, x3.heap.size = b := ⟨_, rfl⟩;rw [hb] at HMP ⊢;have hMb : M < b := by rw [← hb]; exact Zb HM.o
                    have hWb : w.heap.size ≤ b := by rw [HMS.o]; omega
                    have HB3 := zh (HB.o.trans (Below.mono ((Za.refl x3).alloc (.map #[] 0)) HB.o.size));clear HM HB hb
                    go_loopw [129] (fun i wr => ∃ j : Nat, i = .int .i64 j ∧ j ≤ r.aA.length ∧ Hd (∀ k (h : k < r.aA.length), k < j → Zai r r.aA[k] = true) ∧ Hd (∀ k (h : k < r.aA.length), k < j → r.aA[k].aI = 0 ∨ ∀ i (hi : i < r.aA.length), i < k → r.aA[i].aI ≠ r.aA[k].aI) ∧ Hd (Zcj wr b r.aA j) ∧ Hd (wr.heap[M]? = some (.cells #[.slice An r.names.length cn, .slice Ar r.aB.length cr, .slice Ao r.aA.length co, .slice Ag r.globals.length cg, .string r.aC, .int .i64 r.aD, .slice Au r.output.length cu, .slice At r.trace.length ct, .slice Aa r.aE.length ca, .bool r.aF, .int .i64 r.ticks, .int .i64 r.aG, .int .i64 r.made] 30 (0, 0))) ∧ Hd (Below w.heap.size w wr)) (fun i _ => r.aA.length - (intOf i).toNat)
                    case atStart => exact ⟨0, rfl, Nat.zero_le _, zh (fun k _ h => by omega), zh (fun k _ h => by omega), HMP, HM3, HB3⟩
                    case round =>
                     obtain ⟨j, rfl, hj, HD, HE, HMP, HM, HB⟩ := hrel
                     by_cases hlt : j < r.aA.length
                     ·have t1 : decide ((j : Int) < r.aA.length) = true := decide_eq_true (by omega);obtain ⟨ob, oo, Ai, ci, Ak, ck, rfl, hob, e0, e1, e2, e3, e4, hrI, hrK, hk64, ht64, hs64⟩ := Z3.obj (HQo.o.later Za4 HB.o) hlt;have HRI := zh hrI;have HRK := zh hrK;have HJ := zh (show j ≤ 1048576 by have := HOL.o; omega);obtain ⟨y, hy⟩ : ∃ y, r.aA[j] = y := ⟨_, rfl⟩;have HKZ := zh (HSO.o j hlt);rw [hy] at e0 e1 e2 e3 e4 HRI HRK hk64 ht64 hs64 HKZ;have HY := zh hy;have H64 := zh (show Zy y.kind ∧ Zy y.tag ∧ Zy y.aI from ⟨hk64, ht64, hs64⟩);clear hy hrI hrK hk64 ht64 hs64;have hl4 := (Za.refl wr).alloc (.cells #[.int .i64 y.kind, .int .i64 y.tag, .int .i64 y.aI, .slice Ai y.aJ.length ci, .slice Ak y.aK.length ck] 94);have HN := zh (heap_alloc_new wr (.cells #[.int .i64 y.kind, .int .i64 y.tag, .int .i64 y.aI, .slice Ai y.aJ.length ci, .slice Ak y.aK.length ck] 94));have hbN : b < wr.heap.size := HMP.o.lt;obtain ⟨N, hN⟩ : ∃ N, wr.heap.size = N := ⟨_, rfl⟩;have HM4 := zC hl4 HM;have HB4 := zh (HB.o.trans (Below.mono hl4 HB.o.size));have HMP4 := zh (HMP.o.same (hl4.block _ HMP.o.lt));obtain ⟨p, hp⟩ : ∃ p, Zai r y = p := ⟨_, rfl⟩;have HP := zh hp;have HH := zh (Zkc r M _ F _ y _ (⟨HM4.o, Zal.keep HEL.o (fun _ h => h) (Ze.later HB4.o)⟩ : Z3 F _ M r _) (⟨_, _, rfl, H64.o.1, H64.o.2.1, H64.o.2.2, HRI.o.keep Zc (fun _ h => h) (Ze.later hl4), HRK.o.keep Zc (fun _ h => h) (Ze.later hl4)⟩ : Zbk F _ y [.int .i64 y.kind, .int .i64 y.tag, .int .i64 y.aI, .slice Ai y.aJ.length ci, .slice Ak y.aK.length ck]) HKZ.o)
                      rw [hp] at HH;rw [hN] at HN hbN;clear hp hl4 HM HB HMP;go_wp2_with fail;refine HH.o.mono ?_;rintro e w5 ⟨rfl, hcl⟩;clear e0 e1 e2 e3 e4 hob
                      try rw [hN]
                      have HM := zC hcl HM4;have HB := zh (HB4.o.trans (Below.mono hcl HB4.o.size));have HMP := zh (HMP4.o.same (Below.block hcl _ HMP4.o.lt));have HN5 := zC hcl HN;clear hcl HM4 HB4 HMP4 HN hN HH;have f2 := cq HN5.o 2;simp only [nD, nE, nF] at f2
                      cases p with
                      | false =>
                       have hR0 : R = false := by rw [HR.o]; have : r.aA.all (Zai r) = false := Zed hlt (by rw [HY.o]; exact HP.o); rw [← Hobjs.o, this]; simp
                       subst hR0;go_wp2_with fail;go_ret;exact ⟨rfl, HB.o⟩
                      | true =>
                       have HD2 : Hd (∀ k (h : k < r.aA.length), k < j + 1 → Zai r r.aA[k] = true) := zh (Zda HD.o (fun _ => by rw [HY.o]; exact HP.o))
                       by_cases hs0 : y.aI = 0
                       ·have u1 : (y.aI != 0) = false := by rw [← Bool.not_eq_true, bne_iff_ne]; omega
                        have HE2 : Hd (∀ k (h : k < r.aA.length), k < j + 1 → r.aA[k].aI = 0 ∨ ∀ i (hi : i < r.aA.length), i < k → r.aA[i].aI ≠ r.aA[k].aI) := zh (fun k hk h => by
                         rcases Nat.lt_or_ge k j with h1 | h1
                         ·exact HE.o k hk h1
                         ·obtain rfl : k = j := by omega
                          exact .inl (by rw [HY.o]; exact hs0))
                        have HMP2 := zh (HMP.o.zero hlt (by rw [HY.o]; exact hs0));clear hs0;go_wp2_with fail
                        go_roundw
                        case rel => exact ⟨j + 1, by go_num, by omega, HD2, HE2, HMP2, HM, HB⟩
                        case measure => simp [intOf]; omega
                       ·have u1 : (y.aI != 0) = true := bne_iff_ne.2 hs0;have HS0 := zh hs0;clear hs0;obtain ⟨q, hq⟩ : ∃ q, Ze6 r.aA j y.aI = q := ⟨_, rfl⟩;have HQ := zh hq;clear hq
                        cases q with
                        | true =>
                         have hR0 : R = false := by
                          have h1 := HQ.o;unfold Ze6 at h1;rw [nJ] at h1;obtain ⟨_, q, hq, hqj, hqs⟩ := h1;rw [HR.o, ← Hsers.o, Zj2 hlt (by rw [HY.o]; exact HS0.o) hqj (by rw [HY.o]; exact hqs)];simp
                         subst hR0
                         go_wp2_with (at_lookup; refine Zcj.look HMP.o H64.o.2.2 rfl _ _ rfl rfl rfl ?_; rw [HQ.o])
                         go_ret;exact ⟨rfl, HB.o⟩
                        | false =>
                         have HE2 : Hd (∀ k (h : k < r.aA.length), k < j + 1 → r.aA[k].aI = 0 ∨ ∀ i (hi : i < r.aA.length), i < k → r.aA[i].aI ≠ r.aA[k].aI) := zh (fun k hk h => by
                          rcases Nat.lt_or_ge k j with h1 | h1
                          ·exact HE.o k hk h1
                          ·obtain rfl : k = j := by omega
                           refine .inr (fun i hi hik hs => ?_);have h2 := HQ.o;unfold Ze6 at h2;rw [nI] at h2;exact h2 ⟨HS0.o, i, hi, hik, by rw [hs, HY.o]⟩)
                         go_wp2_with (first | (at_lookup; refine Zcj.look HMP.o H64.o.2.2 rfl _ _ rfl rfl rfl ?_; rw [HQ.o]) | (at_mapUpdate; refine Zcj.store HMP.o hlt (by rw [HY.o]; exact H64.o.2.2) (by rw [HY.o]; exact HS0.o) HJ.o rfl _ _ _ rfl rfl (by rw [HY.o]; rfl) rfl ?_; intro w6 hmp6 hgr6))
                         have HB6 := zh (HB.o.grown hgr6 HB.o.size (fun k hk => by cases hk; exact hWb));have HM6 := zh ((hgr6.block M (Zb HM.o) (by intro h; cases h; omega)).trans HM.o);have HMP6 := zh hmp6;clear hmp6 hgr6
                         go_roundw
                         case rel => exact ⟨j + 1, by go_num, by omega, HD2, HE2, HMP6, HM6, HB6⟩
                         case measure => simp [intOf]; omega
                     ·have t1 : decide ((j : Int) < r.aA.length) = false := decide_eq_false (by omega);have h1 : r.aA.all (Zai r) = true := Zfh (fun k hk => HD.o k hk (by omega));have h2 : Zcp r.aA = true := Zio (fun k hk => HE.o k hk (by omega));have hR0 : R = true := by rw [HR.o, ← Hobjs.o, ← Hsers.o, h1, h2]; rfl
                      subst hR0;clear h1 h2;go_wp2_with fail;go_ret;exact ⟨rfl, HB.o⟩
structure Zaj where
 op : Int
 text : ByteArray
 aH : Int
 set_ : Zjx
 kids : List Zaj
def Zdk (K : Zbt Zaj) : Zbt Zaj := fun F w r cs => ∃ vkids, cs = [.int .i64 r.op, .string r.text, .int .i64 r.aH, .int .i64 r.set_.low, .int .i64 r.set_.high, vkids] ∧ Zy r.op ∧ r.text.size ≤ maxLen ∧ Zy r.aH ∧ Zy r.set_.low ∧ Zy r.set_.high ∧ Zo K 6 F w r.kids vkids
theorem Zdo {K : Zbt Zaj} (hK : Zcx K 6) : Zcx (Zdk K) 6 where
 len := fun ⟨_, e, _⟩ => by rw [e]; rfl
 keep := fun ⟨vkids, e, h0, h1, h2, h3, h4, h5⟩ hFG hk => ⟨vkids, e, h0, h1, h2, h3, h4, h5.keep hK hFG hk⟩
def Zd5 (S : Zbt Zaj) : Zbt Zaj := fun F w r cs => ∃ (tag : Nat → Nat) (vkids : Value), cs = [.int .i64 r.op, .string r.text, .int .i64 r.aH, .int .i64 r.set_.low, .int .i64 r.set_.high, vkids] ∧ Zy r.op ∧ r.text.size ≤ maxLen ∧ Zy r.aH ∧ Zy r.set_.low ∧ Zy r.set_.high ∧ Zbe S 6 55 (fun y => F y ∧ tag y = 0) w r.kids vkids
theorem Zew {S K : Zbt Zaj} (hS : Zfg S K 6) (hK : Zcx K 6) : Zfg (Zd5 S) (Zdk K) 6 where
 is := {
  len := fun ⟨_, _, e, _⟩ => by rw [e]; rfl
  keep := fun ⟨tag, vkids, e, h0, h1, h2, h3, h4, h5⟩ hFG hk => ⟨tag, vkids, e, h0, h1, h2, h3, h4, h5.keep hS.is (fun y hy => ⟨hFG y hy.1, hy.2⟩) (hk.mono fun y hy => hy.1)⟩ }
 el := fun ⟨tag, vkids, e, h0, h1, h2, h3, h4, h5⟩ => ⟨vkids, e, h0, h1, h2, h3, h4, (h5.el hS).keep hK (fun y hy => hy.1) (Ze.refl _ _)⟩
 trim := fun ⟨tag, vkids, e, h0, h1, h2, h3, h4, h5⟩ => ⟨tag, vkids, e, h0, h1, h2, h3, h4, (h5.trim hS).keep hS.is (fun y hy => ⟨⟨hy.1.1, hy.2⟩, hy.1.2⟩) (Ze.refl _ _)⟩
/-- All levels. -/
def Zoq : Nat → Zbt Zaj
 | 0 => fun _ _ _ _ => False
 | n + 1 => Zdk (Zoq n)
def Zcm : Nat → Zbt Zaj
 | 0 => fun _ _ _ _ => False
 | n + 1 => Zd5 (Zcm n)
theorem Zcz : ∀ n, Zcx (Zoq n) 6
 | 0 => ⟨fun h => h.elim, fun h _ _ => h⟩
 | n + 1 => Zdo (Zcz n)
theorem Zv : ∀ n, Zfg (Zcm n) (Zoq n) 6
 | 0 => ⟨⟨fun h => h.elim, fun h _ _ => h⟩, fun h => h, fun h => h⟩
 | n + 1 => Zew (Zv n) (Zcz n)
end Go.Proofs.YtpmhelkiicigfaaGreatDoor
