/- Part of the walks that the claim stands on. -/
import Derived.Test.YtndefbecoahfhaaZQ1

/- spec's l19One at the patterns that ask a set; all its cases together. -/
namespace Go.Proofs.Ytndefbecoahfhaa
open Go.RowKit

section
variable (text : ByteArray) (num lo hi : Int) (A : Option Addr) (n c : Nat) (s : ByteArray) (p : Nat) (w : World)

set_option maxRecDepth 100000 in
set_option maxHeartbeats 4000000 in
theorem one_7 (hs : s.size ≤ 120) (hp : p ≤ s.size) :
    Calls Try.prog 82 #[patV 7 text num lo hi (.slice A n c), .string s, .int .i64 p] w fun e w' => e = .returned (.int .i64 (endInt (oneEnd 7 text num lo hi s p))) ∧ Below w.heap.size w w' := by
  have HV := Lib.hid (show oneEnd 7 text num lo hi s p = if p < s.size ∧ hb lo hi (byteAt s p) = true then some (p + 1) else none from rfl)
  by_cases hg : p < s.size
  · have hg' : (p : Int) < s.size := by omega
    have hg3 : (0 : Int) ≤ (p : Int) := by omega
    have hby : (s[p].toNat : Int) = byteAt s p := byteAt_eq s p hg
    have hb0 : 0 ≤ byteAt s p := byteAt_bd s p |>.1
    have hb1 : byteAt s p < 256 := byteAt_bd s p |>.2
    cases hv : hb lo hi (byteAt s p)
    all_goals
      go_enter Try.func82, Try.ntmps82
      go_wp2_with fail
      -- region 22: 16 operations, the tail from 16 on
      refine wpS_begin 16 (by kernel_rfl) (fun w1 hw1 => ?_)
      subst hw1
      refine wpS_take 0 (some 100) (v := ?_) rfl rfl (by kernel_rfl) (fun _ _ _ h => h) rfl (fun x hx => ?_) ?_
      rotate_left 1
      · have hxc := hx.cell; have hxf := hx.frozen; go_simp; first | done | with_reducible rfl | rw [if_neg (by omega)] | rw [if_pos (by omega)]
      simp only [Act.put, nA, nB, nC]
      refine wpS_take 1 (some 101) (v := ?_) rfl rfl (by kernel_rfl) (fun _ _ _ h => h) rfl (fun x hx => ?_) ?_
      rotate_left 1
      · have hxc := hx.cell; have hxf := hx.frozen; go_simp; first | done | with_reducible rfl | rw [if_neg (by omega)] | rw [if_pos (by omega)]
      simp only [Act.put, nA, nB, nC]
      refine wpS_take 2 (some 102) (v := ?_) rfl rfl (by kernel_rfl) (fun _ _ _ h => h) rfl (fun x hx => ?_) ?_
      rotate_left 1
      · have hxc := hx.cell; have hxf := hx.frozen; go_simp; first | done | with_reducible rfl | rw [if_neg (by omega)] | rw [if_pos (by omega)]
      simp only [Act.put, nA, nB, nC]
      refine wpS_take 3 (some 103) (v := ?_) rfl rfl (by kernel_rfl) (fun _ _ _ h => h) rfl (fun x hx => ?_) ?_
      rotate_left 1
      · have hxc := hx.cell; have hxf := hx.frozen; go_simp; first | done | with_reducible rfl | rw [if_neg (by omega)] | rw [if_pos (by omega)]
      simp only [Act.put, nA, nB, nC]
      refine wpS_take 4 (some 104) (v := ?_) rfl rfl (by kernel_rfl) (fun _ _ _ h => h) rfl (fun x hx => ?_) ?_
      rotate_left 1
      · have hxc := hx.cell; have hxf := hx.frozen; go_simp; first | done | with_reducible rfl | rw [if_neg (by omega)] | rw [if_pos (by omega)]
      simp only [Act.put, nA, nB, nC]
      refine wpS_take 5 (some 105) (v := ?_) rfl rfl (by kernel_rfl) (fun _ _ _ h => h) rfl (fun x hx => ?_) ?_
      rotate_left 1
      · have hxc := hx.cell; have hxf := hx.frozen; go_simp; first | done | with_reducible rfl | rw [if_neg (by omega)] | rw [if_pos (by omega)]
      simp only [Act.put, nA, nB, nC]
      refine wpS_take 6 (some 106) (v := ?_) rfl rfl (by kernel_rfl) (fun _ _ _ h => h) rfl (fun x hx => ?_) ?_
      rotate_left 1
      · have hxc := hx.cell; have hxf := hx.frozen; go_simp; first | done | with_reducible rfl | rw [if_neg (by omega)] | rw [if_pos (by omega)]
      simp only [Act.put, nA, nB, nC]
      refine wpS_take 7 (some 107) (v := ?_) rfl rfl (by kernel_rfl) (fun _ _ _ h => h) rfl (fun x hx => ?_) ?_
      rotate_left 1
      · have hxc := hx.cell; have hxf := hx.frozen; go_simp; first | done | with_reducible rfl | rw [if_neg (by omega)] | rw [if_pos (by omega)]
      simp only [Act.put, nA, nB, nC]
      refine wpS_take 8 (some 108) (v := ?_) rfl rfl (by kernel_rfl) (fun _ _ _ h => h) rfl (fun x hx => ?_) ?_
      rotate_left 1
      · have hxc := hx.cell; have hxf := hx.frozen; go_simp; first | done | with_reducible rfl | rw [if_neg (by omega)] | rw [if_pos (by omega)]
      simp only [Act.put, nA, nB, nC]
      refine wpS_take 9 (some 109) (v := ?_) rfl rfl (by kernel_rfl) (fun _ _ _ h => h) rfl (fun x hx => ?_) ?_
      rotate_left 1
      · have hxc := hx.cell; have hxf := hx.frozen; go_simp; first | done | with_reducible rfl | rw [if_neg (by omega)] | rw [if_pos (by omega)]
      simp only [Act.put, nA, nB, nC]
      refine wpS_take 11 (some 111) (v := ?_) rfl rfl (by kernel_rfl) (fun _ _ _ h => h) rfl (fun x hx => ?_) ?_
      rotate_left 1
      · have hxc := hx.cell; have hxf := hx.frozen; go_simp; first | done | with_reducible rfl | rw [if_neg (by omega)] | rw [if_pos (by omega)]
      simp only [Act.put, nA, nB, nC]
      refine wpS_take 12 (some 112) (v := ?_) rfl rfl (by kernel_rfl) (fun _ _ _ h => h) rfl (fun x hx => ?_) ?_
      rotate_left 1
      · have hxc := hx.cell; have hxf := hx.frozen; go_simp; first | done | with_reducible rfl | rw [if_neg (by omega)] | rw [if_pos (by omega)]
      simp only [Act.put, nA, nB, nC]
      refine wpS_take 13 (some 113) (v := ?_) rfl rfl (by kernel_rfl) (fun _ _ _ h => h) rfl (fun x hx => ?_) ?_
      rotate_left 1
      · have hxc := hx.cell; have hxf := hx.frozen; go_simp; first | done | with_reducible rfl | rw [if_neg (by omega)] | rw [if_pos (by omega)]
      simp only [Act.put, nA, nB, nC]
      refine wpS_step 10 (by kernel_rfl) rfl ?_  -- call value (Go.Operand.func 73)
      go_wp2_with (go_at_call 73; refine (specHasByte_any lo hi (byteAt s p) _ hb0 hb1).mono ?_; rintro e w2 ⟨rfl, hb2⟩)
      refine ⟨hb2, ?_⟩
      have hacc : Later w w2 := Later.trans (((Later.refl w).alloc _).drew) hb2
      clear hb2
      refine wpS_take 14 (some 114) (v := ?_) rfl rfl (by kernel_rfl) (fun _ _ _ h => h) rfl (fun x hx => ?_) ?_
      rotate_left 1
      · have hxc := hx.cell; have hxf := hx.frozen; go_simp; first | done | with_reducible rfl | rw [if_neg (by omega)] | rw [if_pos (by omega)]
      simp only [Act.put, nA, nB, nC]
      refine wpS_take 15 (some 115) (v := ?_) rfl rfl (by kernel_rfl) (fun _ _ _ h => h) rfl (fun x hx => ?_) ?_
      rotate_left 1
      · have hxc := hx.cell; have hxf := hx.frozen; go_simp; first | done | with_reducible rfl | rw [if_neg (by omega)] | rw [if_pos (by omega)]
      simp only [Act.put, nA, nB, nC]
      refine wpS_tail 16 0 _ rfl (by kernel_rfl) rfl ?_
      simp only [List.drop_succ_cons, List.drop_zero]
      refine wpList_nil ?_
      go_wp2_with fail
      go_ret
      exact ⟨ret_int (by rw [HV.out]; simp [hg, hv, endInt]), hacc⟩
  · have hg' : decide ((p : Int) < s.size) = false := by simp; omega
    go_enter Try.func82, Try.ntmps82
    go_wp2_with fail
    go_quiet (fail)
    go_wp2_with fail
    go_ret
    exact ⟨ret_int (by rw [HV.out, if_neg (by omega)]; rfl), below_drewN' ((Below.refl _ _).alloc (Nat.le_refl _) _) _⟩

set_option maxRecDepth 100000 in
set_option maxHeartbeats 4000000 in
theorem one_8 (hs : s.size ≤ 120) (hp : p ≤ s.size) :
    Calls Try.prog 82 #[patV 8 text num lo hi (.slice A n c), .string s, .int .i64 p] w fun e w' => e = .returned (.int .i64 (endInt (oneEnd 8 text num lo hi s p))) ∧ Below w.heap.size w w' := by
  have HV := Lib.hid (show oneEnd 8 text num lo hi s p = if p < s.size ∧ hb lo hi (byteAt s p) = false then some (p + 1) else none from rfl)
  by_cases hg : p < s.size
  · have hg' : (p : Int) < s.size := by omega
    have hg3 : (0 : Int) ≤ (p : Int) := by omega
    have hby : (s[p].toNat : Int) = byteAt s p := byteAt_eq s p hg
    have hb0 : 0 ≤ byteAt s p := byteAt_bd s p |>.1
    have hb1 : byteAt s p < 256 := byteAt_bd s p |>.2
    cases hv : hb lo hi (byteAt s p)
    all_goals
      go_enter Try.func82, Try.ntmps82
      go_wp2_with fail
      -- region 22: 16 operations, the tail from 16 on
      refine wpS_begin 16 (by kernel_rfl) (fun w1 hw1 => ?_)
      subst hw1
      refine wpS_take 0 (some 100) (v := ?_) rfl rfl (by kernel_rfl) (fun _ _ _ h => h) rfl (fun x hx => ?_) ?_
      rotate_left 1
      · have hxc := hx.cell; have hxf := hx.frozen; go_simp; first | done | with_reducible rfl | rw [if_neg (by omega)] | rw [if_pos (by omega)]
      simp only [Act.put, nA, nB, nC]
      refine wpS_take 1 (some 101) (v := ?_) rfl rfl (by kernel_rfl) (fun _ _ _ h => h) rfl (fun x hx => ?_) ?_
      rotate_left 1
      · have hxc := hx.cell; have hxf := hx.frozen; go_simp; first | done | with_reducible rfl | rw [if_neg (by omega)] | rw [if_pos (by omega)]
      simp only [Act.put, nA, nB, nC]
      refine wpS_take 2 (some 102) (v := ?_) rfl rfl (by kernel_rfl) (fun _ _ _ h => h) rfl (fun x hx => ?_) ?_
      rotate_left 1
      · have hxc := hx.cell; have hxf := hx.frozen; go_simp; first | done | with_reducible rfl | rw [if_neg (by omega)] | rw [if_pos (by omega)]
      simp only [Act.put, nA, nB, nC]
      refine wpS_take 3 (some 103) (v := ?_) rfl rfl (by kernel_rfl) (fun _ _ _ h => h) rfl (fun x hx => ?_) ?_
      rotate_left 1
      · have hxc := hx.cell; have hxf := hx.frozen; go_simp; first | done | with_reducible rfl | rw [if_neg (by omega)] | rw [if_pos (by omega)]
      simp only [Act.put, nA, nB, nC]
      refine wpS_take 4 (some 104) (v := ?_) rfl rfl (by kernel_rfl) (fun _ _ _ h => h) rfl (fun x hx => ?_) ?_
      rotate_left 1
      · have hxc := hx.cell; have hxf := hx.frozen; go_simp; first | done | with_reducible rfl | rw [if_neg (by omega)] | rw [if_pos (by omega)]
      simp only [Act.put, nA, nB, nC]
      refine wpS_take 5 (some 105) (v := ?_) rfl rfl (by kernel_rfl) (fun _ _ _ h => h) rfl (fun x hx => ?_) ?_
      rotate_left 1
      · have hxc := hx.cell; have hxf := hx.frozen; go_simp; first | done | with_reducible rfl | rw [if_neg (by omega)] | rw [if_pos (by omega)]
      simp only [Act.put, nA, nB, nC]
      refine wpS_take 6 (some 106) (v := ?_) rfl rfl (by kernel_rfl) (fun _ _ _ h => h) rfl (fun x hx => ?_) ?_
      rotate_left 1
      · have hxc := hx.cell; have hxf := hx.frozen; go_simp; first | done | with_reducible rfl | rw [if_neg (by omega)] | rw [if_pos (by omega)]
      simp only [Act.put, nA, nB, nC]
      refine wpS_take 7 (some 107) (v := ?_) rfl rfl (by kernel_rfl) (fun _ _ _ h => h) rfl (fun x hx => ?_) ?_
      rotate_left 1
      · have hxc := hx.cell; have hxf := hx.frozen; go_simp; first | done | with_reducible rfl | rw [if_neg (by omega)] | rw [if_pos (by omega)]
      simp only [Act.put, nA, nB, nC]
      refine wpS_take 8 (some 108) (v := ?_) rfl rfl (by kernel_rfl) (fun _ _ _ h => h) rfl (fun x hx => ?_) ?_
      rotate_left 1
      · have hxc := hx.cell; have hxf := hx.frozen; go_simp; first | done | with_reducible rfl | rw [if_neg (by omega)] | rw [if_pos (by omega)]
      simp only [Act.put, nA, nB, nC]
      refine wpS_take 9 (some 109) (v := ?_) rfl rfl (by kernel_rfl) (fun _ _ _ h => h) rfl (fun x hx => ?_) ?_
      rotate_left 1
      · have hxc := hx.cell; have hxf := hx.frozen; go_simp; first | done | with_reducible rfl | rw [if_neg (by omega)] | rw [if_pos (by omega)]
      simp only [Act.put, nA, nB, nC]
      refine wpS_take 11 (some 111) (v := ?_) rfl rfl (by kernel_rfl) (fun _ _ _ h => h) rfl (fun x hx => ?_) ?_
      rotate_left 1
      · have hxc := hx.cell; have hxf := hx.frozen; go_simp; first | done | with_reducible rfl | rw [if_neg (by omega)] | rw [if_pos (by omega)]
      simp only [Act.put, nA, nB, nC]
      refine wpS_take 12 (some 112) (v := ?_) rfl rfl (by kernel_rfl) (fun _ _ _ h => h) rfl (fun x hx => ?_) ?_
      rotate_left 1
      · have hxc := hx.cell; have hxf := hx.frozen; go_simp; first | done | with_reducible rfl | rw [if_neg (by omega)] | rw [if_pos (by omega)]
      simp only [Act.put, nA, nB, nC]
      refine wpS_take 13 (some 113) (v := ?_) rfl rfl (by kernel_rfl) (fun _ _ _ h => h) rfl (fun x hx => ?_) ?_
      rotate_left 1
      · have hxc := hx.cell; have hxf := hx.frozen; go_simp; first | done | with_reducible rfl | rw [if_neg (by omega)] | rw [if_pos (by omega)]
      simp only [Act.put, nA, nB, nC]
      refine wpS_step 10 (by kernel_rfl) rfl ?_  -- call value (Go.Operand.func 73)
      go_wp2_with (go_at_call 73; refine (specHasByte_any lo hi (byteAt s p) _ hb0 hb1).mono ?_; rintro e w2 ⟨rfl, hb2⟩)
      refine ⟨hb2, ?_⟩
      have hacc : Later w w2 := Later.trans (((Later.refl w).alloc _).drew) hb2
      clear hb2
      refine wpS_take 14 (some 114) (v := ?_) rfl rfl (by kernel_rfl) (fun _ _ _ h => h) rfl (fun x hx => ?_) ?_
      rotate_left 1
      · have hxc := hx.cell; have hxf := hx.frozen; go_simp; first | done | with_reducible rfl | rw [if_neg (by omega)] | rw [if_pos (by omega)]
      simp only [Act.put, nA, nB, nC]
      refine wpS_take 15 (some 115) (v := ?_) rfl rfl (by kernel_rfl) (fun _ _ _ h => h) rfl (fun x hx => ?_) ?_
      rotate_left 1
      · have hxc := hx.cell; have hxf := hx.frozen; go_simp; first | done | with_reducible rfl | rw [if_neg (by omega)] | rw [if_pos (by omega)]
      simp only [Act.put, nA, nB, nC]
      refine wpS_tail 16 0 _ rfl (by kernel_rfl) rfl ?_
      simp only [List.drop_succ_cons, List.drop_zero]
      refine wpList_nil ?_
      go_wp2_with fail
      go_ret
      exact ⟨ret_int (by rw [HV.out]; simp [hg, hv, endInt]), hacc⟩
  · have hg' : decide ((p : Int) < s.size) = false := by simp; omega
    go_enter Try.func82, Try.ntmps82
    go_wp2_with fail
    go_quiet (fail)
    go_wp2_with fail
    go_ret
    exact ⟨ret_int (by rw [HV.out, if_neg (by omega)]; rfl), below_drewN' ((Below.refl _ _).alloc (Nat.le_refl _) _) _⟩

set_option maxRecDepth 100000 in
set_option maxHeartbeats 4000000 in
theorem one_9 (hs : s.size ≤ 120) (hp : p ≤ s.size) :
    Calls Try.prog 82 #[patV 9 text num lo hi (.slice A n c), .string s, .int .i64 p] w fun e w' => e = .returned (.int .i64 (endInt (oneEnd 9 text num lo hi s p))) ∧ Below w.heap.size w w' := by
  have HV := Lib.hid (show oneEnd 9 text num lo hi s p = if 0 < runOf lo hi true (s.data.toList.drop p) then some (p + runOf lo hi true (s.data.toList.drop p)) else none from rfl)
  go_enter Try.func82, Try.ntmps82
  go_wp2_with fail
  go_loopw [7] (fun v wr => ∃ k : Nat, p ≤ k ∧ k ≤ s.size ∧ v = .int .i64 k ∧ k - p ≤ runOf lo hi true (s.data.toList.drop p) ∧ w.heap.size < wr.heap.size ∧ wr.cell? ⟨w.heap.size, 0, none⟩ = some (.int .i64 9) ∧ wr.cell? ⟨w.heap.size, 3, none⟩ = some (.int .i64 lo) ∧ wr.cell? ⟨w.heap.size, 4, none⟩ = some (.int .i64 hi) ∧ Below w.heap.size w wr) (fun v _ => s.size - (intOf v).toNat)
  case atStart =>
    refine ⟨p, Nat.le_refl _, hp, rfl, by omega, by simp, ?_, ?_, ?_, (Below.refl _ _).alloc (Nat.le_refl _) _⟩
    · exact cell_of_row _ w.heap.size 0 _ _ _ (heap_alloc_new w _)
    · exact cell_of_row _ w.heap.size 3 _ _ _ (heap_alloc_new w _)
    · exact cell_of_row _ w.heap.size 4 _ _ _ (heap_alloc_new w _)
  case round =>
    obtain ⟨k, hk0, hk1, rfl, hrun, hN, hc0, hc3, hc4, hbel⟩ := hrel
    have hsz := hbel.size
    by_cases hg : k < s.size
    · have hg' : (k : Int) < s.size := by omega
      have hg3 : (0 : Int) ≤ (k : Int) := by omega
      have hby : (s[k].toNat : Int) = byteAt s k := byteAt_eq s k hg
      have hb0 : 0 ≤ byteAt s k := byteAt_bd s k |>.1
      have hb1 : byteAt s k < 256 := byteAt_bd s k |>.2
      cases hv : hb lo hi (byteAt s k)
      case true =>
        have hr2 := run_more hk0 hg hrun hv
        go_wp2_with fail
        -- region 27: 16 operations, the tail from 16 on
        refine wpS_begin 16 (by kernel_rfl) (fun w1 hw1 => ?_)
        subst hw1
        refine wpS_take 0 (some 122) (v := ?_) rfl rfl (by kernel_rfl) (fun _ _ _ h => h) rfl (fun x hx => ?_) ?_
        rotate_left 1
        · have hx0 := (hx.cell ⟨w.heap.size, 0, none⟩ hN).trans hc0; have hx3 := (hx.cell ⟨w.heap.size, 3, none⟩ hN).trans hc3; have hx4 := (hx.cell ⟨w.heap.size, 4, none⟩ hN).trans hc4; go_simp; first | done | with_reducible rfl | rw [if_neg (by omega)] | rw [if_pos (by omega)]
        simp only [Act.put, nA, nB, nC]
        refine wpS_take 1 (some 123) (v := ?_) rfl rfl (by kernel_rfl) (fun _ _ _ h => h) rfl (fun x hx => ?_) ?_
        rotate_left 1
        · have hx0 := (hx.cell ⟨w.heap.size, 0, none⟩ hN).trans hc0; have hx3 := (hx.cell ⟨w.heap.size, 3, none⟩ hN).trans hc3; have hx4 := (hx.cell ⟨w.heap.size, 4, none⟩ hN).trans hc4; go_simp; first | done | with_reducible rfl | rw [if_neg (by omega)] | rw [if_pos (by omega)]
        simp only [Act.put, nA, nB, nC]
        refine wpS_take 2 (some 124) (v := ?_) rfl rfl (by kernel_rfl) (fun _ _ _ h => h) rfl (fun x hx => ?_) ?_
        rotate_left 1
        · have hx0 := (hx.cell ⟨w.heap.size, 0, none⟩ hN).trans hc0; have hx3 := (hx.cell ⟨w.heap.size, 3, none⟩ hN).trans hc3; have hx4 := (hx.cell ⟨w.heap.size, 4, none⟩ hN).trans hc4; go_simp; first | done | with_reducible rfl | rw [if_neg (by omega)] | rw [if_pos (by omega)]
        simp only [Act.put, nA, nB, nC]
        refine wpS_take 3 (some 125) (v := ?_) rfl rfl (by kernel_rfl) (fun _ _ _ h => h) rfl (fun x hx => ?_) ?_
        rotate_left 1
        · have hx0 := (hx.cell ⟨w.heap.size, 0, none⟩ hN).trans hc0; have hx3 := (hx.cell ⟨w.heap.size, 3, none⟩ hN).trans hc3; have hx4 := (hx.cell ⟨w.heap.size, 4, none⟩ hN).trans hc4; go_simp; first | done | with_reducible rfl | rw [if_neg (by omega)] | rw [if_pos (by omega)]
        simp only [Act.put, nA, nB, nC]
        refine wpS_take 4 (some 126) (v := ?_) rfl rfl (by kernel_rfl) (fun _ _ _ h => h) rfl (fun x hx => ?_) ?_
        rotate_left 1
        · have hx0 := (hx.cell ⟨w.heap.size, 0, none⟩ hN).trans hc0; have hx3 := (hx.cell ⟨w.heap.size, 3, none⟩ hN).trans hc3; have hx4 := (hx.cell ⟨w.heap.size, 4, none⟩ hN).trans hc4; go_simp; first | done | with_reducible rfl | rw [if_neg (by omega)] | rw [if_pos (by omega)]
        simp only [Act.put, nA, nB, nC]
        refine wpS_take 5 (some 127) (v := ?_) rfl rfl (by kernel_rfl) (fun _ _ _ h => h) rfl (fun x hx => ?_) ?_
        rotate_left 1
        · have hx0 := (hx.cell ⟨w.heap.size, 0, none⟩ hN).trans hc0; have hx3 := (hx.cell ⟨w.heap.size, 3, none⟩ hN).trans hc3; have hx4 := (hx.cell ⟨w.heap.size, 4, none⟩ hN).trans hc4; go_simp; first | done | with_reducible rfl | rw [if_neg (by omega)] | rw [if_pos (by omega)]
        simp only [Act.put, nA, nB, nC]
        refine wpS_take 6 (some 128) (v := ?_) rfl rfl (by kernel_rfl) (fun _ _ _ h => h) rfl (fun x hx => ?_) ?_
        rotate_left 1
        · have hx0 := (hx.cell ⟨w.heap.size, 0, none⟩ hN).trans hc0; have hx3 := (hx.cell ⟨w.heap.size, 3, none⟩ hN).trans hc3; have hx4 := (hx.cell ⟨w.heap.size, 4, none⟩ hN).trans hc4; go_simp; first | done | with_reducible rfl | rw [if_neg (by omega)] | rw [if_pos (by omega)]
        simp only [Act.put, nA, nB, nC]
        refine wpS_take 7 (some 129) (v := ?_) rfl rfl (by kernel_rfl) (fun _ _ _ h => h) rfl (fun x hx => ?_) ?_
        rotate_left 1
        · have hx0 := (hx.cell ⟨w.heap.size, 0, none⟩ hN).trans hc0; have hx3 := (hx.cell ⟨w.heap.size, 3, none⟩ hN).trans hc3; have hx4 := (hx.cell ⟨w.heap.size, 4, none⟩ hN).trans hc4; go_simp; first | done | with_reducible rfl | rw [if_neg (by omega)] | rw [if_pos (by omega)]
        simp only [Act.put, nA, nB, nC]
        refine wpS_take 8 (some 130) (v := ?_) rfl rfl (by kernel_rfl) (fun _ _ _ h => h) rfl (fun x hx => ?_) ?_
        rotate_left 1
        · have hx0 := (hx.cell ⟨w.heap.size, 0, none⟩ hN).trans hc0; have hx3 := (hx.cell ⟨w.heap.size, 3, none⟩ hN).trans hc3; have hx4 := (hx.cell ⟨w.heap.size, 4, none⟩ hN).trans hc4; go_simp; first | done | with_reducible rfl | rw [if_neg (by omega)] | rw [if_pos (by omega)]
        simp only [Act.put, nA, nB, nC]
        refine wpS_take 9 (some 131) (v := ?_) rfl rfl (by kernel_rfl) (fun _ _ _ h => h) rfl (fun x hx => ?_) ?_
        rotate_left 1
        · have hx0 := (hx.cell ⟨w.heap.size, 0, none⟩ hN).trans hc0; have hx3 := (hx.cell ⟨w.heap.size, 3, none⟩ hN).trans hc3; have hx4 := (hx.cell ⟨w.heap.size, 4, none⟩ hN).trans hc4; go_simp; first | done | with_reducible rfl | rw [if_neg (by omega)] | rw [if_pos (by omega)]
        simp only [Act.put, nA, nB, nC]
        refine wpS_take 11 (some 133) (v := ?_) rfl rfl (by kernel_rfl) (fun _ _ _ h => h) rfl (fun x hx => ?_) ?_
        rotate_left 1
        · have hx0 := (hx.cell ⟨w.heap.size, 0, none⟩ hN).trans hc0; have hx3 := (hx.cell ⟨w.heap.size, 3, none⟩ hN).trans hc3; have hx4 := (hx.cell ⟨w.heap.size, 4, none⟩ hN).trans hc4; go_simp; first | done | with_reducible rfl | rw [if_neg (by omega)] | rw [if_pos (by omega)]
        simp only [Act.put, nA, nB, nC]
        refine wpS_take 12 (some 134) (v := ?_) rfl rfl (by kernel_rfl) (fun _ _ _ h => h) rfl (fun x hx => ?_) ?_
        rotate_left 1
        · have hx0 := (hx.cell ⟨w.heap.size, 0, none⟩ hN).trans hc0; have hx3 := (hx.cell ⟨w.heap.size, 3, none⟩ hN).trans hc3; have hx4 := (hx.cell ⟨w.heap.size, 4, none⟩ hN).trans hc4; go_simp; first | done | with_reducible rfl | rw [if_neg (by omega)] | rw [if_pos (by omega)]
        simp only [Act.put, nA, nB, nC]
        refine wpS_take 13 (some 135) (v := ?_) rfl rfl (by kernel_rfl) (fun _ _ _ h => h) rfl (fun x hx => ?_) ?_
        rotate_left 1
        · have hx0 := (hx.cell ⟨w.heap.size, 0, none⟩ hN).trans hc0; have hx3 := (hx.cell ⟨w.heap.size, 3, none⟩ hN).trans hc3; have hx4 := (hx.cell ⟨w.heap.size, 4, none⟩ hN).trans hc4; go_simp; first | done | with_reducible rfl | rw [if_neg (by omega)] | rw [if_pos (by omega)]
        simp only [Act.put, nA, nB, nC]
        refine wpS_step 10 (by kernel_rfl) rfl ?_  -- call value (Go.Operand.func 73)
        go_wp2_with (go_at_call 73; refine (specHasByte_any lo hi (byteAt s k) _ hb0 hb1).mono ?_; rintro e w2 ⟨rfl, hb2⟩)
        refine ⟨hb2, ?_⟩
        replace hbel : Below w.heap.size w w2 := hbel.drew.trans (Below.mono hb2 hsz)
        replace hc0 : w2.cell? ⟨w.heap.size, 0, none⟩ = some (.int .i64 9) := (Later.cell hb2 _ hN).trans hc0
        replace hc3 : w2.cell? ⟨w.heap.size, 3, none⟩ = some (.int .i64 lo) := (Later.cell hb2 _ hN).trans hc3
        replace hc4 : w2.cell? ⟨w.heap.size, 4, none⟩ = some (.int .i64 hi) := (Later.cell hb2 _ hN).trans hc4
        replace hN : w.heap.size < w2.heap.size := Nat.lt_of_lt_of_le hN hb2.size
        replace hsz := hbel.size
        clear hb2
        refine wpS_take 14 (some 136) (v := ?_) rfl rfl (by kernel_rfl) (fun _ _ _ h => h) rfl (fun x hx => ?_) ?_
        rotate_left 1
        · have hx0 := (hx.cell ⟨w.heap.size, 0, none⟩ hN).trans hc0; have hx3 := (hx.cell ⟨w.heap.size, 3, none⟩ hN).trans hc3; have hx4 := (hx.cell ⟨w.heap.size, 4, none⟩ hN).trans hc4; go_simp; first | done | with_reducible rfl | rw [if_neg (by omega)] | rw [if_pos (by omega)]
        simp only [Act.put, nA, nB, nC]
        refine wpS_take 15 (some 137) (v := ?_) rfl rfl (by kernel_rfl) (fun _ _ _ h => h) rfl (fun x hx => ?_) ?_
        rotate_left 1
        · have hx0 := (hx.cell ⟨w.heap.size, 0, none⟩ hN).trans hc0; have hx3 := (hx.cell ⟨w.heap.size, 3, none⟩ hN).trans hc3; have hx4 := (hx.cell ⟨w.heap.size, 4, none⟩ hN).trans hc4; go_simp; first | done | with_reducible rfl | rw [if_neg (by omega)] | rw [if_pos (by omega)]
        simp only [Act.put, nA, nB, nC]
        refine wpS_tail 16 0 _ rfl (by kernel_rfl) rfl ?_
        simp only [List.drop_succ_cons, List.drop_zero]
        refine wpList_nil ?_
        go_wp2_with fail
        go_roundw
        case rel => exact ⟨k + 1, by omega, by omega, by go_num, hr2, hN, hc0, hc3, hc4, hbel⟩
        case measure => simp [intOf]; omega
      case false =>
        have HR := Lib.hid (run_end hk0 hg hrun hv)
        by_cases hpos : p < k
        · have hpos' : (p : Int) < k := by omega
          go_wp2_with fail
          -- region 27: 16 operations, the tail from 16 on
          refine wpS_begin 16 (by kernel_rfl) (fun w1 hw1 => ?_)
          subst hw1
          refine wpS_take 0 (some 122) (v := ?_) rfl rfl (by kernel_rfl) (fun _ _ _ h => h) rfl (fun x hx => ?_) ?_
          rotate_left 1
          · have hx0 := (hx.cell ⟨w.heap.size, 0, none⟩ hN).trans hc0; have hx3 := (hx.cell ⟨w.heap.size, 3, none⟩ hN).trans hc3; have hx4 := (hx.cell ⟨w.heap.size, 4, none⟩ hN).trans hc4; go_simp; first | done | with_reducible rfl | rw [if_neg (by omega)] | rw [if_pos (by omega)]
          simp only [Act.put, nA, nB, nC]
          refine wpS_take 1 (some 123) (v := ?_) rfl rfl (by kernel_rfl) (fun _ _ _ h => h) rfl (fun x hx => ?_) ?_
          rotate_left 1
          · have hx0 := (hx.cell ⟨w.heap.size, 0, none⟩ hN).trans hc0; have hx3 := (hx.cell ⟨w.heap.size, 3, none⟩ hN).trans hc3; have hx4 := (hx.cell ⟨w.heap.size, 4, none⟩ hN).trans hc4; go_simp; first | done | with_reducible rfl | rw [if_neg (by omega)] | rw [if_pos (by omega)]
          simp only [Act.put, nA, nB, nC]
          refine wpS_take 2 (some 124) (v := ?_) rfl rfl (by kernel_rfl) (fun _ _ _ h => h) rfl (fun x hx => ?_) ?_
          rotate_left 1
          · have hx0 := (hx.cell ⟨w.heap.size, 0, none⟩ hN).trans hc0; have hx3 := (hx.cell ⟨w.heap.size, 3, none⟩ hN).trans hc3; have hx4 := (hx.cell ⟨w.heap.size, 4, none⟩ hN).trans hc4; go_simp; first | done | with_reducible rfl | rw [if_neg (by omega)] | rw [if_pos (by omega)]
          simp only [Act.put, nA, nB, nC]
          refine wpS_take 3 (some 125) (v := ?_) rfl rfl (by kernel_rfl) (fun _ _ _ h => h) rfl (fun x hx => ?_) ?_
          rotate_left 1
          · have hx0 := (hx.cell ⟨w.heap.size, 0, none⟩ hN).trans hc0; have hx3 := (hx.cell ⟨w.heap.size, 3, none⟩ hN).trans hc3; have hx4 := (hx.cell ⟨w.heap.size, 4, none⟩ hN).trans hc4; go_simp; first | done | with_reducible rfl | rw [if_neg (by omega)] | rw [if_pos (by omega)]
          simp only [Act.put, nA, nB, nC]
          refine wpS_take 4 (some 126) (v := ?_) rfl rfl (by kernel_rfl) (fun _ _ _ h => h) rfl (fun x hx => ?_) ?_
          rotate_left 1
          · have hx0 := (hx.cell ⟨w.heap.size, 0, none⟩ hN).trans hc0; have hx3 := (hx.cell ⟨w.heap.size, 3, none⟩ hN).trans hc3; have hx4 := (hx.cell ⟨w.heap.size, 4, none⟩ hN).trans hc4; go_simp; first | done | with_reducible rfl | rw [if_neg (by omega)] | rw [if_pos (by omega)]
          simp only [Act.put, nA, nB, nC]
          refine wpS_take 5 (some 127) (v := ?_) rfl rfl (by kernel_rfl) (fun _ _ _ h => h) rfl (fun x hx => ?_) ?_
          rotate_left 1
          · have hx0 := (hx.cell ⟨w.heap.size, 0, none⟩ hN).trans hc0; have hx3 := (hx.cell ⟨w.heap.size, 3, none⟩ hN).trans hc3; have hx4 := (hx.cell ⟨w.heap.size, 4, none⟩ hN).trans hc4; go_simp; first | done | with_reducible rfl | rw [if_neg (by omega)] | rw [if_pos (by omega)]
          simp only [Act.put, nA, nB, nC]
          refine wpS_take 6 (some 128) (v := ?_) rfl rfl (by kernel_rfl) (fun _ _ _ h => h) rfl (fun x hx => ?_) ?_
          rotate_left 1
          · have hx0 := (hx.cell ⟨w.heap.size, 0, none⟩ hN).trans hc0; have hx3 := (hx.cell ⟨w.heap.size, 3, none⟩ hN).trans hc3; have hx4 := (hx.cell ⟨w.heap.size, 4, none⟩ hN).trans hc4; go_simp; first | done | with_reducible rfl | rw [if_neg (by omega)] | rw [if_pos (by omega)]
          simp only [Act.put, nA, nB, nC]
          refine wpS_take 7 (some 129) (v := ?_) rfl rfl (by kernel_rfl) (fun _ _ _ h => h) rfl (fun x hx => ?_) ?_
          rotate_left 1
          · have hx0 := (hx.cell ⟨w.heap.size, 0, none⟩ hN).trans hc0; have hx3 := (hx.cell ⟨w.heap.size, 3, none⟩ hN).trans hc3; have hx4 := (hx.cell ⟨w.heap.size, 4, none⟩ hN).trans hc4; go_simp; first | done | with_reducible rfl | rw [if_neg (by omega)] | rw [if_pos (by omega)]
          simp only [Act.put, nA, nB, nC]
          refine wpS_take 8 (some 130) (v := ?_) rfl rfl (by kernel_rfl) (fun _ _ _ h => h) rfl (fun x hx => ?_) ?_
          rotate_left 1
          · have hx0 := (hx.cell ⟨w.heap.size, 0, none⟩ hN).trans hc0; have hx3 := (hx.cell ⟨w.heap.size, 3, none⟩ hN).trans hc3; have hx4 := (hx.cell ⟨w.heap.size, 4, none⟩ hN).trans hc4; go_simp; first | done | with_reducible rfl | rw [if_neg (by omega)] | rw [if_pos (by omega)]
          simp only [Act.put, nA, nB, nC]
          refine wpS_take 9 (some 131) (v := ?_) rfl rfl (by kernel_rfl) (fun _ _ _ h => h) rfl (fun x hx => ?_) ?_
          rotate_left 1
          · have hx0 := (hx.cell ⟨w.heap.size, 0, none⟩ hN).trans hc0; have hx3 := (hx.cell ⟨w.heap.size, 3, none⟩ hN).trans hc3; have hx4 := (hx.cell ⟨w.heap.size, 4, none⟩ hN).trans hc4; go_simp; first | done | with_reducible rfl | rw [if_neg (by omega)] | rw [if_pos (by omega)]
          simp only [Act.put, nA, nB, nC]
          refine wpS_take 11 (some 133) (v := ?_) rfl rfl (by kernel_rfl) (fun _ _ _ h => h) rfl (fun x hx => ?_) ?_
          rotate_left 1
          · have hx0 := (hx.cell ⟨w.heap.size, 0, none⟩ hN).trans hc0; have hx3 := (hx.cell ⟨w.heap.size, 3, none⟩ hN).trans hc3; have hx4 := (hx.cell ⟨w.heap.size, 4, none⟩ hN).trans hc4; go_simp; first | done | with_reducible rfl | rw [if_neg (by omega)] | rw [if_pos (by omega)]
          simp only [Act.put, nA, nB, nC]
          refine wpS_take 12 (some 134) (v := ?_) rfl rfl (by kernel_rfl) (fun _ _ _ h => h) rfl (fun x hx => ?_) ?_
          rotate_left 1
          · have hx0 := (hx.cell ⟨w.heap.size, 0, none⟩ hN).trans hc0; have hx3 := (hx.cell ⟨w.heap.size, 3, none⟩ hN).trans hc3; have hx4 := (hx.cell ⟨w.heap.size, 4, none⟩ hN).trans hc4; go_simp; first | done | with_reducible rfl | rw [if_neg (by omega)] | rw [if_pos (by omega)]
          simp only [Act.put, nA, nB, nC]
          refine wpS_take 13 (some 135) (v := ?_) rfl rfl (by kernel_rfl) (fun _ _ _ h => h) rfl (fun x hx => ?_) ?_
          rotate_left 1
          · have hx0 := (hx.cell ⟨w.heap.size, 0, none⟩ hN).trans hc0; have hx3 := (hx.cell ⟨w.heap.size, 3, none⟩ hN).trans hc3; have hx4 := (hx.cell ⟨w.heap.size, 4, none⟩ hN).trans hc4; go_simp; first | done | with_reducible rfl | rw [if_neg (by omega)] | rw [if_pos (by omega)]
          simp only [Act.put, nA, nB, nC]
          refine wpS_step 10 (by kernel_rfl) rfl ?_  -- call value (Go.Operand.func 73)
          go_wp2_with (go_at_call 73; refine (specHasByte_any lo hi (byteAt s k) _ hb0 hb1).mono ?_; rintro e w2 ⟨rfl, hb2⟩)
          refine ⟨hb2, ?_⟩
          replace hbel : Below w.heap.size w w2 := hbel.drew.trans (Below.mono hb2 hsz)
          replace hc0 : w2.cell? ⟨w.heap.size, 0, none⟩ = some (.int .i64 9) := (Later.cell hb2 _ hN).trans hc0
          replace hc3 : w2.cell? ⟨w.heap.size, 3, none⟩ = some (.int .i64 lo) := (Later.cell hb2 _ hN).trans hc3
          replace hc4 : w2.cell? ⟨w.heap.size, 4, none⟩ = some (.int .i64 hi) := (Later.cell hb2 _ hN).trans hc4
          replace hN : w.heap.size < w2.heap.size := Nat.lt_of_lt_of_le hN hb2.size
          replace hsz := hbel.size
          clear hb2
          refine wpS_take 14 (some 136) (v := ?_) rfl rfl (by kernel_rfl) (fun _ _ _ h => h) rfl (fun x hx => ?_) ?_
          rotate_left 1
          · have hx0 := (hx.cell ⟨w.heap.size, 0, none⟩ hN).trans hc0; have hx3 := (hx.cell ⟨w.heap.size, 3, none⟩ hN).trans hc3; have hx4 := (hx.cell ⟨w.heap.size, 4, none⟩ hN).trans hc4; go_simp; first | done | with_reducible rfl | rw [if_neg (by omega)] | rw [if_pos (by omega)]
          simp only [Act.put, nA, nB, nC]
          refine wpS_take 15 (some 137) (v := ?_) rfl rfl (by kernel_rfl) (fun _ _ _ h => h) rfl (fun x hx => ?_) ?_
          rotate_left 1
          · have hx0 := (hx.cell ⟨w.heap.size, 0, none⟩ hN).trans hc0; have hx3 := (hx.cell ⟨w.heap.size, 3, none⟩ hN).trans hc3; have hx4 := (hx.cell ⟨w.heap.size, 4, none⟩ hN).trans hc4; go_simp; first | done | with_reducible rfl | rw [if_neg (by omega)] | rw [if_pos (by omega)]
          simp only [Act.put, nA, nB, nC]
          refine wpS_tail 16 0 _ rfl (by kernel_rfl) rfl ?_
          simp only [List.drop_succ_cons, List.drop_zero]
          refine wpList_nil ?_
          go_wp2_with fail
          go_ret
          have hr2 := HR.out
          exact ⟨ret_int (by rw [HV.out, if_pos (by omega)]; simp [endInt]; omega), hbel⟩
        · have hpos' : ¬ (p : Int) < k := by omega
          go_wp2_with fail
          -- region 27: 16 operations, the tail from 16 on
          refine wpS_begin 16 (by kernel_rfl) (fun w1 hw1 => ?_)
          subst hw1
          refine wpS_take 0 (some 122) (v := ?_) rfl rfl (by kernel_rfl) (fun _ _ _ h => h) rfl (fun x hx => ?_) ?_
          rotate_left 1
          · have hx0 := (hx.cell ⟨w.heap.size, 0, none⟩ hN).trans hc0; have hx3 := (hx.cell ⟨w.heap.size, 3, none⟩ hN).trans hc3; have hx4 := (hx.cell ⟨w.heap.size, 4, none⟩ hN).trans hc4; go_simp; first | done | with_reducible rfl | rw [if_neg (by omega)] | rw [if_pos (by omega)]
          simp only [Act.put, nA, nB, nC]
          refine wpS_take 1 (some 123) (v := ?_) rfl rfl (by kernel_rfl) (fun _ _ _ h => h) rfl (fun x hx => ?_) ?_
          rotate_left 1
          · have hx0 := (hx.cell ⟨w.heap.size, 0, none⟩ hN).trans hc0; have hx3 := (hx.cell ⟨w.heap.size, 3, none⟩ hN).trans hc3; have hx4 := (hx.cell ⟨w.heap.size, 4, none⟩ hN).trans hc4; go_simp; first | done | with_reducible rfl | rw [if_neg (by omega)] | rw [if_pos (by omega)]
          simp only [Act.put, nA, nB, nC]
          refine wpS_take 2 (some 124) (v := ?_) rfl rfl (by kernel_rfl) (fun _ _ _ h => h) rfl (fun x hx => ?_) ?_
          rotate_left 1
          · have hx0 := (hx.cell ⟨w.heap.size, 0, none⟩ hN).trans hc0; have hx3 := (hx.cell ⟨w.heap.size, 3, none⟩ hN).trans hc3; have hx4 := (hx.cell ⟨w.heap.size, 4, none⟩ hN).trans hc4; go_simp; first | done | with_reducible rfl | rw [if_neg (by omega)] | rw [if_pos (by omega)]
          simp only [Act.put, nA, nB, nC]
          refine wpS_take 3 (some 125) (v := ?_) rfl rfl (by kernel_rfl) (fun _ _ _ h => h) rfl (fun x hx => ?_) ?_
          rotate_left 1
          · have hx0 := (hx.cell ⟨w.heap.size, 0, none⟩ hN).trans hc0; have hx3 := (hx.cell ⟨w.heap.size, 3, none⟩ hN).trans hc3; have hx4 := (hx.cell ⟨w.heap.size, 4, none⟩ hN).trans hc4; go_simp; first | done | with_reducible rfl | rw [if_neg (by omega)] | rw [if_pos (by omega)]
          simp only [Act.put, nA, nB, nC]
          refine wpS_take 4 (some 126) (v := ?_) rfl rfl (by kernel_rfl) (fun _ _ _ h => h) rfl (fun x hx => ?_) ?_
          rotate_left 1
          · have hx0 := (hx.cell ⟨w.heap.size, 0, none⟩ hN).trans hc0; have hx3 := (hx.cell ⟨w.heap.size, 3, none⟩ hN).trans hc3; have hx4 := (hx.cell ⟨w.heap.size, 4, none⟩ hN).trans hc4; go_simp; first | done | with_reducible rfl | rw [if_neg (by omega)] | rw [if_pos (by omega)]
          simp only [Act.put, nA, nB, nC]
          refine wpS_take 5 (some 127) (v := ?_) rfl rfl (by kernel_rfl) (fun _ _ _ h => h) rfl (fun x hx => ?_) ?_
          rotate_left 1
          · have hx0 := (hx.cell ⟨w.heap.size, 0, none⟩ hN).trans hc0; have hx3 := (hx.cell ⟨w.heap.size, 3, none⟩ hN).trans hc3; have hx4 := (hx.cell ⟨w.heap.size, 4, none⟩ hN).trans hc4; go_simp; first | done | with_reducible rfl | rw [if_neg (by omega)] | rw [if_pos (by omega)]
          simp only [Act.put, nA, nB, nC]
          refine wpS_take 6 (some 128) (v := ?_) rfl rfl (by kernel_rfl) (fun _ _ _ h => h) rfl (fun x hx => ?_) ?_
          rotate_left 1
          · have hx0 := (hx.cell ⟨w.heap.size, 0, none⟩ hN).trans hc0; have hx3 := (hx.cell ⟨w.heap.size, 3, none⟩ hN).trans hc3; have hx4 := (hx.cell ⟨w.heap.size, 4, none⟩ hN).trans hc4; go_simp; first | done | with_reducible rfl | rw [if_neg (by omega)] | rw [if_pos (by omega)]
          simp only [Act.put, nA, nB, nC]
          refine wpS_take 7 (some 129) (v := ?_) rfl rfl (by kernel_rfl) (fun _ _ _ h => h) rfl (fun x hx => ?_) ?_
          rotate_left 1
          · have hx0 := (hx.cell ⟨w.heap.size, 0, none⟩ hN).trans hc0; have hx3 := (hx.cell ⟨w.heap.size, 3, none⟩ hN).trans hc3; have hx4 := (hx.cell ⟨w.heap.size, 4, none⟩ hN).trans hc4; go_simp; first | done | with_reducible rfl | rw [if_neg (by omega)] | rw [if_pos (by omega)]
          simp only [Act.put, nA, nB, nC]
          refine wpS_take 8 (some 130) (v := ?_) rfl rfl (by kernel_rfl) (fun _ _ _ h => h) rfl (fun x hx => ?_) ?_
          rotate_left 1
          · have hx0 := (hx.cell ⟨w.heap.size, 0, none⟩ hN).trans hc0; have hx3 := (hx.cell ⟨w.heap.size, 3, none⟩ hN).trans hc3; have hx4 := (hx.cell ⟨w.heap.size, 4, none⟩ hN).trans hc4; go_simp; first | done | with_reducible rfl | rw [if_neg (by omega)] | rw [if_pos (by omega)]
          simp only [Act.put, nA, nB, nC]
          refine wpS_take 9 (some 131) (v := ?_) rfl rfl (by kernel_rfl) (fun _ _ _ h => h) rfl (fun x hx => ?_) ?_
          rotate_left 1
          · have hx0 := (hx.cell ⟨w.heap.size, 0, none⟩ hN).trans hc0; have hx3 := (hx.cell ⟨w.heap.size, 3, none⟩ hN).trans hc3; have hx4 := (hx.cell ⟨w.heap.size, 4, none⟩ hN).trans hc4; go_simp; first | done | with_reducible rfl | rw [if_neg (by omega)] | rw [if_pos (by omega)]
          simp only [Act.put, nA, nB, nC]
          refine wpS_take 11 (some 133) (v := ?_) rfl rfl (by kernel_rfl) (fun _ _ _ h => h) rfl (fun x hx => ?_) ?_
          rotate_left 1
          · have hx0 := (hx.cell ⟨w.heap.size, 0, none⟩ hN).trans hc0; have hx3 := (hx.cell ⟨w.heap.size, 3, none⟩ hN).trans hc3; have hx4 := (hx.cell ⟨w.heap.size, 4, none⟩ hN).trans hc4; go_simp; first | done | with_reducible rfl | rw [if_neg (by omega)] | rw [if_pos (by omega)]
          simp only [Act.put, nA, nB, nC]
          refine wpS_take 12 (some 134) (v := ?_) rfl rfl (by kernel_rfl) (fun _ _ _ h => h) rfl (fun x hx => ?_) ?_
          rotate_left 1
          · have hx0 := (hx.cell ⟨w.heap.size, 0, none⟩ hN).trans hc0; have hx3 := (hx.cell ⟨w.heap.size, 3, none⟩ hN).trans hc3; have hx4 := (hx.cell ⟨w.heap.size, 4, none⟩ hN).trans hc4; go_simp; first | done | with_reducible rfl | rw [if_neg (by omega)] | rw [if_pos (by omega)]
          simp only [Act.put, nA, nB, nC]
          refine wpS_take 13 (some 135) (v := ?_) rfl rfl (by kernel_rfl) (fun _ _ _ h => h) rfl (fun x hx => ?_) ?_
          rotate_left 1
          · have hx0 := (hx.cell ⟨w.heap.size, 0, none⟩ hN).trans hc0; have hx3 := (hx.cell ⟨w.heap.size, 3, none⟩ hN).trans hc3; have hx4 := (hx.cell ⟨w.heap.size, 4, none⟩ hN).trans hc4; go_simp; first | done | with_reducible rfl | rw [if_neg (by omega)] | rw [if_pos (by omega)]
          simp only [Act.put, nA, nB, nC]
          refine wpS_step 10 (by kernel_rfl) rfl ?_  -- call value (Go.Operand.func 73)
          go_wp2_with (go_at_call 73; refine (specHasByte_any lo hi (byteAt s k) _ hb0 hb1).mono ?_; rintro e w2 ⟨rfl, hb2⟩)
          refine ⟨hb2, ?_⟩
          replace hbel : Below w.heap.size w w2 := hbel.drew.trans (Below.mono hb2 hsz)
          replace hc0 : w2.cell? ⟨w.heap.size, 0, none⟩ = some (.int .i64 9) := (Later.cell hb2 _ hN).trans hc0
          replace hc3 : w2.cell? ⟨w.heap.size, 3, none⟩ = some (.int .i64 lo) := (Later.cell hb2 _ hN).trans hc3
          replace hc4 : w2.cell? ⟨w.heap.size, 4, none⟩ = some (.int .i64 hi) := (Later.cell hb2 _ hN).trans hc4
          replace hN : w.heap.size < w2.heap.size := Nat.lt_of_lt_of_le hN hb2.size
          replace hsz := hbel.size
          clear hb2
          refine wpS_take 14 (some 136) (v := ?_) rfl rfl (by kernel_rfl) (fun _ _ _ h => h) rfl (fun x hx => ?_) ?_
          rotate_left 1
          · have hx0 := (hx.cell ⟨w.heap.size, 0, none⟩ hN).trans hc0; have hx3 := (hx.cell ⟨w.heap.size, 3, none⟩ hN).trans hc3; have hx4 := (hx.cell ⟨w.heap.size, 4, none⟩ hN).trans hc4; go_simp; first | done | with_reducible rfl | rw [if_neg (by omega)] | rw [if_pos (by omega)]
          simp only [Act.put, nA, nB, nC]
          refine wpS_take 15 (some 137) (v := ?_) rfl rfl (by kernel_rfl) (fun _ _ _ h => h) rfl (fun x hx => ?_) ?_
          rotate_left 1
          · have hx0 := (hx.cell ⟨w.heap.size, 0, none⟩ hN).trans hc0; have hx3 := (hx.cell ⟨w.heap.size, 3, none⟩ hN).trans hc3; have hx4 := (hx.cell ⟨w.heap.size, 4, none⟩ hN).trans hc4; go_simp; first | done | with_reducible rfl | rw [if_neg (by omega)] | rw [if_pos (by omega)]
          simp only [Act.put, nA, nB, nC]
          refine wpS_tail 16 0 _ rfl (by kernel_rfl) rfl ?_
          simp only [List.drop_succ_cons, List.drop_zero]
          refine wpList_nil ?_
          go_wp2_with fail
          go_ret
          have hr2 := HR.out
          exact ⟨ret_int (by rw [HV.out, if_neg (by omega)]; rfl), hbel⟩
    · have HR := Lib.hid (run_all hk0 (by omega) hrun)
      have hg' : decide ((k : Int) < s.size) = false := by simp; omega
      by_cases hpos : p < k
      · have hpos' : (p : Int) < k := by omega
        go_wp2_with fail
        go_quiet (fail)
        go_wp2_with fail
        go_ret
        have hr2 := HR.out
        exact ⟨ret_int (by rw [HV.out, if_pos (by omega)]; simp [endInt]; omega), below_drewN' hbel _⟩
      · have hpos' : ¬ (p : Int) < k := by omega
        go_wp2_with fail
        go_quiet (fail)
        go_wp2_with fail
        go_ret
        have hr2 := HR.out
        exact ⟨ret_int (by rw [HV.out, if_neg (by omega)]; rfl), below_drewN' hbel _⟩

set_option maxRecDepth 100000 in
set_option maxHeartbeats 4000000 in
theorem one_10 (hs : s.size ≤ 120) (hp : p ≤ s.size) :
    Calls Try.prog 82 #[patV 10 text num lo hi (.slice A n c), .string s, .int .i64 p] w fun e w' => e = .returned (.int .i64 (endInt (oneEnd 10 text num lo hi s p))) ∧ Below w.heap.size w w' := by
  have HV := Lib.hid (show oneEnd 10 text num lo hi s p = if p + runOf lo hi false (s.data.toList.drop p) < s.size then some (p + runOf lo hi false (s.data.toList.drop p)) else none from rfl)
  go_enter Try.func82, Try.ntmps82
  go_wp2_with fail
  go_loopw [7] (fun v wr => ∃ k : Nat, p ≤ k ∧ k ≤ s.size ∧ v = .int .i64 k ∧ k - p ≤ runOf lo hi false (s.data.toList.drop p) ∧ w.heap.size < wr.heap.size ∧ wr.cell? ⟨w.heap.size, 0, none⟩ = some (.int .i64 10) ∧ wr.cell? ⟨w.heap.size, 3, none⟩ = some (.int .i64 lo) ∧ wr.cell? ⟨w.heap.size, 4, none⟩ = some (.int .i64 hi) ∧ Below w.heap.size w wr) (fun v _ => s.size - (intOf v).toNat)
  case atStart =>
    refine ⟨p, Nat.le_refl _, hp, rfl, by omega, by simp, ?_, ?_, ?_, (Below.refl _ _).alloc (Nat.le_refl _) _⟩
    · exact cell_of_row _ w.heap.size 0 _ _ _ (heap_alloc_new w _)
    · exact cell_of_row _ w.heap.size 3 _ _ _ (heap_alloc_new w _)
    · exact cell_of_row _ w.heap.size 4 _ _ _ (heap_alloc_new w _)
  case round =>
    obtain ⟨k, hk0, hk1, rfl, hrun, hN, hc0, hc3, hc4, hbel⟩ := hrel
    have hsz := hbel.size
    by_cases hg : k < s.size
    · have hg' : (k : Int) < s.size := by omega
      have hg3 : (0 : Int) ≤ (k : Int) := by omega
      have hby : (s[k].toNat : Int) = byteAt s k := byteAt_eq s k hg
      have hb0 : 0 ≤ byteAt s k := byteAt_bd s k |>.1
      have hb1 : byteAt s k < 256 := byteAt_bd s k |>.2
      cases hv : hb lo hi (byteAt s k)
      case false =>
        have hr2 := run_more hk0 hg hrun hv
        go_wp2_with fail
        -- region 27: 16 operations, the tail from 16 on
        refine wpS_begin 16 (by kernel_rfl) (fun w1 hw1 => ?_)
        subst hw1
        refine wpS_take 0 (some 122) (v := ?_) rfl rfl (by kernel_rfl) (fun _ _ _ h => h) rfl (fun x hx => ?_) ?_
        rotate_left 1
        · have hx0 := (hx.cell ⟨w.heap.size, 0, none⟩ hN).trans hc0; have hx3 := (hx.cell ⟨w.heap.size, 3, none⟩ hN).trans hc3; have hx4 := (hx.cell ⟨w.heap.size, 4, none⟩ hN).trans hc4; go_simp; first | done | with_reducible rfl | rw [if_neg (by omega)] | rw [if_pos (by omega)]
        simp only [Act.put, nA, nB, nC]
        refine wpS_take 1 (some 123) (v := ?_) rfl rfl (by kernel_rfl) (fun _ _ _ h => h) rfl (fun x hx => ?_) ?_
        rotate_left 1
        · have hx0 := (hx.cell ⟨w.heap.size, 0, none⟩ hN).trans hc0; have hx3 := (hx.cell ⟨w.heap.size, 3, none⟩ hN).trans hc3; have hx4 := (hx.cell ⟨w.heap.size, 4, none⟩ hN).trans hc4; go_simp; first | done | with_reducible rfl | rw [if_neg (by omega)] | rw [if_pos (by omega)]
        simp only [Act.put, nA, nB, nC]
        refine wpS_take 2 (some 124) (v := ?_) rfl rfl (by kernel_rfl) (fun _ _ _ h => h) rfl (fun x hx => ?_) ?_
        rotate_left 1
        · have hx0 := (hx.cell ⟨w.heap.size, 0, none⟩ hN).trans hc0; have hx3 := (hx.cell ⟨w.heap.size, 3, none⟩ hN).trans hc3; have hx4 := (hx.cell ⟨w.heap.size, 4, none⟩ hN).trans hc4; go_simp; first | done | with_reducible rfl | rw [if_neg (by omega)] | rw [if_pos (by omega)]
        simp only [Act.put, nA, nB, nC]
        refine wpS_take 3 (some 125) (v := ?_) rfl rfl (by kernel_rfl) (fun _ _ _ h => h) rfl (fun x hx => ?_) ?_
        rotate_left 1
        · have hx0 := (hx.cell ⟨w.heap.size, 0, none⟩ hN).trans hc0; have hx3 := (hx.cell ⟨w.heap.size, 3, none⟩ hN).trans hc3; have hx4 := (hx.cell ⟨w.heap.size, 4, none⟩ hN).trans hc4; go_simp; first | done | with_reducible rfl | rw [if_neg (by omega)] | rw [if_pos (by omega)]
        simp only [Act.put, nA, nB, nC]
        refine wpS_take 4 (some 126) (v := ?_) rfl rfl (by kernel_rfl) (fun _ _ _ h => h) rfl (fun x hx => ?_) ?_
        rotate_left 1
        · have hx0 := (hx.cell ⟨w.heap.size, 0, none⟩ hN).trans hc0; have hx3 := (hx.cell ⟨w.heap.size, 3, none⟩ hN).trans hc3; have hx4 := (hx.cell ⟨w.heap.size, 4, none⟩ hN).trans hc4; go_simp; first | done | with_reducible rfl | rw [if_neg (by omega)] | rw [if_pos (by omega)]
        simp only [Act.put, nA, nB, nC]
        refine wpS_take 5 (some 127) (v := ?_) rfl rfl (by kernel_rfl) (fun _ _ _ h => h) rfl (fun x hx => ?_) ?_
        rotate_left 1
        · have hx0 := (hx.cell ⟨w.heap.size, 0, none⟩ hN).trans hc0; have hx3 := (hx.cell ⟨w.heap.size, 3, none⟩ hN).trans hc3; have hx4 := (hx.cell ⟨w.heap.size, 4, none⟩ hN).trans hc4; go_simp; first | done | with_reducible rfl | rw [if_neg (by omega)] | rw [if_pos (by omega)]
        simp only [Act.put, nA, nB, nC]
        refine wpS_take 6 (some 128) (v := ?_) rfl rfl (by kernel_rfl) (fun _ _ _ h => h) rfl (fun x hx => ?_) ?_
        rotate_left 1
        · have hx0 := (hx.cell ⟨w.heap.size, 0, none⟩ hN).trans hc0; have hx3 := (hx.cell ⟨w.heap.size, 3, none⟩ hN).trans hc3; have hx4 := (hx.cell ⟨w.heap.size, 4, none⟩ hN).trans hc4; go_simp; first | done | with_reducible rfl | rw [if_neg (by omega)] | rw [if_pos (by omega)]
        simp only [Act.put, nA, nB, nC]
        refine wpS_take 7 (some 129) (v := ?_) rfl rfl (by kernel_rfl) (fun _ _ _ h => h) rfl (fun x hx => ?_) ?_
        rotate_left 1
        · have hx0 := (hx.cell ⟨w.heap.size, 0, none⟩ hN).trans hc0; have hx3 := (hx.cell ⟨w.heap.size, 3, none⟩ hN).trans hc3; have hx4 := (hx.cell ⟨w.heap.size, 4, none⟩ hN).trans hc4; go_simp; first | done | with_reducible rfl | rw [if_neg (by omega)] | rw [if_pos (by omega)]
        simp only [Act.put, nA, nB, nC]
        refine wpS_take 8 (some 130) (v := ?_) rfl rfl (by kernel_rfl) (fun _ _ _ h => h) rfl (fun x hx => ?_) ?_
        rotate_left 1
        · have hx0 := (hx.cell ⟨w.heap.size, 0, none⟩ hN).trans hc0; have hx3 := (hx.cell ⟨w.heap.size, 3, none⟩ hN).trans hc3; have hx4 := (hx.cell ⟨w.heap.size, 4, none⟩ hN).trans hc4; go_simp; first | done | with_reducible rfl | rw [if_neg (by omega)] | rw [if_pos (by omega)]
        simp only [Act.put, nA, nB, nC]
        refine wpS_take 9 (some 131) (v := ?_) rfl rfl (by kernel_rfl) (fun _ _ _ h => h) rfl (fun x hx => ?_) ?_
        rotate_left 1
        · have hx0 := (hx.cell ⟨w.heap.size, 0, none⟩ hN).trans hc0; have hx3 := (hx.cell ⟨w.heap.size, 3, none⟩ hN).trans hc3; have hx4 := (hx.cell ⟨w.heap.size, 4, none⟩ hN).trans hc4; go_simp; first | done | with_reducible rfl | rw [if_neg (by omega)] | rw [if_pos (by omega)]
        simp only [Act.put, nA, nB, nC]
        refine wpS_take 11 (some 133) (v := ?_) rfl rfl (by kernel_rfl) (fun _ _ _ h => h) rfl (fun x hx => ?_) ?_
        rotate_left 1
        · have hx0 := (hx.cell ⟨w.heap.size, 0, none⟩ hN).trans hc0; have hx3 := (hx.cell ⟨w.heap.size, 3, none⟩ hN).trans hc3; have hx4 := (hx.cell ⟨w.heap.size, 4, none⟩ hN).trans hc4; go_simp; first | done | with_reducible rfl | rw [if_neg (by omega)] | rw [if_pos (by omega)]
        simp only [Act.put, nA, nB, nC]
        refine wpS_take 12 (some 134) (v := ?_) rfl rfl (by kernel_rfl) (fun _ _ _ h => h) rfl (fun x hx => ?_) ?_
        rotate_left 1
        · have hx0 := (hx.cell ⟨w.heap.size, 0, none⟩ hN).trans hc0; have hx3 := (hx.cell ⟨w.heap.size, 3, none⟩ hN).trans hc3; have hx4 := (hx.cell ⟨w.heap.size, 4, none⟩ hN).trans hc4; go_simp; first | done | with_reducible rfl | rw [if_neg (by omega)] | rw [if_pos (by omega)]
        simp only [Act.put, nA, nB, nC]
        refine wpS_take 13 (some 135) (v := ?_) rfl rfl (by kernel_rfl) (fun _ _ _ h => h) rfl (fun x hx => ?_) ?_
        rotate_left 1
        · have hx0 := (hx.cell ⟨w.heap.size, 0, none⟩ hN).trans hc0; have hx3 := (hx.cell ⟨w.heap.size, 3, none⟩ hN).trans hc3; have hx4 := (hx.cell ⟨w.heap.size, 4, none⟩ hN).trans hc4; go_simp; first | done | with_reducible rfl | rw [if_neg (by omega)] | rw [if_pos (by omega)]
        simp only [Act.put, nA, nB, nC]
        refine wpS_step 10 (by kernel_rfl) rfl ?_  -- call value (Go.Operand.func 73)
        go_wp2_with (go_at_call 73; refine (specHasByte_any lo hi (byteAt s k) _ hb0 hb1).mono ?_; rintro e w2 ⟨rfl, hb2⟩)
        refine ⟨hb2, ?_⟩
        replace hbel : Below w.heap.size w w2 := hbel.drew.trans (Below.mono hb2 hsz)
        replace hc0 : w2.cell? ⟨w.heap.size, 0, none⟩ = some (.int .i64 10) := (Later.cell hb2 _ hN).trans hc0
        replace hc3 : w2.cell? ⟨w.heap.size, 3, none⟩ = some (.int .i64 lo) := (Later.cell hb2 _ hN).trans hc3
        replace hc4 : w2.cell? ⟨w.heap.size, 4, none⟩ = some (.int .i64 hi) := (Later.cell hb2 _ hN).trans hc4
        replace hN : w.heap.size < w2.heap.size := Nat.lt_of_lt_of_le hN hb2.size
        replace hsz := hbel.size
        clear hb2
        refine wpS_take 14 (some 136) (v := ?_) rfl rfl (by kernel_rfl) (fun _ _ _ h => h) rfl (fun x hx => ?_) ?_
        rotate_left 1
        · have hx0 := (hx.cell ⟨w.heap.size, 0, none⟩ hN).trans hc0; have hx3 := (hx.cell ⟨w.heap.size, 3, none⟩ hN).trans hc3; have hx4 := (hx.cell ⟨w.heap.size, 4, none⟩ hN).trans hc4; go_simp; first | done | with_reducible rfl | rw [if_neg (by omega)] | rw [if_pos (by omega)]
        simp only [Act.put, nA, nB, nC]
        refine wpS_take 15 (some 137) (v := ?_) rfl rfl (by kernel_rfl) (fun _ _ _ h => h) rfl (fun x hx => ?_) ?_
        rotate_left 1
        · have hx0 := (hx.cell ⟨w.heap.size, 0, none⟩ hN).trans hc0; have hx3 := (hx.cell ⟨w.heap.size, 3, none⟩ hN).trans hc3; have hx4 := (hx.cell ⟨w.heap.size, 4, none⟩ hN).trans hc4; go_simp; first | done | with_reducible rfl | rw [if_neg (by omega)] | rw [if_pos (by omega)]
        simp only [Act.put, nA, nB, nC]
        refine wpS_tail 16 0 _ rfl (by kernel_rfl) rfl ?_
        simp only [List.drop_succ_cons, List.drop_zero]
        refine wpList_nil ?_
        go_wp2_with fail
        go_roundw
        case rel => exact ⟨k + 1, by omega, by omega, by go_num, hr2, hN, hc0, hc3, hc4, hbel⟩
        case measure => simp [intOf]; omega
      case true =>
        have HR := Lib.hid (run_end hk0 hg hrun hv)
        go_wp2_with fail
        -- region 27: 16 operations, the tail from 16 on
        refine wpS_begin 16 (by kernel_rfl) (fun w1 hw1 => ?_)
        subst hw1
        refine wpS_take 0 (some 122) (v := ?_) rfl rfl (by kernel_rfl) (fun _ _ _ h => h) rfl (fun x hx => ?_) ?_
        rotate_left 1
        · have hx0 := (hx.cell ⟨w.heap.size, 0, none⟩ hN).trans hc0; have hx3 := (hx.cell ⟨w.heap.size, 3, none⟩ hN).trans hc3; have hx4 := (hx.cell ⟨w.heap.size, 4, none⟩ hN).trans hc4; go_simp; first | done | with_reducible rfl | rw [if_neg (by omega)] | rw [if_pos (by omega)]
        simp only [Act.put, nA, nB, nC]
        refine wpS_take 1 (some 123) (v := ?_) rfl rfl (by kernel_rfl) (fun _ _ _ h => h) rfl (fun x hx => ?_) ?_
        rotate_left 1
        · have hx0 := (hx.cell ⟨w.heap.size, 0, none⟩ hN).trans hc0; have hx3 := (hx.cell ⟨w.heap.size, 3, none⟩ hN).trans hc3; have hx4 := (hx.cell ⟨w.heap.size, 4, none⟩ hN).trans hc4; go_simp; first | done | with_reducible rfl | rw [if_neg (by omega)] | rw [if_pos (by omega)]
        simp only [Act.put, nA, nB, nC]
        refine wpS_take 2 (some 124) (v := ?_) rfl rfl (by kernel_rfl) (fun _ _ _ h => h) rfl (fun x hx => ?_) ?_
        rotate_left 1
        · have hx0 := (hx.cell ⟨w.heap.size, 0, none⟩ hN).trans hc0; have hx3 := (hx.cell ⟨w.heap.size, 3, none⟩ hN).trans hc3; have hx4 := (hx.cell ⟨w.heap.size, 4, none⟩ hN).trans hc4; go_simp; first | done | with_reducible rfl | rw [if_neg (by omega)] | rw [if_pos (by omega)]
        simp only [Act.put, nA, nB, nC]
        refine wpS_take 3 (some 125) (v := ?_) rfl rfl (by kernel_rfl) (fun _ _ _ h => h) rfl (fun x hx => ?_) ?_
        rotate_left 1
        · have hx0 := (hx.cell ⟨w.heap.size, 0, none⟩ hN).trans hc0; have hx3 := (hx.cell ⟨w.heap.size, 3, none⟩ hN).trans hc3; have hx4 := (hx.cell ⟨w.heap.size, 4, none⟩ hN).trans hc4; go_simp; first | done | with_reducible rfl | rw [if_neg (by omega)] | rw [if_pos (by omega)]
        simp only [Act.put, nA, nB, nC]
        refine wpS_take 4 (some 126) (v := ?_) rfl rfl (by kernel_rfl) (fun _ _ _ h => h) rfl (fun x hx => ?_) ?_
        rotate_left 1
        · have hx0 := (hx.cell ⟨w.heap.size, 0, none⟩ hN).trans hc0; have hx3 := (hx.cell ⟨w.heap.size, 3, none⟩ hN).trans hc3; have hx4 := (hx.cell ⟨w.heap.size, 4, none⟩ hN).trans hc4; go_simp; first | done | with_reducible rfl | rw [if_neg (by omega)] | rw [if_pos (by omega)]
        simp only [Act.put, nA, nB, nC]
        refine wpS_take 5 (some 127) (v := ?_) rfl rfl (by kernel_rfl) (fun _ _ _ h => h) rfl (fun x hx => ?_) ?_
        rotate_left 1
        · have hx0 := (hx.cell ⟨w.heap.size, 0, none⟩ hN).trans hc0; have hx3 := (hx.cell ⟨w.heap.size, 3, none⟩ hN).trans hc3; have hx4 := (hx.cell ⟨w.heap.size, 4, none⟩ hN).trans hc4; go_simp; first | done | with_reducible rfl | rw [if_neg (by omega)] | rw [if_pos (by omega)]
        simp only [Act.put, nA, nB, nC]
        refine wpS_take 6 (some 128) (v := ?_) rfl rfl (by kernel_rfl) (fun _ _ _ h => h) rfl (fun x hx => ?_) ?_
        rotate_left 1
        · have hx0 := (hx.cell ⟨w.heap.size, 0, none⟩ hN).trans hc0; have hx3 := (hx.cell ⟨w.heap.size, 3, none⟩ hN).trans hc3; have hx4 := (hx.cell ⟨w.heap.size, 4, none⟩ hN).trans hc4; go_simp; first | done | with_reducible rfl | rw [if_neg (by omega)] | rw [if_pos (by omega)]
        simp only [Act.put, nA, nB, nC]
        refine wpS_take 7 (some 129) (v := ?_) rfl rfl (by kernel_rfl) (fun _ _ _ h => h) rfl (fun x hx => ?_) ?_
        rotate_left 1
        · have hx0 := (hx.cell ⟨w.heap.size, 0, none⟩ hN).trans hc0; have hx3 := (hx.cell ⟨w.heap.size, 3, none⟩ hN).trans hc3; have hx4 := (hx.cell ⟨w.heap.size, 4, none⟩ hN).trans hc4; go_simp; first | done | with_reducible rfl | rw [if_neg (by omega)] | rw [if_pos (by omega)]
        simp only [Act.put, nA, nB, nC]
        refine wpS_take 8 (some 130) (v := ?_) rfl rfl (by kernel_rfl) (fun _ _ _ h => h) rfl (fun x hx => ?_) ?_
        rotate_left 1
        · have hx0 := (hx.cell ⟨w.heap.size, 0, none⟩ hN).trans hc0; have hx3 := (hx.cell ⟨w.heap.size, 3, none⟩ hN).trans hc3; have hx4 := (hx.cell ⟨w.heap.size, 4, none⟩ hN).trans hc4; go_simp; first | done | with_reducible rfl | rw [if_neg (by omega)] | rw [if_pos (by omega)]
        simp only [Act.put, nA, nB, nC]
        refine wpS_take 9 (some 131) (v := ?_) rfl rfl (by kernel_rfl) (fun _ _ _ h => h) rfl (fun x hx => ?_) ?_
        rotate_left 1
        · have hx0 := (hx.cell ⟨w.heap.size, 0, none⟩ hN).trans hc0; have hx3 := (hx.cell ⟨w.heap.size, 3, none⟩ hN).trans hc3; have hx4 := (hx.cell ⟨w.heap.size, 4, none⟩ hN).trans hc4; go_simp; first | done | with_reducible rfl | rw [if_neg (by omega)] | rw [if_pos (by omega)]
        simp only [Act.put, nA, nB, nC]
        refine wpS_take 11 (some 133) (v := ?_) rfl rfl (by kernel_rfl) (fun _ _ _ h => h) rfl (fun x hx => ?_) ?_
        rotate_left 1
        · have hx0 := (hx.cell ⟨w.heap.size, 0, none⟩ hN).trans hc0; have hx3 := (hx.cell ⟨w.heap.size, 3, none⟩ hN).trans hc3; have hx4 := (hx.cell ⟨w.heap.size, 4, none⟩ hN).trans hc4; go_simp; first | done | with_reducible rfl | rw [if_neg (by omega)] | rw [if_pos (by omega)]
        simp only [Act.put, nA, nB, nC]
        refine wpS_take 12 (some 134) (v := ?_) rfl rfl (by kernel_rfl) (fun _ _ _ h => h) rfl (fun x hx => ?_) ?_
        rotate_left 1
        · have hx0 := (hx.cell ⟨w.heap.size, 0, none⟩ hN).trans hc0; have hx3 := (hx.cell ⟨w.heap.size, 3, none⟩ hN).trans hc3; have hx4 := (hx.cell ⟨w.heap.size, 4, none⟩ hN).trans hc4; go_simp; first | done | with_reducible rfl | rw [if_neg (by omega)] | rw [if_pos (by omega)]
        simp only [Act.put, nA, nB, nC]
        refine wpS_take 13 (some 135) (v := ?_) rfl rfl (by kernel_rfl) (fun _ _ _ h => h) rfl (fun x hx => ?_) ?_
        rotate_left 1
        · have hx0 := (hx.cell ⟨w.heap.size, 0, none⟩ hN).trans hc0; have hx3 := (hx.cell ⟨w.heap.size, 3, none⟩ hN).trans hc3; have hx4 := (hx.cell ⟨w.heap.size, 4, none⟩ hN).trans hc4; go_simp; first | done | with_reducible rfl | rw [if_neg (by omega)] | rw [if_pos (by omega)]
        simp only [Act.put, nA, nB, nC]
        refine wpS_step 10 (by kernel_rfl) rfl ?_  -- call value (Go.Operand.func 73)
        go_wp2_with (go_at_call 73; refine (specHasByte_any lo hi (byteAt s k) _ hb0 hb1).mono ?_; rintro e w2 ⟨rfl, hb2⟩)
        refine ⟨hb2, ?_⟩
        replace hbel : Below w.heap.size w w2 := hbel.drew.trans (Below.mono hb2 hsz)
        replace hc0 : w2.cell? ⟨w.heap.size, 0, none⟩ = some (.int .i64 10) := (Later.cell hb2 _ hN).trans hc0
        replace hc3 : w2.cell? ⟨w.heap.size, 3, none⟩ = some (.int .i64 lo) := (Later.cell hb2 _ hN).trans hc3
        replace hc4 : w2.cell? ⟨w.heap.size, 4, none⟩ = some (.int .i64 hi) := (Later.cell hb2 _ hN).trans hc4
        replace hN : w.heap.size < w2.heap.size := Nat.lt_of_lt_of_le hN hb2.size
        replace hsz := hbel.size
        clear hb2
        refine wpS_take 14 (some 136) (v := ?_) rfl rfl (by kernel_rfl) (fun _ _ _ h => h) rfl (fun x hx => ?_) ?_
        rotate_left 1
        · have hx0 := (hx.cell ⟨w.heap.size, 0, none⟩ hN).trans hc0; have hx3 := (hx.cell ⟨w.heap.size, 3, none⟩ hN).trans hc3; have hx4 := (hx.cell ⟨w.heap.size, 4, none⟩ hN).trans hc4; go_simp; first | done | with_reducible rfl | rw [if_neg (by omega)] | rw [if_pos (by omega)]
        simp only [Act.put, nA, nB, nC]
        refine wpS_take 15 (some 137) (v := ?_) rfl rfl (by kernel_rfl) (fun _ _ _ h => h) rfl (fun x hx => ?_) ?_
        rotate_left 1
        · have hx0 := (hx.cell ⟨w.heap.size, 0, none⟩ hN).trans hc0; have hx3 := (hx.cell ⟨w.heap.size, 3, none⟩ hN).trans hc3; have hx4 := (hx.cell ⟨w.heap.size, 4, none⟩ hN).trans hc4; go_simp; first | done | with_reducible rfl | rw [if_neg (by omega)] | rw [if_pos (by omega)]
        simp only [Act.put, nA, nB, nC]
        refine wpS_tail 16 0 _ rfl (by kernel_rfl) rfl ?_
        simp only [List.drop_succ_cons, List.drop_zero]
        refine wpList_nil ?_
        go_wp2_with fail
        go_ret
        have hr2 := HR.out
        exact ⟨ret_int (by rw [HV.out, if_pos (by omega)]; simp [endInt]; omega), hbel⟩
    · have HR := Lib.hid (run_all hk0 (by omega) hrun)
      have hg' : decide ((k : Int) < s.size) = false := by simp; omega
      have hg2 : ¬ (k : Int) < s.size := by omega
      go_wp2_with fail
      go_quiet (fail)
      go_wp2_with fail
      go_ret
      have hr2 := HR.out
      exact ⟨ret_int (by rw [HV.out, if_neg (by omega)]; rfl), below_drewN' hbel _⟩

/-- l19One at every pattern of its own. -/
theorem l19One_any (op : Int) (h : isSimple op) (hok : okWords op text num) (hs : s.size ≤ 120) (hp : p ≤ s.size) :
    Calls Try.prog 82 #[patV op text num lo hi (.slice A n c), .string s, .int .i64 p] w fun e w' => e = .returned (.int .i64 (endInt (oneEnd op text num lo hi s p))) ∧ Below w.heap.size w w' := by
  obtain ⟨ht, hn⟩ := hok
  have hc : op = 1 ∨ op = 2 ∨ op = 3 ∨ op = 4 ∨ op = 5 ∨ op = 6 ∨ op = 7 ∨ op = 8 ∨ op = 9 ∨ op = 10 ∨ op = 12 ∨ op = 22 ∨ op = 23 := by unfold isSimple at h; omega
  rcases hc with rfl | rfl | rfl | rfl | rfl | rfl | rfl | rfl | rfl | rfl | rfl | rfl | rfl
  · exact one_1 text num lo hi A n c s p w hs hp ht
  · exact one_2 text num lo hi A n c s p w hs hp (hn (by decide) (by decide)).1 (hn (by decide) (by decide)).2
  · exact one_3 text num lo hi A n c s p w
  · exact one_4 text num lo hi A n c s p w hs hp
  · exact one_5 text num lo hi A n c s p w (hn (by decide) (by decide)).1 (hn (by decide) (by decide)).2
  · exact one_6 text num lo hi A n c s p w hs hp (hn (by decide) (by decide)).1 (hn (by decide) (by decide)).2
  · exact one_7 text num lo hi A n c s p w hs hp
  · exact one_8 text num lo hi A n c s p w hs hp
  · exact one_9 text num lo hi A n c s p w hs hp
  · exact one_10 text num lo hi A n c s p w hs hp
  · exact one_12 text num lo hi A n c s p w
  · exact one_22 text num lo hi A n c s p w
  · exact one_23 text num lo hi A n c s p w
end

end Go.Proofs.Ytndefbecoahfhaa

/- Pattern trees; how they lie in memory; which are valid. No walk in sight. -/
namespace Go.Proofs.Ytndefbecoahfhaa
open Go.RowKit

/-- A pattern. -/
inductive Pat where
  | mk (op : Int) (text : ByteArray) (num lo hi : Int) (kids : List Pat)

namespace Pat
def op : Pat → Int | .mk o _ _ _ _ _ => o
def text : Pat → ByteArray | .mk _ t _ _ _ _ => t
def num : Pat → Int | .mk _ _ n _ _ _ => n
def lo : Pat → Int | .mk _ _ _ l _ _ => l
def hi : Pat → Int | .mk _ _ _ _ h _ => h
def kids : Pat → List Pat | .mk _ _ _ _ _ k => k
end Pat

/-- A pattern's value, its kids as a value of their own. -/
abbrev Pat.v (p : Pat) (kv : Value) : Value := patV p.op p.text p.num p.lo p.hi kv

/-- Element j of the row g holds the pattern p with kids kv. -/
def ElemAt (w : World) (g j : Nat) (p : Pat) (kv : Value) : Prop :=
  w.cell? ⟨g, j * 6, none⟩ = some (.int .i64 p.op) ∧ w.cell? ⟨g, j * 6 + 1, none⟩ = some (.string p.text) ∧ w.cell? ⟨g, j * 6 + 2, none⟩ = some (.int .i64 p.num) ∧
    w.cell? ⟨g, j * 6 + 3, none⟩ = some (.int .i64 p.lo) ∧ w.cell? ⟨g, j * 6 + 4, none⟩ = some (.int .i64 p.hi) ∧ w.cell? ⟨g, j * 6 + 5, none⟩ = some kv

mutual
/-- The value kv is a slice of p's kids. -/
def KidsIn (w : World) : Pat → Value → Prop
  | .mk _ _ _ _ _ kids, kv => ∃ A c, kv = .slice A kids.length c ∧ kids.length ≤ c ∧ RowIn w A 0 kids
/-- The patterns lie in a row, from element j on. -/
def RowIn (w : World) (A : Option Addr) : Nat → List Pat → Prop
  | _, [] => True
  | j, p :: ps => (∃ g kv, A = some ⟨g, 0, none⟩ ∧ g < w.heap.size ∧ ElemAt w g j p kv ∧ KidsIn w p kv) ∧ RowIn w A (j + 1) ps
end

theorem ElemAt.later {w x : World} {g j : Nat} {p : Pat} {kv : Value} (h : ElemAt w g j p kv) (hg : g < w.heap.size) (hl : Later w x) : ElemAt x g j p kv := by
  obtain ⟨h0, h1, h2, h3, h4, h5⟩ := h
  exact ⟨(hl.cell _ hg).trans h0, (hl.cell _ hg).trans h1, (hl.cell _ hg).trans h2, (hl.cell _ hg).trans h3, (hl.cell _ hg).trans h4, (hl.cell _ hg).trans h5⟩

mutual
theorem KidsIn.later {w x : World} (hl : Later w x) : ∀ (p : Pat) (kv : Value), KidsIn w p kv → KidsIn x p kv
  | .mk _ _ _ _ _ kids, kv, h => by
    simp only [KidsIn] at h ⊢
    obtain ⟨A, c, e, hc, hr⟩ := h
    exact ⟨A, c, e, hc, RowIn.later hl A 0 kids hr⟩
theorem RowIn.later {w x : World} (hl : Later w x) (A : Option Addr) : ∀ (j : Nat) (ps : List Pat), RowIn w A j ps → RowIn x A j ps
  | _, [], _ => by simp only [RowIn]
  | j, p :: ps, h => by
    simp only [RowIn] at h ⊢
    obtain ⟨⟨g, kv, e, hg, he, hk⟩, hr⟩ := h
    exact ⟨⟨g, kv, e, Nat.lt_of_lt_of_le hg hl.size, he.later hg hl, KidsIn.later hl p kv hk⟩, RowIn.later hl A (j + 1) ps hr⟩
end

theorem RowIn.at_ {w : World} {A : Option Addr} : ∀ (ps : List Pat) (j i : Nat) (hi : i < ps.length), RowIn w A j ps → ∃ g kv, A = some ⟨g, 0, none⟩ ∧ g < w.heap.size ∧ ElemAt w g (j + i) ps[i] kv ∧ KidsIn w ps[i] kv
  | [], _, i, hi, _ => by simp at hi
  | p :: ps, j, 0, _, h => by
    simp only [RowIn] at h
    exact h.1
  | p :: ps, j, i + 1, hi, h => by
    simp only [RowIn] at h
    have := RowIn.at_ ps (j + 1) i (by simpa using hi) h.2
    rw [show j + 1 + i = j + (i + 1) by omega] at this
    simpa using this

theorem KidsIn.form {w : World} {p : Pat} {kv : Value} (h : KidsIn w p kv) : ∃ A c, kv = .slice A p.kids.length c ∧ p.kids.length ≤ c ∧ RowIn w A 0 p.kids := by
  obtain ⟨op, text, num, lo, hi, kids⟩ := p
  simp only [KidsIn] at h
  exact h

/-- The value v is the pattern p. -/
def Pat.In (w : World) (p : Pat) (v : Value) : Prop := ∃ kv, v = p.v kv ∧ KidsIn w p kv
theorem Pat.In.later {w x : World} {p : Pat} {v : Value} (h : p.In w v) (hl : Later w x) : p.In x v := by
  obtain ⟨kv, e, hk⟩ := h
  exact ⟨kv, e, KidsIn.later hl p kv hk⟩

/-- The value v is a slice of the patterns. -/
def RowV (w : World) (ps : List Pat) (v : Value) : Prop := ∃ A c, v = .slice A ps.length c ∧ ps.length ≤ c ∧ RowIn w A 0 ps
theorem RowV.later {w x : World} {ps : List Pat} {v : Value} (h : RowV w ps v) (hl : Later w x) : RowV x ps v := by
  obtain ⟨A, c, e, hc, hk⟩ := h
  exact ⟨A, c, e, hc, RowIn.later hl A 0 ps hk⟩
theorem KidsIn.row {w : World} {p : Pat} {kv : Value} (h : KidsIn w p kv) : RowV w p.kids kv := h.form
theorem RowV.kids {w : World} {p : Pat} {kv : Value} (h : RowV w p.kids kv) : KidsIn w p kv := by
  obtain ⟨op, text, num, lo, hi, kids⟩ := p
  simp only [KidsIn]
  exact h

/-! ### How many nodes -/
mutual
def count : Pat → Nat
  | .mk _ _ _ _ _ kids => countAll kids + 1
def countAll : List Pat → Nat
  | [] => 0
  | p :: ps => count p + countAll ps
end
theorem count_eq (p : Pat) : count p = countAll p.kids + 1 := by cases p; simp [count, Pat.kids]
theorem count_pos (p : Pat) : 1 ≤ count p := by rw [count_eq]; omega
theorem countAll_take_succ (ps : List Pat) (j : Nat) (h : j < ps.length) : countAll (ps.take (j + 1)) = countAll (ps.take j) + count ps[j] := by
  induction ps generalizing j with
  | nil => simp at h
  | cons p ps ih =>
    cases j with
    | zero => simp [countAll]
    | succ j =>
      have := ih j (by simpa using h)
      simp only [List.take_succ_cons, countAll, this, List.getElem_cons_succ]
      omega
theorem countAll_take_le (ps : List Pat) (j : Nat) : countAll (ps.take j) ≤ countAll ps := by
  induction ps generalizing j with
  | nil => simp [countAll]
  | cons p ps ih =>
    cases j with
    | zero => simp [countAll]
    | succ j => have := ih j; simp only [List.take_succ_cons, countAll]; omega
theorem count_kid_lt (p : Pat) (j : Nat) (h : j < p.kids.length) : count p.kids[j] < count p := by
  have h1 := countAll_take_succ p.kids j h
  have h2 := countAll_take_le p.kids (j + 1)
  rw [count_eq p]
  omega
theorem countAll_len (ps : List Pat) : ps.length ≤ countAll ps := by
  induction ps with
  | nil => simp
  | cons p ps ih => have := count_pos p; simp only [countAll, List.length_cons]; omega

/-! ### What spec's l18Left leaves -/
mutual
def left : Pat → Int → Int
  | .mk _ _ _ _ _ kids, l => leftAll kids (l - 1)
def leftAll : List Pat → Int → Int
  | [], l => l
  | p :: ps, l => if 0 ≤ l then leftAll ps (left p l) else l
end
theorem left_eq (p : Pat) (l : Int) : left p l = leftAll p.kids (l - 1) := by cases p; simp [left, Pat.kids]
theorem leftAll_neg (ps : List Pat) (l : Int) (h : l < 0) : leftAll ps l = l := by
  cases ps with
  | nil => rfl
  | cons p ps => simp only [leftAll]; rw [if_neg (by omega)]
mutual
theorem left_count : ∀ (p : Pat) (l : Int), left p l ≤ l ∧ ((count p : Int) ≤ l → left p l = l - count p) ∧ (l < count p → 0 ≤ l → left p l < 0)
  | .mk _ _ _ _ _ kids, l => by
    have := leftAll_count kids (l - 1)
    simp only [left, count]
    refine ⟨by omega, fun h => ?_, fun h h0 => ?_⟩
    · have := this.2.1 (by omega); omega
    · by_cases h1 : 0 ≤ l - 1
      · exact this.2.2 (by omega) h1
      · rw [leftAll_neg _ _ (by omega)]; omega
theorem leftAll_count : ∀ (ps : List Pat) (l : Int), leftAll ps l ≤ l ∧ ((countAll ps : Int) ≤ l → leftAll ps l = l - countAll ps) ∧ (l < countAll ps → 0 ≤ l → leftAll ps l < 0)
  | [], l => by simp [leftAll, countAll]; omega
  | p :: ps, l => by
    have h1 := left_count p l
    have h2 := leftAll_count ps (left p l)
    simp only [leftAll, countAll]
    by_cases h0 : 0 ≤ l
    · rw [if_pos h0]
      refine ⟨by omega, fun h => ?_, fun h _ => ?_⟩
      · have e1 := h1.2.1 (by omega)
        have e2 := h2.2.1 (by omega)
        omega
      · by_cases hp : (count p : Int) ≤ l
        · have e1 := h1.2.1 hp
          exact h2.2.2 (by omega) (by omega)
        · have e1 := h1.2.2 (by omega) h0
          rw [leftAll_neg _ _ e1]; exact e1
    · rw [if_neg h0]
      exact ⟨by omega, fun h => by omega, fun _ h => absurd h h0⟩
end
theorem left_nonneg (p : Pat) (l : Int) (h0 : 0 ≤ l) : 0 ≤ left p l ↔ (count p : Int) ≤ l := by
  have h := left_count p l
  constructor
  · intro h1
    by_cases hc : (count p : Int) ≤ l
    · exact hc
    · have := h.2.2 (by omega) h0; omega
  · intro hc
    have := h.2.1 hc; omega

/-! ### Valid patterns -/
/-- How many kids a pattern of this kind has. -/
def kidsOf (op : Int) : Int := if op = 13 ∨ op = 16 ∨ op = 17 then 1 else if op = 14 ∨ op = 15 then 2 else 0
def okText (p : Pat) : Bool := if p.op = 1 then decide (p.text.size ≤ 120) else p.text.toList.isEmpty
def okNum (p : Pat) (n : Int) : Bool := if 2 ≤ p.op ∧ p.op ≤ 6 then decide (0 ≤ p.num) && decide (p.num ≤ 120) else if p.op = 16 ∨ p.op = 17 ∨ p.op = 18 ∨ p.op = 20 then decide (0 ≤ p.num) && decide (p.num < n) else p.num == 0
def okSet (p : Pat) : Bool := if 7 ≤ p.op ∧ p.op ≤ 10 then true else p.lo == 0 && p.hi == 0
def okHead (p : Pat) (n : Int) : Bool := decide (1 ≤ p.op ∧ p.op ≤ 23) && decide ((p.kids.length : Int) = kidsOf p.op) && okText p && okNum p n && okSet p
mutual
def valid : Pat → Int → Bool
  | .mk op text num lo hi kids, n => okHead (.mk op text num lo hi kids) n && validAll kids n
def validAll : List Pat → Int → Bool
  | [], _ => true
  | p :: ps, n => valid p n && validAll ps n
end
theorem valid_eq (p : Pat) (n : Int) : valid p n = (okHead p n && validAll p.kids n) := by cases p; simp [valid, Pat.kids]
theorem validAll_iff (ps : List Pat) (n : Int) : validAll ps n = true ↔ ∀ j (h : j < ps.length), valid ps[j] n = true := by
  induction ps with
  | nil => simp [validAll]
  | cons p ps ih =>
    simp only [validAll, Bool.and_eq_true, ih]
    constructor
    · rintro ⟨h1, h2⟩ j hj
      cases j with
      | zero => exact h1
      | succ j => exact h2 j (by simpa using hj)
    · intro h
      exact ⟨h 0 (by simp), fun j hj => h (j + 1) (by simpa using hj)⟩
theorem validAll_false (ps : List Pat) (n : Int) (j : Nat) (h : j < ps.length) (hv : valid ps[j] n = false) : validAll ps n = false := by
  cases hb : validAll ps n with
  | false => rfl
  | true => have := (validAll_iff ps n).1 hb j h; rw [hv] at this; cases this

/-- IsValidPattern. -/
def validP (p : Pat) (n : Int) : Bool := decide (0 ≤ n) && decide (n ≤ 24) && decide (count p ≤ 300) && valid p n
/-- validDefinitions. -/
def validD (defs : List Pat) (p : Pat) : Bool := decide (defs.length ≤ 24) && validP p defs.length && defs.all fun d => validP d defs.length

end Go.Proofs.Ytndefbecoahfhaa

/- The walks of CountPattern, patternKids, l18Kids and l18Left. -/
namespace Go.Proofs.Ytndefbecoahfhaa
open Go.RowKit

theorem rowOf (w : World) (ps : List Pat) {A : Option Addr} (h : RowIn w A 0 ps) {j : Nat} (hj : j < ps.length) : ∃ g kv, A = some ⟨g, 0, none⟩ ∧ g < w.heap.size ∧ ElemAt w g j ps[j] kv ∧ KidsIn w ps[j] kv := by
  have := h.at_ ps 0 j hj
  simpa using this

set_option maxRecDepth 100000 in
set_option maxHeartbeats 1000000 in
theorem count_any (k : Nat) : ∀ (p : Pat) (kv : Value) (w : World), count p ≤ k → k ≤ 1099511627776 → KidsIn w p kv →
    Calls Try.prog 89 #[p.v kv] w fun e w' => e = .returned (.int .i64 (count p)) ∧ Below w.heap.size w w' := by
  induction k with
  | zero => intro p kv w h; have := count_pos p; omega
  | succ k ih =>
    intro p kv w hk hk2 hin
    obtain ⟨A, c, rfl, hc, hrow⟩ := hin.form
    have hlen := countAll_len p.kids
    have hce := count_eq p
    have hn : p.kids.length ≤ 1099511627776 := by omega
    have IH := Lib.hid ih
    have HC := Lib.hid hce
    have HK := Lib.hid hk
    clear ih hce hk hlen
    go_enter Try.func89, Try.ntmps89
    go_wp2_with fail
    go_loopw [3, 9] (fun n i wr => ∃ j : Nat, j ≤ p.kids.length ∧ i = .int .i64 j ∧ n = .int .i64 (1 + countAll (p.kids.take j)) ∧ RowIn wr A 0 p.kids ∧ Below w.heap.size w wr) (fun _ i _ => p.kids.length - (intOf i).toNat)
    case atStart => exact ⟨0, Nat.zero_le _, rfl, by simp [countAll], RowIn.later ((Later.refl w).alloc _) A 0 _ hrow, (Below.refl _ _).alloc (Nat.le_refl _) _⟩
    case round =>
      obtain ⟨j, hj, rfl, rfl, hr, hbel⟩ := hrel
      have hsz := hbel.size
      by_cases hlt : j < p.kids.length
      · obtain ⟨g, kv', rfl, hg, he, hkid⟩ := rowOf wr p.kids hr hlt
        have HT := Lib.hid (countAll_take_succ p.kids j hlt)
        have HL := Lib.hid (countAll_take_le p.kids (j + 1))
        have HKL := Lib.hid (count_kid_lt p j hlt)
        have hb1 : (countAll (p.kids.take j) : Int) ≤ 1099511627776 := by have := HT.out; have := HL.out; have := HK.out; have := HC.out; omega
        have hb2 : (count p.kids[j] : Int) ≤ 1099511627776 := by have := HKL.out; have := HK.out; omega
        obtain ⟨A', c', rfl, _, _⟩ := hkid.form
        obtain ⟨e0, e1, e2, e3, e4, e5⟩ := he
        have hlt' : (j : Int) < p.kids.length := by omega
        have HKid := Lib.hid hkid
        have HR := Lib.hid hr
        clear hkid hr
        go_wp2_with fail
        refine (IH.out p.kids[j] _ _ (by have := HKL.out; have := HK.out; omega) (by omega) (KidsIn.later ((Later.refl wr).alloc _) _ _ HKid.out)).mono ?_
        rintro e w2 ⟨rfl, hb2⟩
        have hb3 : Below w.heap.size w w2 := (hbel.alloc hsz _).trans (Below.mono hb2 (by simp; omega))
        have hr2 := RowIn.later (Later.trans ((Later.refl wr).alloc _) hb2) _ 0 _ HR.out
        have HR2 := Lib.hid hr2
        clear hr2 hb2
        go_wp2_with fail
        go_roundw
        case rel => exact ⟨j + 1, by omega, by go_num, by rw [HT.out]; go_num, HR2.out, hb3⟩
        case measure => simp [intOf]; omega
      · go_wp2_with fail
        go_ret
        refine ⟨ret_int ?_, hbel⟩
        have h1 : p.kids.take j = p.kids := List.take_of_length_le (by omega)
        have := HC.out
        rw [h1]
        omega

end Go.Proofs.Ytndefbecoahfhaa

/- The walks of patternKids, l18Kids and l18Left. -/
namespace Go.Proofs.Ytndefbecoahfhaa
open Go.RowKit

theorem leftAll_append (a b : List Pat) (l : Int) : leftAll (a ++ b) l = leftAll b (leftAll a l) := by
  induction a generalizing l with
  | nil => rfl
  | cons p ps ih =>
    simp only [List.cons_append, leftAll]
    by_cases h : 0 ≤ l
    · rw [if_pos h, if_pos h, ih]
    · rw [if_neg h, if_neg h, leftAll_neg b l (by omega)]
theorem leftAll_take_succ (ps : List Pat) (j : Nat) (h : j < ps.length) (l : Int) (h0 : 0 ≤ leftAll (ps.take j) l) : leftAll (ps.take (j + 1)) l = left ps[j] (leftAll (ps.take j) l) := by
  rw [List.take_succ_eq_append_getElem h, leftAll_append]
  simp only [leftAll]
  rw [if_pos h0]
theorem leftAll_take_neg (ps : List Pat) (j : Nat) (l : Int) (h0 : leftAll (ps.take j) l < 0) : leftAll ps l = leftAll (ps.take j) l := by
  have : leftAll ps l = leftAll (ps.take j ++ ps.drop j) l := by rw [List.take_append_drop]
  rw [this, leftAll_append, leftAll_neg _ _ h0]
mutual
theorem left_low : ∀ (p : Pat) (l : Int), 0 ≤ l → -1 ≤ left p l
  | .mk _ _ _ _ _ kids, l, h => by simp only [left]; exact leftAll_low kids (l - 1) (by omega)
theorem leftAll_low : ∀ (ps : List Pat) (l : Int), -1 ≤ l → -1 ≤ leftAll ps l
  | [], l, h => by simp only [leftAll]; exact h
  | p :: ps, l, h => by
    simp only [leftAll]
    by_cases h0 : 0 ≤ l
    · rw [if_pos h0]; exact leftAll_low ps _ (left_low p l h0)
    · rw [if_neg h0]; exact h
end

set_option maxHeartbeats 1000000 in
theorem patternKids_any (op : Int) (w : World) : Calls Try.prog 97 #[.int .i64 op] w fun e w' => e = .returned (.int .i64 (kidsOf op)) ∧ w = w' := by
  by_cases h1 : op = 13 ∨ op = 16 ∨ op = 17
  · have HV := Lib.hid (show kidsOf op = 1 from if_pos h1)
    rcases h1 with h1 | h1 | h1 <;> subst h1
    all_goals
      go_enter Try.func97, Try.ntmps97
      go_wp2
      go_ret
      exact ⟨ret_int HV.out.symm, rfl⟩
  · by_cases h2 : op = 14 ∨ op = 15
    · have HV := Lib.hid (show kidsOf op = 2 by unfold kidsOf; rw [if_neg h1, if_pos h2])
      clear h1
      rcases h2 with h2 | h2 <;> subst h2
      all_goals
        go_enter Try.func97, Try.ntmps97
        go_wp2
        go_ret
        exact ⟨ret_int HV.out.symm, rfl⟩
    · have HV := Lib.hid (show kidsOf op = 0 by unfold kidsOf; rw [if_neg h1, if_neg h2])
      have n1 : (op == 13) = false := by simp; omega
      have n2 : (op == 16) = false := by simp; omega
      have n3 : (op == 17) = false := by simp; omega
      have n4 : (op == 14) = false := by simp; omega
      have n5 : (op == 15) = false := by simp; omega
      clear h1 h2
      go_enter Try.func97, Try.ntmps97
      go_wp2
      go_ret
      exact ⟨ret_int HV.out.symm, rfl⟩

set_option maxHeartbeats 1000000 in
theorem l18Kids_any (op : Int) (w : World) : Calls Try.prog 87 #[.int .i64 op] w fun e w' => e = .returned (.int .i64 (kidsOf op)) ∧ w = w' := by
  by_cases h1 : op = 13 ∨ op = 16 ∨ op = 17
  · have HV := Lib.hid (show kidsOf op = 1 from if_pos h1)
    rcases h1 with h1 | h1 | h1 <;> subst h1
    all_goals
      go_enter Try.func87, Try.ntmps87
      go_wp2
      go_ret
      exact ⟨ret_int HV.out.symm, rfl⟩
  · by_cases h2 : op = 14 ∨ op = 15
    · have HV := Lib.hid (show kidsOf op = 2 by unfold kidsOf; rw [if_neg h1, if_pos h2])
      clear h1
      rcases h2 with h2 | h2 <;> subst h2
      all_goals
        go_enter Try.func87, Try.ntmps87
        go_wp2
        go_ret
        exact ⟨ret_int HV.out.symm, rfl⟩
    · have HV := Lib.hid (show kidsOf op = 0 by unfold kidsOf; rw [if_neg h1, if_neg h2])
      have n1 : (op == 13) = false := by simp; omega
      have n2 : (op == 16) = false := by simp; omega
      have n3 : (op == 17) = false := by simp; omega
      have n4 : (op == 14) = false := by simp; omega
      have n5 : (op == 15) = false := by simp; omega
      clear h1 h2
      go_enter Try.func87, Try.ntmps87
      go_wp2
      go_ret
      exact ⟨ret_int HV.out.symm, rfl⟩

set_option maxRecDepth 100000 in
set_option maxHeartbeats 1000000 in
theorem left_any (k : Nat) : ∀ (p : Pat) (kv : Value) (w : World) (l : Int), count p ≤ k → k ≤ 1099511627776 → 0 ≤ l → l ≤ 300 → KidsIn w p kv →
    Calls Try.prog 92 #[p.v kv, .int .i64 l] w fun e w' => e = .returned (.int .i64 (left p l)) ∧ Below w.heap.size w w' := by
  induction k with
  | zero => intro p kv w l h; have := count_pos p; omega
  | succ k ih =>
    intro p kv w l hk hk2 hl0 hl1 hin
    obtain ⟨A, c, rfl, hc, hrow⟩ := hin.form
    have hlen := countAll_len p.kids
    have hce := count_eq p
    have hn : p.kids.length ≤ 1099511627776 := by omega
    have IH := Lib.hid ih
    have HV := Lib.hid (left_eq p l)
    have HK := Lib.hid hk
    clear ih hce hk hlen
    go_enter Try.func92, Try.ntmps92
    go_wp2_with fail
    go_loopw [1, 5] (fun v i wr => ∃ j : Nat, j ≤ p.kids.length ∧ i = .int .i64 j ∧ v = .int .i64 (leftAll (p.kids.take j) (l - 1)) ∧ RowIn wr A 0 p.kids ∧ w.heap.size < wr.heap.size ∧ wr.cell? ⟨w.heap.size, 5, none⟩ = some (.slice A p.kids.length c) ∧ Below w.heap.size w wr) (fun _ i _ => p.kids.length - (intOf i).toNat)
    case atStart => exact ⟨0, Nat.zero_le _, rfl, by simp [leftAll], RowIn.later ((Later.refl w).alloc _) A 0 _ hrow, by simp, cell_of_row _ w.heap.size 5 _ _ _ (heap_alloc_new w _), (Below.refl _ _).alloc (Nat.le_refl _) _⟩
    case round =>
      obtain ⟨j, hj, rfl, rfl, hr, hN, hc5, hbel⟩ := hrel
      have hsz := hbel.size
      obtain ⟨L, hL⟩ : ∃ L, leftAll (p.kids.take j) (l - 1) = L := ⟨_, rfl⟩
      have hlo : -1 ≤ L := by rw [← hL]; exact leftAll_low _ _ (by omega)
      have hhi : L ≤ l - 1 := by rw [← hL]; exact (leftAll_count _ _).1
      have HL := Lib.hid hL
      rw [hL]
      clear hL
      by_cases hlt : j < p.kids.length
      · have hlt' : (j : Int) < p.kids.length := by omega
        by_cases hpos : 0 ≤ L
        · obtain ⟨g, kv', rfl, hg, he, hkid⟩ := rowOf wr p.kids hr hlt
          have HT := Lib.hid (leftAll_take_succ p.kids j hlt (l - 1) (by rw [HL.out]; exact hpos))
          have HKL := Lib.hid (count_kid_lt p j hlt)
          obtain ⟨A', c', rfl, _, _⟩ := hkid.form
          obtain ⟨e0, e1, e2, e3, e4, e5⟩ := he
          have HKid := Lib.hid hkid
          have HR := Lib.hid hr
          clear hkid hr
          go_wp2_with fail
          refine (IH.out p.kids[j] _ _ L (by have := HKL.out; have := HK.out; omega) (by omega) hpos (by omega) HKid.out).mono ?_
          rintro e w2 ⟨rfl, hb2⟩
          have hb3 : Below w.heap.size w w2 := hbel.trans (Below.mono hb2 hsz)
          have HR2 := Lib.hid (RowIn.later hb2 _ 0 _ HR.out)
          have hc5' : w2.cell? ⟨w.heap.size, 5, none⟩ = some (.slice (some ⟨g, 0, none⟩) p.kids.length c) := (hb2.cell hN).trans hc5
          have hN' : w.heap.size < w2.heap.size := Nat.lt_of_lt_of_le hN hb2.size
          clear hb2
          go_wp2_with fail
          go_roundw
          case rel => exact ⟨j + 1, by omega, by go_num, by rw [HT.out, HL.out], HR2.out, hN', hc5', hb3⟩
          case measure => simp [intOf]; omega
        · have HF := Lib.hid (leftAll_take_neg p.kids j (l - 1) (by rw [HL.out]; omega))
          go_wp2_with fail
          go_ret
          exact ⟨ret_int (by rw [HV.out, HF.out, HL.out]), hbel⟩
      · go_wp2_with fail
        go_ret
        refine ⟨ret_int ?_, hbel⟩
        rw [HV.out, ← HL.out, List.take_of_length_le (by omega)]

end Go.Proofs.Ytndefbecoahfhaa

/- What the walk of impl.validPattern uses. Printed by gen_valid.py. -/
namespace Go.Proofs.Ytndefbecoahfhaa
open Go.RowKit
theorem ret_bool {a b : Bool} (h : a = b) : Ending.returned (.bool a) = .returned (.bool b) := by rw [h]
theorem quiet_left {P : Program} {f : FuncId} {args : Array Value} {w : World} {n : Nat} {v : Value}
    (h : Calls P f args (w.drewN n) fun e w' => e = .returned v ∧ w.drewN n = w') : Calls P f args (w.drewN n) fun e w'' => e = .returned v ∧ ∃ m, w'' = w.drewN m :=
  h.mono fun _ _ ⟨he, hm⟩ => ⟨he, n, hm.symm⟩
theorem later_drewN {B : Nat} {w x : World} (h : Below B w x) (n : Nat) : Below B w (x.drewN n) := ⟨h.os, h.tape, h.output, h.size, h.block⟩

theorem head_text (op : Int) (text : ByteArray) (num lo hi : Int) (kids : List Pat) (n : Int) (hop : op = 1) (hk : (kids.length : Int) = kidsOf op) :
    okHead (.mk op text num lo hi kids) n = decide (text.size ≤ 120 ∧ num = 0 ∧ lo = 0 ∧ hi = 0) := by
  have hr : (1 ≤ op ∧ op ≤ 23) = True := eq_true (by omega)
  subst hop
  have e : okHead (.mk 1 text num lo hi kids) n = (decide (1 ≤ (1:Int) ∧ (1:Int) ≤ 23) && decide ((kids.length : Int) = kidsOf 1) && (if (1:Int) = 1 then decide (text.size ≤ 120) else text.toList.isEmpty) && (if 2 ≤ (1:Int) ∧ (1:Int) ≤ 6 then decide (0 ≤ num) && decide (num ≤ 120) else if (1:Int) = 16 ∨ (1:Int) = 17 ∨ (1:Int) = 18 ∨ (1:Int) = 20 then decide (0 ≤ num) && decide (num < n) else num == 0) && (if 7 ≤ (1:Int) ∧ (1:Int) ≤ 10 then true else lo == 0 && hi == 0)) := rfl
  rw [e, Bool.eq_iff_iff]
  simp [hk]
  try (constructor <;> (intro h; simp_all))

theorem head_len (op : Int) (text : ByteArray) (num lo hi : Int) (kids : List Pat) (n : Int) (hop : 2 ≤ op ∧ op ≤ 6) (hk : (kids.length : Int) = kidsOf op) :
    okHead (.mk op text num lo hi kids) n = decide (text.toList = [] ∧ 0 ≤ num ∧ num ≤ 120 ∧ lo = 0 ∧ hi = 0) := by
  have hr : (1 ≤ op ∧ op ≤ 23) = True := eq_true (by omega)
  have f0 : (op = 1) = False := eq_false (by omega)
  have f1 : (2 ≤ op ∧ op ≤ 6) = True := eq_true (by omega)
  have f2 : (7 ≤ op ∧ op ≤ 10) = False := eq_false (by omega)
  have e : okHead (.mk op text num lo hi kids) n = (decide (1 ≤ op ∧ op ≤ 23) && decide ((kids.length : Int) = kidsOf op) && (if op = 1 then decide (text.size ≤ 120) else text.toList.isEmpty) && (if 2 ≤ op ∧ op ≤ 6 then decide (0 ≤ num) && decide (num ≤ 120) else if op = 16 ∨ op = 17 ∨ op = 18 ∨ op = 20 then decide (0 ≤ num) && decide (num < n) else num == 0) && (if 7 ≤ op ∧ op ≤ 10 then true else lo == 0 && hi == 0)) := rfl
  rw [e, Bool.eq_iff_iff]
  simp [f0, f1, f2, hr, hk]
  try (constructor <;> (intro h; simp_all))

theorem head_set (op : Int) (text : ByteArray) (num lo hi : Int) (kids : List Pat) (n : Int) (hop : 7 ≤ op ∧ op ≤ 10) (hk : (kids.length : Int) = kidsOf op) :
    okHead (.mk op text num lo hi kids) n = decide (text.toList = [] ∧ num = 0) := by
  have hr : (1 ≤ op ∧ op ≤ 23) = True := eq_true (by omega)
  have f0 : (op = 1) = False := eq_false (by omega)
  have f1 : (2 ≤ op ∧ op ≤ 6) = False := eq_false (by omega)
  have f2 : (op = 16 ∨ op = 17 ∨ op = 18 ∨ op = 20) = False := eq_false (by omega)
  have f3 : (7 ≤ op ∧ op ≤ 10) = True := eq_true (by omega)
  have e : okHead (.mk op text num lo hi kids) n = (decide (1 ≤ op ∧ op ≤ 23) && decide ((kids.length : Int) = kidsOf op) && (if op = 1 then decide (text.size ≤ 120) else text.toList.isEmpty) && (if 2 ≤ op ∧ op ≤ 6 then decide (0 ≤ num) && decide (num ≤ 120) else if op = 16 ∨ op = 17 ∨ op = 18 ∨ op = 20 then decide (0 ≤ num) && decide (num < n) else num == 0) && (if 7 ≤ op ∧ op ≤ 10 then true else lo == 0 && hi == 0)) := rfl
  rw [e, Bool.eq_iff_iff]
  simp [f0, f1, f2, f3, hr, hk]
  try (constructor <;> (intro h; simp_all))

theorem head_var (op : Int) (text : ByteArray) (num lo hi : Int) (kids : List Pat) (n : Int) (hop : op = 16 ∨ op = 17 ∨ op = 18 ∨ op = 20) (hk : (kids.length : Int) = kidsOf op) :
    okHead (.mk op text num lo hi kids) n = decide (text.toList = [] ∧ 0 ≤ num ∧ num < n ∧ lo = 0 ∧ hi = 0) := by
  have hr : (1 ≤ op ∧ op ≤ 23) = True := eq_true (by omega)
  have f0 : (op = 1) = False := eq_false (by omega)
  have f1 : (2 ≤ op ∧ op ≤ 6) = False := eq_false (by omega)
  have f2 : (op = 16 ∨ op = 17 ∨ op = 18 ∨ op = 20) = True := eq_true (by omega)
  have f3 : (7 ≤ op ∧ op ≤ 10) = False := eq_false (by omega)
  have e : okHead (.mk op text num lo hi kids) n = (decide (1 ≤ op ∧ op ≤ 23) && decide ((kids.length : Int) = kidsOf op) && (if op = 1 then decide (text.size ≤ 120) else text.toList.isEmpty) && (if 2 ≤ op ∧ op ≤ 6 then decide (0 ≤ num) && decide (num ≤ 120) else if op = 16 ∨ op = 17 ∨ op = 18 ∨ op = 20 then decide (0 ≤ num) && decide (num < n) else num == 0) && (if 7 ≤ op ∧ op ≤ 10 then true else lo == 0 && hi == 0)) := rfl
  rw [e, Bool.eq_iff_iff]
  simp [f0, f1, f2, f3, hr, hk]
  try (constructor <;> (intro h; simp_all))

theorem head_rest (op : Int) (text : ByteArray) (num lo hi : Int) (kids : List Pat) (n : Int) (hop : 11 ≤ op ∧ op ≤ 23 ∧ op ≠ 16 ∧ op ≠ 17 ∧ op ≠ 18 ∧ op ≠ 20) (hk : (kids.length : Int) = kidsOf op) :
    okHead (.mk op text num lo hi kids) n = decide (text.toList = [] ∧ num = 0 ∧ lo = 0 ∧ hi = 0) := by
  have hr : (1 ≤ op ∧ op ≤ 23) = True := eq_true (by omega)
  have f0 : (op = 1) = False := eq_false (by omega)
  have f1 : (2 ≤ op ∧ op ≤ 6) = False := eq_false (by omega)
  have f2 : (op = 16 ∨ op = 17 ∨ op = 18 ∨ op = 20) = False := eq_false (by omega)
  have f3 : (7 ≤ op ∧ op ≤ 10) = False := eq_false (by omega)
  have e : okHead (.mk op text num lo hi kids) n = (decide (1 ≤ op ∧ op ≤ 23) && decide ((kids.length : Int) = kidsOf op) && (if op = 1 then decide (text.size ≤ 120) else text.toList.isEmpty) && (if 2 ≤ op ∧ op ≤ 6 then decide (0 ≤ num) && decide (num ≤ 120) else if op = 16 ∨ op = 17 ∨ op = 18 ∨ op = 20 then decide (0 ≤ num) && decide (num < n) else num == 0) && (if 7 ≤ op ∧ op ≤ 10 then true else lo == 0 && hi == 0)) := rfl
  rw [e, Bool.eq_iff_iff]
  simp [f0, f1, f2, f3, hr, hk]
  try (constructor <;> (intro h; simp_all))

end Go.Proofs.Ytndefbecoahfhaa

/- The walk of impl.validPattern, text. Printed by gen_valid.py. -/
namespace Go.Proofs.Ytndefbecoahfhaa
open Go.RowKit

set_option maxRecDepth 100000 in
set_option maxHeartbeats 2000000 in
theorem validPattern_text_bad (op : Int) (text : ByteArray) (num lo hi : Int) (kids : List Pat) (A : Option Addr) (c : Nat) (w : World) (n : Int) (hop : op = 1) (hk : (kids.length : Int) = kidsOf op)
    (hok : ¬ (text.size ≤ 120 ∧ num = 0 ∧ lo = 0 ∧ hi = 0)) :
    Calls Try.prog 90 #[patV op text num lo hi (.slice A kids.length c), .int .i64 n] w fun e w' => e = .returned (.bool false) ∧ Below w.heap.size w w' := by
  have g1 : decide (op < 1) = false := by simp; omega
  have g2 : decide (23 < op) = false := by simp; omega
  have g3 : ((kids.length : Int) != kidsOf op) = false := by simp [hk]
  clear hk
  have HB := Lib.hid hok
  clear hok
  subst hop
  all_goals
    go_enter Try.func90, Try.ntmps90
    go_wp2_with fail
    go_quiet ((go_at_call 97; exact quiet_left (patternKids_any _ _)))
    go_wp2_with fail
  all_goals first | (go_ret; exact ⟨rfl, later_drewN ((Below.refl _ _).alloc (Nat.le_refl _) _) _⟩) | (exfalso; exact HB.out ⟨(by first | rfl | assumption | omega), (by first | rfl | assumption | omega), (by first | rfl | assumption | omega), (by first | rfl | assumption | omega)⟩)


set_option maxRecDepth 100000 in
set_option maxHeartbeats 2000000 in
theorem validPattern_text_good (op : Int) (text : ByteArray) (num lo hi : Int) (kids : List Pat) (A : Option Addr) (c : Nat) (w : World) (n : Int) (hop : op = 1) (hk : (kids.length : Int) = kidsOf op) (hn : kids.length ≤ 1099511627776)
    (IH : Hid (∀ j (h : j < kids.length) kv w, KidsIn w kids[j] kv → Calls Try.prog 90 #[kids[j].v kv, .int .i64 n] w fun e w' => e = .returned (.bool (valid kids[j] n)) ∧ Below w.heap.size w w'))
    (hrow : RowIn w A 0 kids) (hok : (text.size ≤ 120 ∧ num = 0 ∧ lo = 0 ∧ hi = 0)) :
    Calls Try.prog 90 #[patV op text num lo hi (.slice A kids.length c), .int .i64 n] w fun e w' => e = .returned (.bool (validAll kids n)) ∧ Below w.heap.size w w' := by
  have g1 : decide (op < 1) = false := by simp; omega
  have g2 : decide (23 < op) = false := by simp; omega
  have g3 : ((kids.length : Int) != kidsOf op) = false := by simp [hk]
  clear hk
  obtain ⟨o0, o1, o2, o3⟩ := hok
  subst o1
  subst o2
  subst o3
  subst hop
  all_goals
    go_enter Try.func90, Try.ntmps90
    go_wp2_with fail
    go_quiet ((go_at_call 97; exact quiet_left (patternKids_any _ _)))
    go_wp2_with fail
  all_goals
    go_loopw [112] (fun i wr => ∃ j : Nat, j ≤ kids.length ∧ i = .int .i64 j ∧ (∀ i (h : i < j) (h2 : i < kids.length), valid kids[i] n = true) ∧ RowIn wr A 0 kids ∧ Below w.heap.size w wr) (fun i _ => kids.length - (intOf i).toNat)
    case atStart => exact ⟨0, Nat.zero_le _, rfl, by intro i h; omega, RowIn.later (later_drewN ((Later.refl w).alloc _) _) A 0 _ hrow, later_drewN ((Below.refl _ _).alloc (Nat.le_refl _) _) _⟩
    case round =>
      obtain ⟨j, hj, rfl, hall, hr, hbel⟩ := hrel
      have HA := Lib.hid hall
      clear hall
      have hsz := hbel.size
      by_cases hlt : j < kids.length
      · obtain ⟨g, kv', rfl, hg, he, hkid⟩ := rowOf wr kids hr hlt
        obtain ⟨A', c', rfl, _, _⟩ := hkid.form
        obtain ⟨e0, e1, e2, e3, e4, e5⟩ := he
        have hlt' : (j : Int) < kids.length := by omega
        have HKid := Lib.hid hkid
        have HR := Lib.hid hr
        clear hkid hr
        go_wp2_with fail
        refine (IH.out j hlt _ _ (KidsIn.later ((Later.refl wr).alloc _) _ _ HKid.out)).mono ?_
        rintro e w2 ⟨rfl, hb2⟩
        have hb3 : Below w.heap.size w w2 := (hbel.alloc hsz _).trans (Below.mono hb2 (by simp; omega))
        have hr2 := RowIn.later (Later.trans ((Later.refl wr).alloc _) hb2) _ 0 _ HR.out
        have HR2 := Lib.hid hr2
        clear hr2 hb2
        cases hvj : valid kids[j] n with
        | false =>
          have HF := Lib.hid (validAll_false kids n j hlt hvj)
          clear hvj
          go_wp2_with fail
          go_ret
          exact ⟨ret_bool HF.out.symm, hb3⟩
        | true =>
          have HJ := Lib.hid hvj
          clear hvj
          go_wp2_with fail
          go_roundw
          case rel => exact ⟨j + 1, by omega, by go_num, fun i hi hi2 => (by
            by_cases hij : i = j
            · subst hij; exact HJ.out
            · exact HA.out i (by omega) hi2), HR2.out, hb3⟩
          case measure => simp [intOf]; omega
      · go_wp2_with fail
        go_ret
        exact ⟨ret_bool ((validAll_iff kids n).2 (fun i hi => HA.out i (by omega) hi)).symm, hbel⟩

end Go.Proofs.Ytndefbecoahfhaa

/- The walk of impl.validPattern, len. Printed by gen_valid.py. -/
namespace Go.Proofs.Ytndefbecoahfhaa
open Go.RowKit

set_option maxRecDepth 100000 in
set_option maxHeartbeats 2000000 in
theorem validPattern_len_bad (op : Int) (text : ByteArray) (num lo hi : Int) (kids : List Pat) (A : Option Addr) (c : Nat) (w : World) (n : Int) (hop : 2 ≤ op ∧ op ≤ 6) (hk : (kids.length : Int) = kidsOf op)
    (hok : ¬ (text.toList = [] ∧ 0 ≤ num ∧ num ≤ 120 ∧ lo = 0 ∧ hi = 0)) :
    Calls Try.prog 90 #[patV op text num lo hi (.slice A kids.length c), .int .i64 n] w fun e w' => e = .returned (.bool false) ∧ Below w.heap.size w w' := by
  have g1 : decide (op < 1) = false := by simp; omega
  have g2 : decide (23 < op) = false := by simp; omega
  have g3 : ((kids.length : Int) != kidsOf op) = false := by simp [hk]
  clear hk
  have h1 : (op == 1) = false := by simp; omega
  obtain ⟨h2, h3⟩ := hop
  have HB := Lib.hid hok
  clear hok
  all_goals
    go_enter Try.func90, Try.ntmps90
    go_wp2_with fail
    go_quiet ((go_at_call 97; exact quiet_left (patternKids_any _ _)))
    go_wp2_with fail
  all_goals first | (go_ret; exact ⟨rfl, later_drewN ((Below.refl _ _).alloc (Nat.le_refl _) _) _⟩) | (exfalso; exact HB.out ⟨(by first | rfl | assumption | omega), (by first | rfl | assumption | omega), (by first | rfl | assumption | omega), (by first | rfl | assumption | omega), (by first | rfl | assumption | omega)⟩)


set_option maxRecDepth 100000 in
set_option maxHeartbeats 2000000 in
theorem validPattern_len_good (op : Int) (text : ByteArray) (num lo hi : Int) (kids : List Pat) (A : Option Addr) (c : Nat) (w : World) (n : Int) (hop : 2 ≤ op ∧ op ≤ 6) (hk : (kids.length : Int) = kidsOf op) (hn : kids.length ≤ 1099511627776)
    (IH : Hid (∀ j (h : j < kids.length) kv w, KidsIn w kids[j] kv → Calls Try.prog 90 #[kids[j].v kv, .int .i64 n] w fun e w' => e = .returned (.bool (valid kids[j] n)) ∧ Below w.heap.size w w'))
    (hrow : RowIn w A 0 kids) (hok : (text.toList = [] ∧ 0 ≤ num ∧ num ≤ 120 ∧ lo = 0 ∧ hi = 0)) :
    Calls Try.prog 90 #[patV op text num lo hi (.slice A kids.length c), .int .i64 n] w fun e w' => e = .returned (.bool (validAll kids n)) ∧ Below w.heap.size w w' := by
  have g1 : decide (op < 1) = false := by simp; omega
  have g2 : decide (23 < op) = false := by simp; omega
  have g3 : ((kids.length : Int) != kidsOf op) = false := by simp [hk]
  clear hk
  have h1 : (op == 1) = false := by simp; omega
  obtain ⟨h2, h3⟩ := hop
  obtain ⟨o0, o1, o2, o3, o4⟩ := hok
  subst o3
  subst o4
  all_goals
    go_enter Try.func90, Try.ntmps90
    go_wp2_with fail
    go_quiet ((go_at_call 97; exact quiet_left (patternKids_any _ _)))
    go_wp2_with fail
  all_goals
    go_loopw [112] (fun i wr => ∃ j : Nat, j ≤ kids.length ∧ i = .int .i64 j ∧ (∀ i (h : i < j) (h2 : i < kids.length), valid kids[i] n = true) ∧ RowIn wr A 0 kids ∧ Below w.heap.size w wr) (fun i _ => kids.length - (intOf i).toNat)
    case atStart => exact ⟨0, Nat.zero_le _, rfl, by intro i h; omega, RowIn.later (later_drewN ((Later.refl w).alloc _) _) A 0 _ hrow, later_drewN ((Below.refl _ _).alloc (Nat.le_refl _) _) _⟩
    case round =>
      obtain ⟨j, hj, rfl, hall, hr, hbel⟩ := hrel
      have HA := Lib.hid hall
      clear hall
      have hsz := hbel.size
      by_cases hlt : j < kids.length
      · obtain ⟨g, kv', rfl, hg, he, hkid⟩ := rowOf wr kids hr hlt
        obtain ⟨A', c', rfl, _, _⟩ := hkid.form
        obtain ⟨e0, e1, e2, e3, e4, e5⟩ := he
        have hlt' : (j : Int) < kids.length := by omega
        have HKid := Lib.hid hkid
        have HR := Lib.hid hr
        clear hkid hr
        go_wp2_with fail
        refine (IH.out j hlt _ _ (KidsIn.later ((Later.refl wr).alloc _) _ _ HKid.out)).mono ?_
        rintro e w2 ⟨rfl, hb2⟩
        have hb3 : Below w.heap.size w w2 := (hbel.alloc hsz _).trans (Below.mono hb2 (by simp; omega))
        have hr2 := RowIn.later (Later.trans ((Later.refl wr).alloc _) hb2) _ 0 _ HR.out
        have HR2 := Lib.hid hr2
        clear hr2 hb2
        cases hvj : valid kids[j] n with
        | false =>
          have HF := Lib.hid (validAll_false kids n j hlt hvj)
          clear hvj
          go_wp2_with fail
          go_ret
          exact ⟨ret_bool HF.out.symm, hb3⟩
        | true =>
          have HJ := Lib.hid hvj
          clear hvj
          go_wp2_with fail
          go_roundw
          case rel => exact ⟨j + 1, by omega, by go_num, fun i hi hi2 => (by
            by_cases hij : i = j
            · subst hij; exact HJ.out
            · exact HA.out i (by omega) hi2), HR2.out, hb3⟩
          case measure => simp [intOf]; omega
      · go_wp2_with fail
        go_ret
        exact ⟨ret_bool ((validAll_iff kids n).2 (fun i hi => HA.out i (by omega) hi)).symm, hbel⟩

end Go.Proofs.Ytndefbecoahfhaa

/- The walk of impl.validPattern, set. Printed by gen_valid.py. -/
namespace Go.Proofs.Ytndefbecoahfhaa
open Go.RowKit

set_option maxRecDepth 100000 in
set_option maxHeartbeats 2000000 in
theorem validPattern_set_bad (op : Int) (text : ByteArray) (num lo hi : Int) (kids : List Pat) (A : Option Addr) (c : Nat) (w : World) (n : Int) (hop : 7 ≤ op ∧ op ≤ 10) (hk : (kids.length : Int) = kidsOf op)
    (hok : ¬ (text.toList = [] ∧ num = 0)) :
    Calls Try.prog 90 #[patV op text num lo hi (.slice A kids.length c), .int .i64 n] w fun e w' => e = .returned (.bool false) ∧ Below w.heap.size w w' := by
  have g1 : decide (op < 1) = false := by simp; omega
  have g2 : decide (23 < op) = false := by simp; omega
  have g3 : ((kids.length : Int) != kidsOf op) = false := by simp [hk]
  clear hk
  have h1 : (op == 1) = false := by simp; omega
  obtain ⟨h4, h5⟩ := hop
  have h3 : decide (op ≤ 6) = false := by simp; omega
  have HB := Lib.hid hok
  clear hok
  all_goals
    go_enter Try.func90, Try.ntmps90
    go_wp2_with fail
    go_quiet ((go_at_call 97; exact quiet_left (patternKids_any _ _)))
    go_wp2_with fail
  all_goals first | (go_ret; exact ⟨rfl, later_drewN ((Below.refl _ _).alloc (Nat.le_refl _) _) _⟩) | (exfalso; exact HB.out ⟨(by first | rfl | assumption | omega), (by first | rfl | assumption | omega)⟩)


set_option maxRecDepth 100000 in
set_option maxHeartbeats 2000000 in
theorem validPattern_set_good (op : Int) (text : ByteArray) (num lo hi : Int) (kids : List Pat) (A : Option Addr) (c : Nat) (w : World) (n : Int) (hop : 7 ≤ op ∧ op ≤ 10) (hk : (kids.length : Int) = kidsOf op) (hn : kids.length ≤ 1099511627776)
    (IH : Hid (∀ j (h : j < kids.length) kv w, KidsIn w kids[j] kv → Calls Try.prog 90 #[kids[j].v kv, .int .i64 n] w fun e w' => e = .returned (.bool (valid kids[j] n)) ∧ Below w.heap.size w w'))
    (hrow : RowIn w A 0 kids) (hok : (text.toList = [] ∧ num = 0)) :
    Calls Try.prog 90 #[patV op text num lo hi (.slice A kids.length c), .int .i64 n] w fun e w' => e = .returned (.bool (validAll kids n)) ∧ Below w.heap.size w w' := by
  have g1 : decide (op < 1) = false := by simp; omega
  have g2 : decide (23 < op) = false := by simp; omega
  have g3 : ((kids.length : Int) != kidsOf op) = false := by simp [hk]
  clear hk
  have h1 : (op == 1) = false := by simp; omega
  obtain ⟨h4, h5⟩ := hop
  have h3 : decide (op ≤ 6) = false := by simp; omega
  obtain ⟨o0, o1⟩ := hok
  subst o1
  all_goals
    go_enter Try.func90, Try.ntmps90
    go_wp2_with fail
    go_quiet ((go_at_call 97; exact quiet_left (patternKids_any _ _)))
    go_wp2_with fail
  all_goals
    go_loopw [112] (fun i wr => ∃ j : Nat, j ≤ kids.length ∧ i = .int .i64 j ∧ (∀ i (h : i < j) (h2 : i < kids.length), valid kids[i] n = true) ∧ RowIn wr A 0 kids ∧ Below w.heap.size w wr) (fun i _ => kids.length - (intOf i).toNat)
    case atStart => exact ⟨0, Nat.zero_le _, rfl, by intro i h; omega, RowIn.later (later_drewN ((Later.refl w).alloc _) _) A 0 _ hrow, later_drewN ((Below.refl _ _).alloc (Nat.le_refl _) _) _⟩
    case round =>
      obtain ⟨j, hj, rfl, hall, hr, hbel⟩ := hrel
      have HA := Lib.hid hall
      clear hall
      have hsz := hbel.size
      by_cases hlt : j < kids.length
      · obtain ⟨g, kv', rfl, hg, he, hkid⟩ := rowOf wr kids hr hlt
        obtain ⟨A', c', rfl, _, _⟩ := hkid.form
        obtain ⟨e0, e1, e2, e3, e4, e5⟩ := he
        have hlt' : (j : Int) < kids.length := by omega
        have HKid := Lib.hid hkid
        have HR := Lib.hid hr
        clear hkid hr
        go_wp2_with fail
        refine (IH.out j hlt _ _ (KidsIn.later ((Later.refl wr).alloc _) _ _ HKid.out)).mono ?_
        rintro e w2 ⟨rfl, hb2⟩
        have hb3 : Below w.heap.size w w2 := (hbel.alloc hsz _).trans (Below.mono hb2 (by simp; omega))
        have hr2 := RowIn.later (Later.trans ((Later.refl wr).alloc _) hb2) _ 0 _ HR.out
        have HR2 := Lib.hid hr2
        clear hr2 hb2
        cases hvj : valid kids[j] n with
        | false =>
          have HF := Lib.hid (validAll_false kids n j hlt hvj)
          clear hvj
          go_wp2_with fail
          go_ret
          exact ⟨ret_bool HF.out.symm, hb3⟩
        | true =>
          have HJ := Lib.hid hvj
          clear hvj
          go_wp2_with fail
          go_roundw
          case rel => exact ⟨j + 1, by omega, by go_num, fun i hi hi2 => (by
            by_cases hij : i = j
            · subst hij; exact HJ.out
            · exact HA.out i (by omega) hi2), HR2.out, hb3⟩
          case measure => simp [intOf]; omega
      · go_wp2_with fail
        go_ret
        exact ⟨ret_bool ((validAll_iff kids n).2 (fun i hi => HA.out i (by omega) hi)).symm, hbel⟩

end Go.Proofs.Ytndefbecoahfhaa

/- The walk of impl.validPattern, var. Printed by gen_valid.py. -/
namespace Go.Proofs.Ytndefbecoahfhaa
open Go.RowKit

set_option maxRecDepth 100000 in
set_option maxHeartbeats 2000000 in
theorem validPattern_var_bad (op : Int) (text : ByteArray) (num lo hi : Int) (kids : List Pat) (A : Option Addr) (c : Nat) (w : World) (n : Int) (hop : op = 16 ∨ op = 17 ∨ op = 18 ∨ op = 20) (hk : (kids.length : Int) = kidsOf op)
    (hok : ¬ (text.toList = [] ∧ 0 ≤ num ∧ num < n ∧ lo = 0 ∧ hi = 0)) :
    Calls Try.prog 90 #[patV op text num lo hi (.slice A kids.length c), .int .i64 n] w fun e w' => e = .returned (.bool false) ∧ Below w.heap.size w w' := by
  have g1 : decide (op < 1) = false := by simp; omega
  have g2 : decide (23 < op) = false := by simp; omega
  have g3 : ((kids.length : Int) != kidsOf op) = false := by simp [hk]
  clear hk
  have h1 : (op == 1) = false := by simp; omega
  have h3 : decide (op ≤ 6) = false := by simp; omega
  have h5 : decide (op ≤ 10) = false := by simp; omega
  have HB := Lib.hid hok
  clear hok
  all_goals rcases hop with hop | hop | hop | hop <;> subst hop
  all_goals
    go_enter Try.func90, Try.ntmps90
    go_wp2_with fail
    go_quiet ((go_at_call 97; exact quiet_left (patternKids_any _ _)))
    go_wp2_with fail
  all_goals first | (go_ret; exact ⟨rfl, later_drewN ((Below.refl _ _).alloc (Nat.le_refl _) _) _⟩) | (exfalso; exact HB.out ⟨(by first | rfl | assumption | omega), (by first | rfl | assumption | omega), (by first | rfl | assumption | omega), (by first | rfl | assumption | omega), (by first | rfl | assumption | omega)⟩)


set_option maxRecDepth 100000 in
set_option maxHeartbeats 2000000 in
theorem validPattern_var_good (op : Int) (text : ByteArray) (num lo hi : Int) (kids : List Pat) (A : Option Addr) (c : Nat) (w : World) (n : Int) (hop : op = 16 ∨ op = 17 ∨ op = 18 ∨ op = 20) (hk : (kids.length : Int) = kidsOf op) (hn : kids.length ≤ 1099511627776)
    (IH : Hid (∀ j (h : j < kids.length) kv w, KidsIn w kids[j] kv → Calls Try.prog 90 #[kids[j].v kv, .int .i64 n] w fun e w' => e = .returned (.bool (valid kids[j] n)) ∧ Below w.heap.size w w'))
    (hrow : RowIn w A 0 kids) (hok : (text.toList = [] ∧ 0 ≤ num ∧ num < n ∧ lo = 0 ∧ hi = 0)) :
    Calls Try.prog 90 #[patV op text num lo hi (.slice A kids.length c), .int .i64 n] w fun e w' => e = .returned (.bool (validAll kids n)) ∧ Below w.heap.size w w' := by
  have g1 : decide (op < 1) = false := by simp; omega
  have g2 : decide (23 < op) = false := by simp; omega
  have g3 : ((kids.length : Int) != kidsOf op) = false := by simp [hk]
  clear hk
  have h1 : (op == 1) = false := by simp; omega
  have h3 : decide (op ≤ 6) = false := by simp; omega
  have h5 : decide (op ≤ 10) = false := by simp; omega
  obtain ⟨o0, o1, o2, o3, o4⟩ := hok
  subst o3
  subst o4
  all_goals rcases hop with hop | hop | hop | hop <;> subst hop
  all_goals
    go_enter Try.func90, Try.ntmps90
    go_wp2_with fail
    go_quiet ((go_at_call 97; exact quiet_left (patternKids_any _ _)))
    go_wp2_with fail
  all_goals
    go_loopw [112] (fun i wr => ∃ j : Nat, j ≤ kids.length ∧ i = .int .i64 j ∧ (∀ i (h : i < j) (h2 : i < kids.length), valid kids[i] n = true) ∧ RowIn wr A 0 kids ∧ Below w.heap.size w wr) (fun i _ => kids.length - (intOf i).toNat)
    case atStart => exact ⟨0, Nat.zero_le _, rfl, by intro i h; omega, RowIn.later (later_drewN ((Later.refl w).alloc _) _) A 0 _ hrow, later_drewN ((Below.refl _ _).alloc (Nat.le_refl _) _) _⟩
    case round =>
      obtain ⟨j, hj, rfl, hall, hr, hbel⟩ := hrel
      have HA := Lib.hid hall
      clear hall
      have hsz := hbel.size
      by_cases hlt : j < kids.length
      · obtain ⟨g, kv', rfl, hg, he, hkid⟩ := rowOf wr kids hr hlt
        obtain ⟨A', c', rfl, _, _⟩ := hkid.form
        obtain ⟨e0, e1, e2, e3, e4, e5⟩ := he
        have hlt' : (j : Int) < kids.length := by omega
        have HKid := Lib.hid hkid
        have HR := Lib.hid hr
        clear hkid hr
        go_wp2_with fail
        refine (IH.out j hlt _ _ (KidsIn.later ((Later.refl wr).alloc _) _ _ HKid.out)).mono ?_
        rintro e w2 ⟨rfl, hb2⟩
        have hb3 : Below w.heap.size w w2 := (hbel.alloc hsz _).trans (Below.mono hb2 (by simp; omega))
        have hr2 := RowIn.later (Later.trans ((Later.refl wr).alloc _) hb2) _ 0 _ HR.out
        have HR2 := Lib.hid hr2
        clear hr2 hb2
        cases hvj : valid kids[j] n with
        | false =>
          have HF := Lib.hid (validAll_false kids n j hlt hvj)
          clear hvj
          go_wp2_with fail
          go_ret
          exact ⟨ret_bool HF.out.symm, hb3⟩
        | true =>
          have HJ := Lib.hid hvj
          clear hvj
          go_wp2_with fail
          go_roundw
          case rel => exact ⟨j + 1, by omega, by go_num, fun i hi hi2 => (by
            by_cases hij : i = j
            · subst hij; exact HJ.out
            · exact HA.out i (by omega) hi2), HR2.out, hb3⟩
          case measure => simp [intOf]; omega
      · go_wp2_with fail
        go_ret
        exact ⟨ret_bool ((validAll_iff kids n).2 (fun i hi => HA.out i (by omega) hi)).symm, hbel⟩

end Go.Proofs.Ytndefbecoahfhaa

/- The walk of impl.validPattern, rest. Printed by gen_valid.py. -/
namespace Go.Proofs.Ytndefbecoahfhaa
open Go.RowKit

set_option maxRecDepth 100000 in
set_option maxHeartbeats 2000000 in
theorem validPattern_rest_bad (op : Int) (text : ByteArray) (num lo hi : Int) (kids : List Pat) (A : Option Addr) (c : Nat) (w : World) (n : Int) (hop : 11 ≤ op ∧ op ≤ 23 ∧ op ≠ 16 ∧ op ≠ 17 ∧ op ≠ 18 ∧ op ≠ 20) (hk : (kids.length : Int) = kidsOf op)
    (hok : ¬ (text.toList = [] ∧ num = 0 ∧ lo = 0 ∧ hi = 0)) :
    Calls Try.prog 90 #[patV op text num lo hi (.slice A kids.length c), .int .i64 n] w fun e w' => e = .returned (.bool false) ∧ Below w.heap.size w w' := by
  have g1 : decide (op < 1) = false := by simp; omega
  have g2 : decide (23 < op) = false := by simp; omega
  have g3 : ((kids.length : Int) != kidsOf op) = false := by simp [hk]
  clear hk
  have h1 : (op == 1) = false := by simp; omega
  obtain ⟨h3, h5, n1, n2, n3, n4⟩ := hop
  have k3 : decide (op ≤ 6) = false := by simp; omega
  have k5 : decide (op ≤ 10) = false := by simp; omega
  have q1 : (op == 16) = false := by simp; omega
  have q2 : (op == 17) = false := by simp; omega
  have q3 : (op == 18) = false := by simp; omega
  have q4 : (op == 20) = false := by simp; omega
  clear n1 n2 n3 n4
  have HB := Lib.hid hok
  clear hok
  all_goals
    go_enter Try.func90, Try.ntmps90
    go_wp2_with fail
    go_quiet ((go_at_call 97; exact quiet_left (patternKids_any _ _)))
    go_wp2_with fail
  all_goals first | (go_ret; exact ⟨rfl, later_drewN ((Below.refl _ _).alloc (Nat.le_refl _) _) _⟩) | (exfalso; exact HB.out ⟨(by first | rfl | assumption | omega), (by first | rfl | assumption | omega), (by first | rfl | assumption | omega), (by first | rfl | assumption | omega)⟩)


set_option maxRecDepth 100000 in
set_option maxHeartbeats 2000000 in
theorem validPattern_rest_good (op : Int) (text : ByteArray) (num lo hi : Int) (kids : List Pat) (A : Option Addr) (c : Nat) (w : World) (n : Int) (hop : 11 ≤ op ∧ op ≤ 23 ∧ op ≠ 16 ∧ op ≠ 17 ∧ op ≠ 18 ∧ op ≠ 20) (hk : (kids.length : Int) = kidsOf op) (hn : kids.length ≤ 1099511627776)
    (IH : Hid (∀ j (h : j < kids.length) kv w, KidsIn w kids[j] kv → Calls Try.prog 90 #[kids[j].v kv, .int .i64 n] w fun e w' => e = .returned (.bool (valid kids[j] n)) ∧ Below w.heap.size w w'))
    (hrow : RowIn w A 0 kids) (hok : (text.toList = [] ∧ num = 0 ∧ lo = 0 ∧ hi = 0)) :
    Calls Try.prog 90 #[patV op text num lo hi (.slice A kids.length c), .int .i64 n] w fun e w' => e = .returned (.bool (validAll kids n)) ∧ Below w.heap.size w w' := by
  have g1 : decide (op < 1) = false := by simp; omega
  have g2 : decide (23 < op) = false := by simp; omega
  have g3 : ((kids.length : Int) != kidsOf op) = false := by simp [hk]
  clear hk
  have h1 : (op == 1) = false := by simp; omega
  obtain ⟨h3, h5, n1, n2, n3, n4⟩ := hop
  have k3 : decide (op ≤ 6) = false := by simp; omega
  have k5 : decide (op ≤ 10) = false := by simp; omega
  have q1 : (op == 16) = false := by simp; omega
  have q2 : (op == 17) = false := by simp; omega
  have q3 : (op == 18) = false := by simp; omega
  have q4 : (op == 20) = false := by simp; omega
  clear n1 n2 n3 n4
  obtain ⟨o0, o1, o2, o3⟩ := hok
  subst o1
  subst o2
  subst o3
  all_goals
    go_enter Try.func90, Try.ntmps90
    go_wp2_with fail
    go_quiet ((go_at_call 97; exact quiet_left (patternKids_any _ _)))
    go_wp2_with fail
  all_goals
    go_loopw [112] (fun i wr => ∃ j : Nat, j ≤ kids.length ∧ i = .int .i64 j ∧ (∀ i (h : i < j) (h2 : i < kids.length), valid kids[i] n = true) ∧ RowIn wr A 0 kids ∧ Below w.heap.size w wr) (fun i _ => kids.length - (intOf i).toNat)
    case atStart => exact ⟨0, Nat.zero_le _, rfl, by intro i h; omega, RowIn.later (later_drewN ((Later.refl w).alloc _) _) A 0 _ hrow, later_drewN ((Below.refl _ _).alloc (Nat.le_refl _) _) _⟩
    case round =>
      obtain ⟨j, hj, rfl, hall, hr, hbel⟩ := hrel
      have HA := Lib.hid hall
      clear hall
      have hsz := hbel.size
      by_cases hlt : j < kids.length
      · obtain ⟨g, kv', rfl, hg, he, hkid⟩ := rowOf wr kids hr hlt
        obtain ⟨A', c', rfl, _, _⟩ := hkid.form
        obtain ⟨e0, e1, e2, e3, e4, e5⟩ := he
        have hlt' : (j : Int) < kids.length := by omega
        have HKid := Lib.hid hkid
        have HR := Lib.hid hr
        clear hkid hr
        go_wp2_with fail
        refine (IH.out j hlt _ _ (KidsIn.later ((Later.refl wr).alloc _) _ _ HKid.out)).mono ?_
        rintro e w2 ⟨rfl, hb2⟩
        have hb3 : Below w.heap.size w w2 := (hbel.alloc hsz _).trans (Below.mono hb2 (by simp; omega))
        have hr2 := RowIn.later (Later.trans ((Later.refl wr).alloc _) hb2) _ 0 _ HR.out
        have HR2 := Lib.hid hr2
        clear hr2 hb2
        cases hvj : valid kids[j] n with
        | false =>
          have HF := Lib.hid (validAll_false kids n j hlt hvj)
          clear hvj
          go_wp2_with fail
          go_ret
          exact ⟨ret_bool HF.out.symm, hb3⟩
        | true =>
          have HJ := Lib.hid hvj
          clear hvj
          go_wp2_with fail
          go_roundw
          case rel => exact ⟨j + 1, by omega, by go_num, fun i hi hi2 => (by
            by_cases hij : i = j
            · subst hij; exact HJ.out
            · exact HA.out i (by omega) hi2), HR2.out, hb3⟩
          case measure => simp [intOf]; omega
      · go_wp2_with fail
        go_ret
        exact ⟨ret_bool ((validAll_iff kids n).2 (fun i hi => HA.out i (by omega) hi)).symm, hbel⟩

end Go.Proofs.Ytndefbecoahfhaa

/- The walk of impl.validPattern, joined. -/
namespace Go.Proofs.Ytndefbecoahfhaa
open Go.RowKit

set_option maxRecDepth 100000 in
set_option maxHeartbeats 1000000 in
theorem validPattern_out (op : Int) (text : ByteArray) (num lo hi : Int) (l : Nat) (A : Option Addr) (c : Nat) (w : World) (n : Int) (h : ¬ (1 ≤ op ∧ op ≤ 23)) :
    Calls Try.prog 90 #[patV op text num lo hi (.slice A l c), .int .i64 n] w fun e w' => e = .returned (.bool false) ∧ Below w.heap.size w w' := by
  by_cases h1 : op < 1
  · have g1 : decide (op < 1) = true := by simp; omega
    clear h h1
    go_enter Try.func90, Try.ntmps90
    go_wp2_with fail
    go_quiet (fail)
    go_wp2_with fail
    go_ret
    exact ⟨rfl, later_drewN ((Below.refl _ _).alloc (Nat.le_refl _) _) _⟩
  · have g1 : decide (op < 1) = false := by simp; omega
    have g2 : decide (23 < op) = true := by simp; omega
    clear h h1
    go_enter Try.func90, Try.ntmps90
    go_wp2_with fail
    go_quiet (fail)
    go_wp2_with fail
    go_ret
    exact ⟨rfl, later_drewN ((Below.refl _ _).alloc (Nat.le_refl _) _) _⟩

set_option maxRecDepth 100000 in
set_option maxHeartbeats 1000000 in
theorem validPattern_kids (op : Int) (text : ByteArray) (num lo hi : Int) (l : Nat) (A : Option Addr) (c : Nat) (w : World) (n : Int) (h : 1 ≤ op ∧ op ≤ 23) (hk : ¬ (l : Int) = kidsOf op) :
    Calls Try.prog 90 #[patV op text num lo hi (.slice A l c), .int .i64 n] w fun e w' => e = .returned (.bool false) ∧ Below w.heap.size w w' := by
  have g1 : decide (op < 1) = false := by simp; omega
  have g2 : decide (23 < op) = false := by simp; omega
  have g3 : ((l : Int) != kidsOf op) = true := by simp [hk]
  clear h hk
  go_enter Try.func90, Try.ntmps90
  go_wp2_with fail
  go_quiet ((go_at_call 97; exact quiet_left (patternKids_any _ _)))
  go_wp2_with fail
  go_ret
  exact ⟨rfl, later_drewN ((Below.refl _ _).alloc (Nat.le_refl _) _) _⟩

theorem okHead_out (p : Pat) (n : Int) (h : ¬ (1 ≤ p.op ∧ p.op ≤ 23)) : okHead p n = false := by
  simp only [okHead, decide_eq_false h, Bool.false_and]
theorem okHead_kids (p : Pat) (n : Int) (h : ¬ (p.kids.length : Int) = kidsOf p.op) : okHead p n = false := by
  simp only [okHead, decide_eq_false h, Bool.and_false, Bool.false_and]
/-- The five groups of a pattern's op. -/
theorem op_groups (op : Int) (h : 1 ≤ op ∧ op ≤ 23) : op = 1 ∨ (2 ≤ op ∧ op ≤ 6) ∨ (7 ≤ op ∧ op ≤ 10) ∨ (op = 16 ∨ op = 17 ∨ op = 18 ∨ op = 20) ∨ (11 ≤ op ∧ op ≤ 23 ∧ op ≠ 16 ∧ op ≠ 17 ∧ op ≠ 18 ∧ op ≠ 20) := by omega

theorem validPattern_any (k : Nat) : ∀ (p : Pat) (kv : Value) (w : World) (n : Int), count p ≤ k → k ≤ 1099511627776 → KidsIn w p kv →
    Calls Try.prog 90 #[p.v kv, .int .i64 n] w fun e w' => e = .returned (.bool (valid p n)) ∧ Below w.heap.size w w' := by
  induction k with
  | zero => intro p kv w n h; have := count_pos p; omega
  | succ k ih =>
    intro p kv w n hk hk2 hin
    obtain ⟨A, c, rfl, hc, hrow⟩ := hin.form
    have hlen := countAll_len p.kids
    have hce := count_eq p
    have hn : p.kids.length ≤ 1099511627776 := by omega
    by_cases h1 : 1 ≤ p.op ∧ p.op ≤ 23
    · by_cases h2 : (p.kids.length : Int) = kidsOf p.op
      · have IH : Hid (∀ j (h : j < p.kids.length) kv w, KidsIn w p.kids[j] kv → Calls Try.prog 90 #[p.kids[j].v kv, .int .i64 n] w fun e w' => e = .returned (.bool (valid p.kids[j] n)) ∧ Below w.heap.size w w') := by
          intro j hj kv w hkv
          have := count_kid_lt p j hj
          exact ih p.kids[j] kv w n (by omega) (by omega) hkv
        obtain ⟨op, text, num, lo, hi, kids⟩ := p
        simp only [Pat.kids, Pat.op, Pat.v, Pat.text, Pat.num, Pat.lo, Pat.hi] at *
        rw [valid_eq]
        simp only [Pat.kids]
        rcases op_groups op h1 with hg | hg | hg | hg | hg
        · rw [head_text op text num lo hi kids n hg h2]
          by_cases hok : text.size ≤ 120 ∧ num = 0 ∧ lo = 0 ∧ hi = 0
          · rw [decide_eq_true hok, Bool.true_and]; exact validPattern_text_good op text num lo hi kids A c w n hg h2 hn IH hrow hok
          · rw [decide_eq_false hok, Bool.false_and]; exact validPattern_text_bad op text num lo hi kids A c w n hg h2 hok
        · rw [head_len op text num lo hi kids n hg h2]
          by_cases hok : text.toList = [] ∧ 0 ≤ num ∧ num ≤ 120 ∧ lo = 0 ∧ hi = 0
          · rw [decide_eq_true hok, Bool.true_and]; exact validPattern_len_good op text num lo hi kids A c w n hg h2 hn IH hrow hok
          · rw [decide_eq_false hok, Bool.false_and]; exact validPattern_len_bad op text num lo hi kids A c w n hg h2 hok
        · rw [head_set op text num lo hi kids n hg h2]
          by_cases hok : text.toList = [] ∧ num = 0
          · rw [decide_eq_true hok, Bool.true_and]; exact validPattern_set_good op text num lo hi kids A c w n hg h2 hn IH hrow hok
          · rw [decide_eq_false hok, Bool.false_and]; exact validPattern_set_bad op text num lo hi kids A c w n hg h2 hok
        · rw [head_var op text num lo hi kids n hg h2]
          by_cases hok : text.toList = [] ∧ 0 ≤ num ∧ num < n ∧ lo = 0 ∧ hi = 0
          · rw [decide_eq_true hok, Bool.true_and]; exact validPattern_var_good op text num lo hi kids A c w n hg h2 hn IH hrow hok
          · rw [decide_eq_false hok, Bool.false_and]; exact validPattern_var_bad op text num lo hi kids A c w n hg h2 hok
        · rw [head_rest op text num lo hi kids n hg h2]
          by_cases hok : text.toList = [] ∧ num = 0 ∧ lo = 0 ∧ hi = 0
          · rw [decide_eq_true hok, Bool.true_and]; exact validPattern_rest_good op text num lo hi kids A c w n hg h2 hn IH hrow hok
          · rw [decide_eq_false hok, Bool.false_and]; exact validPattern_rest_bad op text num lo hi kids A c w n hg h2 hok
      · rw [valid_eq, okHead_kids p n h2, Bool.false_and]
        exact validPattern_kids p.op p.text p.num p.lo p.hi p.kids.length A c w n h1 h2
    · rw [valid_eq, okHead_out p n h1, Bool.false_and]
      exact validPattern_out p.op p.text p.num p.lo p.hi p.kids.length A c w n h1

end Go.Proofs.Ytndefbecoahfhaa

/- What the walk of spec.l18Valid uses. -/
namespace Go.Proofs.Ytndefbecoahfhaa
open Go.RowKit
theorem l1In_any (n lo hi : Int) (w : World) : Calls Try.prog 40 #[.int .i64 n, .int .i64 lo, .int .i64 hi] w fun e w' => e = .returned (.bool (decide (lo ≤ n) && decide (n ≤ hi))) ∧ w = w' := by
  by_cases h1 : lo ≤ n
  · by_cases h2 : n ≤ hi
    · go_enter Try.func40, Try.ntmps40
      go_wp2
      go_ret
      exact ⟨ret_bool (by simp [h1, h2]), rfl⟩
    · go_enter Try.func40, Try.ntmps40
      go_wp2
      go_ret
      exact ⟨ret_bool (by simp; omega), rfl⟩
  · have HV : Hid ((decide (lo ≤ n) && decide (n ≤ hi)) = false) := by rw [decide_eq_false h1]; rfl
    go_enter Try.func40, Try.ntmps40
    go_wp2
    go_ret
    exact ⟨ret_bool HV.out.symm, rfl⟩
theorem l1In_is (b : Bool) (n lo hi : Int) (w : World) (h : (decide (lo ≤ n) && decide (n ≤ hi)) = b) : Calls Try.prog 40 #[.int .i64 n, .int .i64 lo, .int .i64 hi] w fun e w' => e = .returned (.bool b) ∧ w = w' := by
  rw [← h]; exact l1In_any n lo hi w
theorem size_of_empty {s : ByteArray} (h : s.toList = []) : (s.size : Int) = 0 := by
  rw [ByteArray.toList_eq] at h
  have : s.data.size = 0 := by rw [← Array.length_toList, h]; rfl
  exact Int.ofNat_eq_zero.2 this
end Go.Proofs.Ytndefbecoahfhaa

/- The walk of spec.l18Valid, text. Printed by gen_svalid.py. -/
namespace Go.Proofs.Ytndefbecoahfhaa
open Go.RowKit


set_option maxRecDepth 100000 in
set_option maxHeartbeats 2000000 in
theorem l18Valid_text_t (op : Int) (text : ByteArray) (num lo hi : Int) (kids : List Pat) (A : Option Addr) (c : Nat) (w : World) (n : Int) (hop : op = 1) (hk : (kids.length : Int) = kidsOf op) (ht : 120 < text.size) :
    Calls Try.prog 93 #[patV op text num lo hi (.slice A kids.length c), .int .i64 n] w fun e w' => e = .returned (.bool false) ∧ Below w.heap.size w w' := by
  have g1 : decide (op < 1) = false := by simp; omega
  have g2 : decide (23 < op) = false := by simp; omega
  have g3 : ((kids.length : Int) != kidsOf op) = false := by simp [hk]
  clear hk
  have f0 : (op != 1) = false := by simp; omega
  have f1 : decide (op < 7) = true := by simp; omega
  have f2 : decide (2 ≤ op) = false := by simp; omega
  have f3 : decide (16 ≤ op) = false := by simp; omega
  have t0 : decide (120 < (text.size : Int)) = true := by simp; omega
  have HC : Hid (kidsOf op = kidsOf op) := rfl
  clear HC
  subst hop
  all_goals
    go_enter Try.func93, Try.ntmps93
    go_wp2_with fail
    go_quiet ((go_at_call 87; exact quiet_left (l18Kids_any _ _)))
    go_wp2_with fail
    go_ret
    exact ⟨rfl, by first | exact later_drewN ((Below.refl _ _).alloc (Nat.le_refl _) _) _ | exact (Below.refl _ _).alloc (Nat.le_refl _) _⟩

set_option maxRecDepth 100000 in
set_option maxHeartbeats 2000000 in
theorem l18Valid_text_l (op : Int) (text : ByteArray) (num lo hi : Int) (kids : List Pat) (A : Option Addr) (c : Nat) (w : World) (n : Int) (hop : op = 1) (hk : (kids.length : Int) = kidsOf op) (ht : text.size ≤ 120) (hl : ¬ lo = 0) :
    Calls Try.prog 93 #[patV op text num lo hi (.slice A kids.length c), .int .i64 n] w fun e w' => e = .returned (.bool false) ∧ Below w.heap.size w w' := by
  have g1 : decide (op < 1) = false := by simp; omega
  have g2 : decide (23 < op) = false := by simp; omega
  have g3 : ((kids.length : Int) != kidsOf op) = false := by simp [hk]
  clear hk
  have f0 : (op != 1) = false := by simp; omega
  have f1 : decide (op < 7) = true := by simp; omega
  have f2 : decide (2 ≤ op) = false := by simp; omega
  have f3 : decide (16 ≤ op) = false := by simp; omega
  have t0 : decide (120 < (text.size : Int)) = false := by simp; omega
  have HC : Hid (kidsOf op = kidsOf op) := rfl
  have l0 : (lo == 0) = false := by simp [hl]
  clear HC
  subst hop
  all_goals
    go_enter Try.func93, Try.ntmps93
    go_wp2_with fail
    go_quiet ((go_at_call 87; exact quiet_left (l18Kids_any _ _)))
    go_wp2_with fail
    go_ret
    exact ⟨rfl, by first | exact later_drewN ((Below.refl _ _).alloc (Nat.le_refl _) _) _ | exact (Below.refl _ _).alloc (Nat.le_refl _) _⟩

set_option maxRecDepth 100000 in
set_option maxHeartbeats 2000000 in
theorem l18Valid_text_h (op : Int) (text : ByteArray) (num lo hi : Int) (kids : List Pat) (A : Option Addr) (c : Nat) (w : World) (n : Int) (hop : op = 1) (hk : (kids.length : Int) = kidsOf op) (ht : text.size ≤ 120) (hl : lo = 0) (hh : ¬ hi = 0) :
    Calls Try.prog 93 #[patV op text num lo hi (.slice A kids.length c), .int .i64 n] w fun e w' => e = .returned (.bool false) ∧ Below w.heap.size w w' := by
  have g1 : decide (op < 1) = false := by simp; omega
  have g2 : decide (23 < op) = false := by simp; omega
  have g3 : ((kids.length : Int) != kidsOf op) = false := by simp [hk]
  clear hk
  have f0 : (op != 1) = false := by simp; omega
  have f1 : decide (op < 7) = true := by simp; omega
  have f2 : decide (2 ≤ op) = false := by simp; omega
  have f3 : decide (16 ≤ op) = false := by simp; omega
  have t0 : decide (120 < (text.size : Int)) = false := by simp; omega
  have HC : Hid (kidsOf op = kidsOf op) := rfl
  subst hl
  have l0 : (hi == 0) = false := by simp [hh]
  clear HC
  subst hop
  all_goals
    go_enter Try.func93, Try.ntmps93
    go_wp2_with fail
    go_quiet ((go_at_call 87; exact quiet_left (l18Kids_any _ _)))
    go_wp2_with fail
    go_ret
    exact ⟨rfl, by first | exact later_drewN ((Below.refl _ _).alloc (Nat.le_refl _) _) _ | exact (Below.refl _ _).alloc (Nat.le_refl _) _⟩

set_option maxRecDepth 100000 in
set_option maxHeartbeats 2000000 in
theorem l18Valid_text_n (op : Int) (text : ByteArray) (num lo hi : Int) (kids : List Pat) (A : Option Addr) (c : Nat) (w : World) (n : Int) (hop : op = 1) (hk : (kids.length : Int) = kidsOf op) (ht : text.size ≤ 120) (hl : lo = 0) (hh : hi = 0) (hm : ¬ num = 0) :
    Calls Try.prog 93 #[patV op text num lo hi (.slice A kids.length c), .int .i64 n] w fun e w' => e = .returned (.bool false) ∧ Below w.heap.size w w' := by
  have g1 : decide (op < 1) = false := by simp; omega
  have g2 : decide (23 < op) = false := by simp; omega
  have g3 : ((kids.length : Int) != kidsOf op) = false := by simp [hk]
  clear hk
  have f0 : (op != 1) = false := by simp; omega
  have f1 : decide (op < 7) = true := by simp; omega
  have f2 : decide (2 ≤ op) = false := by simp; omega
  have f3 : decide (16 ≤ op) = false := by simp; omega
  have t0 : decide (120 < (text.size : Int)) = false := by simp; omega
  have HC : Hid (kidsOf op = kidsOf op) := rfl
  subst hl hh
  have m0 : (num != 0) = true := by simp [hm]
  clear HC
  subst hop
  all_goals
    go_enter Try.func93, Try.ntmps93
    go_wp2_with fail
    go_quiet ((go_at_call 87; exact quiet_left (l18Kids_any _ _)))
    go_wp2_with fail
    go_ret
    exact ⟨rfl, by first | exact later_drewN ((Below.refl _ _).alloc (Nat.le_refl _) _) _ | exact (Below.refl _ _).alloc (Nat.le_refl _) _⟩

set_option maxRecDepth 100000 in
set_option maxHeartbeats 2000000 in
theorem l18Valid_text_good (op : Int) (text : ByteArray) (num lo hi : Int) (kids : List Pat) (A : Option Addr) (c : Nat) (w : World) (n : Int) (hop : op = 1) (hk : (kids.length : Int) = kidsOf op) (hn : kids.length ≤ 1099511627776)
    (IH : Hid (∀ j (h : j < kids.length) kv w, KidsIn w kids[j] kv → Calls Try.prog 93 #[kids[j].v kv, .int .i64 n] w fun e w' => e = .returned (.bool (valid kids[j] n)) ∧ Below w.heap.size w w'))
    (hrow : RowIn w A 0 kids) (ht : text.size ≤ 120) (hl : lo = 0) (hh : hi = 0) (hm : num = 0) :
    Calls Try.prog 93 #[patV op text num lo hi (.slice A kids.length c), .int .i64 n] w fun e w' => e = .returned (.bool (validAll kids n)) ∧ Below w.heap.size w w' := by
  have g1 : decide (op < 1) = false := by simp; omega
  have g2 : decide (23 < op) = false := by simp; omega
  have g3 : ((kids.length : Int) != kidsOf op) = false := by simp [hk]
  clear hk
  have f0 : (op != 1) = false := by simp; omega
  have f1 : decide (op < 7) = true := by simp; omega
  have f2 : decide (2 ≤ op) = false := by simp; omega
  have f3 : decide (16 ≤ op) = false := by simp; omega
  have t0 : decide (120 < (text.size : Int)) = false := by simp; omega
  have HC : Hid (kidsOf op = kidsOf op) := rfl
  subst hl hh
  subst hm
  clear HC
  subst hop
  all_goals
    go_enter Try.func93, Try.ntmps93
    go_wp2_with fail
    go_quiet ((go_at_call 87; exact quiet_left (l18Kids_any _ _)))
    go_wp2_with fail
    go_loopw [5] (fun i wr => ∃ j : Nat, j ≤ kids.length ∧ i = .int .i64 j ∧ (∀ i (h : i < j) (h2 : i < kids.length), valid kids[i] n = true) ∧ RowIn wr A 0 kids ∧ w.heap.size < wr.heap.size ∧ wr.cell? ⟨w.heap.size, 5, none⟩ = some (.slice A kids.length c) ∧ Below w.heap.size w wr) (fun i _ => kids.length - (intOf i).toNat)
    case atStart => exact ⟨0, Nat.zero_le _, rfl, by intro i h; omega, RowIn.later (later_drewN ((Later.refl w).alloc _) _) A 0 _ hrow, by simp, cell_of_row _ w.heap.size 5 _ _ _ (heap_alloc_new w _), later_drewN ((Below.refl _ _).alloc (Nat.le_refl _) _) _⟩
    case round =>
      obtain ⟨j, hj, rfl, hall, hr, hN, hc5, hbel⟩ := hrel
      have HA := Lib.hid hall
      clear hall
      have hsz := hbel.size
      by_cases hlt : j < kids.length
      · obtain ⟨g, kv', rfl, hg, he, hkid⟩ := rowOf wr kids hr hlt
        obtain ⟨A', c', rfl, _, _⟩ := hkid.form
        obtain ⟨e0, e1, e2, e3, e4, e5⟩ := he
        have hlt' : (j : Int) < kids.length := by omega
        have HKid := Lib.hid hkid
        have HR := Lib.hid hr
        clear hkid hr
        go_wp2_with fail
        refine (IH.out j hlt _ _ HKid.out).mono ?_
        rintro e w2 ⟨rfl, hb2⟩
        have hb3 : Below w.heap.size w w2 := hbel.trans (Below.mono hb2 hsz)
        have HR2 := Lib.hid (RowIn.later hb2 _ 0 _ HR.out)
        have hc5' : w2.cell? ⟨w.heap.size, 5, none⟩ = some (.slice (some ⟨g, 0, none⟩) kids.length c) := (hb2.cell hN).trans hc5
        have hN' : w.heap.size < w2.heap.size := Nat.lt_of_lt_of_le hN hb2.size
        clear hb2
        cases hvj : valid kids[j] n with
        | false =>
          have HF := Lib.hid (validAll_false kids n j hlt hvj)
          clear hvj
          go_wp2_with fail
          go_ret
          exact ⟨ret_bool HF.out.symm, hb3⟩
        | true =>
          have HJ := Lib.hid hvj
          clear hvj
          go_wp2_with fail
          go_roundw
          case rel => exact ⟨j + 1, by omega, by go_num, fun i hi hi2 => (by
            by_cases hij : i = j
            · subst hij; exact HJ.out
            · exact HA.out i (by omega) hi2), HR2.out, hN', hc5', hb3⟩
          case measure => simp [intOf]; omega
      · go_wp2_with fail
        go_ret
        exact ⟨ret_bool ((validAll_iff kids n).2 (fun i hi => HA.out i (by omega) hi)).symm, hbel⟩
end Go.Proofs.Ytndefbecoahfhaa
