/- spec's l19One at the patterns that ask a set; all its cases together. -/
import Derived.Test.YtndefbecoahfhaaOneS
namespace Go.Proofs.Ytndefbecoahfhaa
open Go.RowKit

section
variable (text : ByteArray) (num lo hi : Int) (A : Option Addr) (n c : Nat) (s : ByteArray) (p : Nat) (w : World)

set_option maxRecDepth 100000 in
set_option maxHeartbeats 4000000 in
theorem one_7 (hs : s.size ≤ 120) (hp : p ≤ s.size) :
    Calls Try.prog 82 #[patV 7 text num lo hi (.slice A n c), .string s, .int .i64 p] w fun e w' => e = .returned (.int .i64 (endInt (oneEnd 7 text num lo hi s p))) ∧ Below w.heap.size w w' := by
  have HV := Lib.hid (show oneEnd 7 text num lo hi s p = if p < s.size ∧ hb lo hi (byteAt s p) = true then some (p + 1) else none from rfl)
  by_cases hg : p < s.size
  · have hg' : (p : Int) < s.size := by omega
    have hg3 : (0 : Int) ≤ (p : Int) := by omega
    have hby : (s[p].toNat : Int) = byteAt s p := byteAt_eq s p hg
    have hb0 : 0 ≤ byteAt s p := byteAt_bd s p |>.1
    have hb1 : byteAt s p < 256 := byteAt_bd s p |>.2
    cases hv : hb lo hi (byteAt s p)
    all_goals
      go_enter Try.func82, Try.ntmps82
      go_wp2_with fail
      -- region 22: 16 operations, the tail from 16 on
      refine wpS_begin 16 (by kernel_rfl) (fun w1 hw1 => ?_)
      subst hw1
      refine wpS_take 0 (some 100) (v := ?_) rfl rfl (by kernel_rfl) (fun _ _ _ h => h) rfl (fun x hx => ?_) ?_
      rotate_left 1
      · have hxc := hx.cell; have hxf := hx.frozen; go_simp; first | done | with_reducible rfl | rw [if_neg (by omega)] | rw [if_pos (by omega)]
      simp only [Act.put, List.setIfInBounds_toArray, List.set_cons_zero, List.set_cons_succ]
      refine wpS_take 1 (some 101) (v := ?_) rfl rfl (by kernel_rfl) (fun _ _ _ h => h) rfl (fun x hx => ?_) ?_
      rotate_left 1
      · have hxc := hx.cell; have hxf := hx.frozen; go_simp; first | done | with_reducible rfl | rw [if_neg (by omega)] | rw [if_pos (by omega)]
      simp only [Act.put, List.setIfInBounds_toArray, List.set_cons_zero, List.set_cons_succ]
      refine wpS_take 2 (some 102) (v := ?_) rfl rfl (by kernel_rfl) (fun _ _ _ h => h) rfl (fun x hx => ?_) ?_
      rotate_left 1
      · have hxc := hx.cell; have hxf := hx.frozen; go_simp; first | done | with_reducible rfl | rw [if_neg (by omega)] | rw [if_pos (by omega)]
      simp only [Act.put, List.setIfInBounds_toArray, List.set_cons_zero, List.set_cons_succ]
      refine wpS_take 3 (some 103) (v := ?_) rfl rfl (by kernel_rfl) (fun _ _ _ h => h) rfl (fun x hx => ?_) ?_
      rotate_left 1
      · have hxc := hx.cell; have hxf := hx.frozen; go_simp; first | done | with_reducible rfl | rw [if_neg (by omega)] | rw [if_pos (by omega)]
      simp only [Act.put, List.setIfInBounds_toArray, List.set_cons_zero, List.set_cons_succ]
      refine wpS_take 4 (some 104) (v := ?_) rfl rfl (by kernel_rfl) (fun _ _ _ h => h) rfl (fun x hx => ?_) ?_
      rotate_left 1
      · have hxc := hx.cell; have hxf := hx.frozen; go_simp; first | done | with_reducible rfl | rw [if_neg (by omega)] | rw [if_pos (by omega)]
      simp only [Act.put, List.setIfInBounds_toArray, List.set_cons_zero, List.set_cons_succ]
      refine wpS_take 5 (some 105) (v := ?_) rfl rfl (by kernel_rfl) (fun _ _ _ h => h) rfl (fun x hx => ?_) ?_
      rotate_left 1
      · have hxc := hx.cell; have hxf := hx.frozen; go_simp; first | done | with_reducible rfl | rw [if_neg (by omega)] | rw [if_pos (by omega)]
      simp only [Act.put, List.setIfInBounds_toArray, List.set_cons_zero, List.set_cons_succ]
      refine wpS_take 6 (some 106) (v := ?_) rfl rfl (by kernel_rfl) (fun _ _ _ h => h) rfl (fun x hx => ?_) ?_
      rotate_left 1
      · have hxc := hx.cell; have hxf := hx.frozen; go_simp; first | done | with_reducible rfl | rw [if_neg (by omega)] | rw [if_pos (by omega)]
      simp only [Act.put, List.setIfInBounds_toArray, List.set_cons_zero, List.set_cons_succ]
      refine wpS_take 7 (some 107) (v := ?_) rfl rfl (by kernel_rfl) (fun _ _ _ h => h) rfl (fun x hx => ?_) ?_
      rotate_left 1
      · have hxc := hx.cell; have hxf := hx.frozen; go_simp; first | done | with_reducible rfl | rw [if_neg (by omega)] | rw [if_pos (by omega)]
      simp only [Act.put, List.setIfInBounds_toArray, List.set_cons_zero, List.set_cons_succ]
      refine wpS_take 8 (some 108) (v := ?_) rfl rfl (by kernel_rfl) (fun _ _ _ h => h) rfl (fun x hx => ?_) ?_
      rotate_left 1
      · have hxc := hx.cell; have hxf := hx.frozen; go_simp; first | done | with_reducible rfl | rw [if_neg (by omega)] | rw [if_pos (by omega)]
      simp only [Act.put, List.setIfInBounds_toArray, List.set_cons_zero, List.set_cons_succ]
      refine wpS_take 9 (some 109) (v := ?_) rfl rfl (by kernel_rfl) (fun _ _ _ h => h) rfl (fun x hx => ?_) ?_
      rotate_left 1
      · have hxc := hx.cell; have hxf := hx.frozen; go_simp; first | done | with_reducible rfl | rw [if_neg (by omega)] | rw [if_pos (by omega)]
      simp only [Act.put, List.setIfInBounds_toArray, List.set_cons_zero, List.set_cons_succ]
      refine wpS_take 11 (some 111) (v := ?_) rfl rfl (by kernel_rfl) (fun _ _ _ h => h) rfl (fun x hx => ?_) ?_
      rotate_left 1
      · have hxc := hx.cell; have hxf := hx.frozen; go_simp; first | done | with_reducible rfl | rw [if_neg (by omega)] | rw [if_pos (by omega)]
      simp only [Act.put, List.setIfInBounds_toArray, List.set_cons_zero, List.set_cons_succ]
      refine wpS_take 12 (some 112) (v := ?_) rfl rfl (by kernel_rfl) (fun _ _ _ h => h) rfl (fun x hx => ?_) ?_
      rotate_left 1
      · have hxc := hx.cell; have hxf := hx.frozen; go_simp; first | done | with_reducible rfl | rw [if_neg (by omega)] | rw [if_pos (by omega)]
      simp only [Act.put, List.setIfInBounds_toArray, List.set_cons_zero, List.set_cons_succ]
      refine wpS_take 13 (some 113) (v := ?_) rfl rfl (by kernel_rfl) (fun _ _ _ h => h) rfl (fun x hx => ?_) ?_
      rotate_left 1
      · have hxc := hx.cell; have hxf := hx.frozen; go_simp; first | done | with_reducible rfl | rw [if_neg (by omega)] | rw [if_pos (by omega)]
      simp only [Act.put, List.setIfInBounds_toArray, List.set_cons_zero, List.set_cons_succ]
      refine wpS_step 10 (by kernel_rfl) rfl ?_  -- call value (Go.Operand.func 73)
      go_wp2_with (go_at_call 73; refine (specHasByte_any lo hi (byteAt s p) _ hb0 hb1).mono ?_; rintro e w2 ⟨rfl, hb2⟩)
      refine ⟨hb2, ?_⟩
      have hacc : Later w w2 := Later.trans (((Later.refl w).alloc _).drew) hb2
      clear hb2
      refine wpS_take 14 (some 114) (v := ?_) rfl rfl (by kernel_rfl) (fun _ _ _ h => h) rfl (fun x hx => ?_) ?_
      rotate_left 1
      · have hxc := hx.cell; have hxf := hx.frozen; go_simp; first | done | with_reducible rfl | rw [if_neg (by omega)] | rw [if_pos (by omega)]
      simp only [Act.put, List.setIfInBounds_toArray, List.set_cons_zero, List.set_cons_succ]
      refine wpS_take 15 (some 115) (v := ?_) rfl rfl (by kernel_rfl) (fun _ _ _ h => h) rfl (fun x hx => ?_) ?_
      rotate_left 1
      · have hxc := hx.cell; have hxf := hx.frozen; go_simp; first | done | with_reducible rfl | rw [if_neg (by omega)] | rw [if_pos (by omega)]
      simp only [Act.put, List.setIfInBounds_toArray, List.set_cons_zero, List.set_cons_succ]
      refine wpS_tail 16 0 _ rfl (by kernel_rfl) rfl ?_
      simp only [List.drop_succ_cons, List.drop_zero]
      refine wpList_nil ?_
      go_wp2_with fail
      go_ret
      exact ⟨ret_int (by rw [HV.out]; simp [hg, hv, endInt]), hacc⟩
  · have hg' : decide ((p : Int) < s.size) = false := by simp; omega
    go_enter Try.func82, Try.ntmps82
    go_wp2_with fail
    go_quiet (fail)
    go_wp2_with fail
    go_ret
    exact ⟨ret_int (by rw [HV.out, if_neg (by omega)]; rfl), below_drewN' ((Below.refl _ _).alloc (Nat.le_refl _) _) _⟩

set_option maxRecDepth 100000 in
set_option maxHeartbeats 4000000 in
theorem one_8 (hs : s.size ≤ 120) (hp : p ≤ s.size) :
    Calls Try.prog 82 #[patV 8 text num lo hi (.slice A n c), .string s, .int .i64 p] w fun e w' => e = .returned (.int .i64 (endInt (oneEnd 8 text num lo hi s p))) ∧ Below w.heap.size w w' := by
  have HV := Lib.hid (show oneEnd 8 text num lo hi s p = if p < s.size ∧ hb lo hi (byteAt s p) = false then some (p + 1) else none from rfl)
  by_cases hg : p < s.size
  · have hg' : (p : Int) < s.size := by omega
    have hg3 : (0 : Int) ≤ (p : Int) := by omega
    have hby : (s[p].toNat : Int) = byteAt s p := byteAt_eq s p hg
    have hb0 : 0 ≤ byteAt s p := byteAt_bd s p |>.1
    have hb1 : byteAt s p < 256 := byteAt_bd s p |>.2
    cases hv : hb lo hi (byteAt s p)
    all_goals
      go_enter Try.func82, Try.ntmps82
      go_wp2_with fail
      -- region 22: 16 operations, the tail from 16 on
      refine wpS_begin 16 (by kernel_rfl) (fun w1 hw1 => ?_)
      subst hw1
      refine wpS_take 0 (some 100) (v := ?_) rfl rfl (by kernel_rfl) (fun _ _ _ h => h) rfl (fun x hx => ?_) ?_
      rotate_left 1
      · have hxc := hx.cell; have hxf := hx.frozen; go_simp; first | done | with_reducible rfl | rw [if_neg (by omega)] | rw [if_pos (by omega)]
      simp only [Act.put, List.setIfInBounds_toArray, List.set_cons_zero, List.set_cons_succ]
      refine wpS_take 1 (some 101) (v := ?_) rfl rfl (by kernel_rfl) (fun _ _ _ h => h) rfl (fun x hx => ?_) ?_
      rotate_left 1
      · have hxc := hx.cell; have hxf := hx.frozen; go_simp; first | done | with_reducible rfl | rw [if_neg (by omega)] | rw [if_pos (by omega)]
      simp only [Act.put, List.setIfInBounds_toArray, List.set_cons_zero, List.set_cons_succ]
      refine wpS_take 2 (some 102) (v := ?_) rfl rfl (by kernel_rfl) (fun _ _ _ h => h) rfl (fun x hx => ?_) ?_
      rotate_left 1
      · have hxc := hx.cell; have hxf := hx.frozen; go_simp; first | done | with_reducible rfl | rw [if_neg (by omega)] | rw [if_pos (by omega)]
      simp only [Act.put, List.setIfInBounds_toArray, List.set_cons_zero, List.set_cons_succ]
      refine wpS_take 3 (some 103) (v := ?_) rfl rfl (by kernel_rfl) (fun _ _ _ h => h) rfl (fun x hx => ?_) ?_
      rotate_left 1
      · have hxc := hx.cell; have hxf := hx.frozen; go_simp; first | done | with_reducible rfl | rw [if_neg (by omega)] | rw [if_pos (by omega)]
      simp only [Act.put, List.setIfInBounds_toArray, List.set_cons_zero, List.set_cons_succ]
      refine wpS_take 4 (some 104) (v := ?_) rfl rfl (by kernel_rfl) (fun _ _ _ h => h) rfl (fun x hx => ?_) ?_
      rotate_left 1
      · have hxc := hx.cell; have hxf := hx.frozen; go_simp; first | done | with_reducible rfl | rw [if_neg (by omega)] | rw [if_pos (by omega)]
      simp only [Act.put, List.setIfInBounds_toArray, List.set_cons_zero, List.set_cons_succ]
      refine wpS_take 5 (some 105) (v := ?_) rfl rfl (by kernel_rfl) (fun _ _ _ h => h) rfl (fun x hx => ?_) ?_
      rotate_left 1
      · have hxc := hx.cell; have hxf := hx.frozen; go_simp; first | done | with_reducible rfl | rw [if_neg (by omega)] | rw [if_pos (by omega)]
      simp only [Act.put, List.setIfInBounds_toArray, List.set_cons_zero, List.set_cons_succ]
      refine wpS_take 6 (some 106) (v := ?_) rfl rfl (by kernel_rfl) (fun _ _ _ h => h) rfl (fun x hx => ?_) ?_
      rotate_left 1
      · have hxc := hx.cell; have hxf := hx.frozen; go_simp; first | done | with_reducible rfl | rw [if_neg (by omega)] | rw [if_pos (by omega)]
      simp only [Act.put, List.setIfInBounds_toArray, List.set_cons_zero, List.set_cons_succ]
      refine wpS_take 7 (some 107) (v := ?_) rfl rfl (by kernel_rfl) (fun _ _ _ h => h) rfl (fun x hx => ?_) ?_
      rotate_left 1
      · have hxc := hx.cell; have hxf := hx.frozen; go_simp; first | done | with_reducible rfl | rw [if_neg (by omega)] | rw [if_pos (by omega)]
      simp only [Act.put, List.setIfInBounds_toArray, List.set_cons_zero, List.set_cons_succ]
      refine wpS_take 8 (some 108) (v := ?_) rfl rfl (by kernel_rfl) (fun _ _ _ h => h) rfl (fun x hx => ?_) ?_
      rotate_left 1
      · have hxc := hx.cell; have hxf := hx.frozen; go_simp; first | done | with_reducible rfl | rw [if_neg (by omega)] | rw [if_pos (by omega)]
      simp only [Act.put, List.setIfInBounds_toArray, List.set_cons_zero, List.set_cons_succ]
      refine wpS_take 9 (some 109) (v := ?_) rfl rfl (by kernel_rfl) (fun _ _ _ h => h) rfl (fun x hx => ?_) ?_
      rotate_left 1
      · have hxc := hx.cell; have hxf := hx.frozen; go_simp; first | done | with_reducible rfl | rw [if_neg (by omega)] | rw [if_pos (by omega)]
      simp only [Act.put, List.setIfInBounds_toArray, List.set_cons_zero, List.set_cons_succ]
      refine wpS_take 11 (some 111) (v := ?_) rfl rfl (by kernel_rfl) (fun _ _ _ h => h) rfl (fun x hx => ?_) ?_
      rotate_left 1
      · have hxc := hx.cell; have hxf := hx.frozen; go_simp; first | done | with_reducible rfl | rw [if_neg (by omega)] | rw [if_pos (by omega)]
      simp only [Act.put, List.setIfInBounds_toArray, List.set_cons_zero, List.set_cons_succ]
      refine wpS_take 12 (some 112) (v := ?_) rfl rfl (by kernel_rfl) (fun _ _ _ h => h) rfl (fun x hx => ?_) ?_
      rotate_left 1
      · have hxc := hx.cell; have hxf := hx.frozen; go_simp; first | done | with_reducible rfl | rw [if_neg (by omega)] | rw [if_pos (by omega)]
      simp only [Act.put, List.setIfInBounds_toArray, List.set_cons_zero, List.set_cons_succ]
      refine wpS_take 13 (some 113) (v := ?_) rfl rfl (by kernel_rfl) (fun _ _ _ h => h) rfl (fun x hx => ?_) ?_
      rotate_left 1
      · have hxc := hx.cell; have hxf := hx.frozen; go_simp; first | done | with_reducible rfl | rw [if_neg (by omega)] | rw [if_pos (by omega)]
      simp only [Act.put, List.setIfInBounds_toArray, List.set_cons_zero, List.set_cons_succ]
      refine wpS_step 10 (by kernel_rfl) rfl ?_  -- call value (Go.Operand.func 73)
      go_wp2_with (go_at_call 73; refine (specHasByte_any lo hi (byteAt s p) _ hb0 hb1).mono ?_; rintro e w2 ⟨rfl, hb2⟩)
      refine ⟨hb2, ?_⟩
      have hacc : Later w w2 := Later.trans (((Later.refl w).alloc _).drew) hb2
      clear hb2
      refine wpS_take 14 (some 114) (v := ?_) rfl rfl (by kernel_rfl) (fun _ _ _ h => h) rfl (fun x hx => ?_) ?_
      rotate_left 1
      · have hxc := hx.cell; have hxf := hx.frozen; go_simp; first | done | with_reducible rfl | rw [if_neg (by omega)] | rw [if_pos (by omega)]
      simp only [Act.put, List.setIfInBounds_toArray, List.set_cons_zero, List.set_cons_succ]
      refine wpS_take 15 (some 115) (v := ?_) rfl rfl (by kernel_rfl) (fun _ _ _ h => h) rfl (fun x hx => ?_) ?_
      rotate_left 1
      · have hxc := hx.cell; have hxf := hx.frozen; go_simp; first | done | with_reducible rfl | rw [if_neg (by omega)] | rw [if_pos (by omega)]
      simp only [Act.put, List.setIfInBounds_toArray, List.set_cons_zero, List.set_cons_succ]
      refine wpS_tail 16 0 _ rfl (by kernel_rfl) rfl ?_
      simp only [List.drop_succ_cons, List.drop_zero]
      refine wpList_nil ?_
      go_wp2_with fail
      go_ret
      exact ⟨ret_int (by rw [HV.out]; simp [hg, hv, endInt]), hacc⟩
  · have hg' : decide ((p : Int) < s.size) = false := by simp; omega
    go_enter Try.func82, Try.ntmps82
    go_wp2_with fail
    go_quiet (fail)
    go_wp2_with fail
    go_ret
    exact ⟨ret_int (by rw [HV.out, if_neg (by omega)]; rfl), below_drewN' ((Below.refl _ _).alloc (Nat.le_refl _) _) _⟩

set_option maxRecDepth 100000 in
set_option maxHeartbeats 4000000 in
theorem one_9 (hs : s.size ≤ 120) (hp : p ≤ s.size) :
    Calls Try.prog 82 #[patV 9 text num lo hi (.slice A n c), .string s, .int .i64 p] w fun e w' => e = .returned (.int .i64 (endInt (oneEnd 9 text num lo hi s p))) ∧ Below w.heap.size w w' := by
  have HV := Lib.hid (show oneEnd 9 text num lo hi s p = if 0 < runOf lo hi true (s.data.toList.drop p) then some (p + runOf lo hi true (s.data.toList.drop p)) else none from rfl)
  go_enter Try.func82, Try.ntmps82
  go_wp2_with fail
  go_loopw [7] (fun v wr => ∃ k : Nat, p ≤ k ∧ k ≤ s.size ∧ v = .int .i64 k ∧ k - p ≤ runOf lo hi true (s.data.toList.drop p) ∧ w.heap.size < wr.heap.size ∧ wr.cell? ⟨w.heap.size, 0, none⟩ = some (.int .i64 9) ∧ wr.cell? ⟨w.heap.size, 3, none⟩ = some (.int .i64 lo) ∧ wr.cell? ⟨w.heap.size, 4, none⟩ = some (.int .i64 hi) ∧ Below w.heap.size w wr) (fun v _ => s.size - (intOf v).toNat)
  case atStart =>
    refine ⟨p, Nat.le_refl _, hp, rfl, by omega, by simp, ?_, ?_, ?_, (Below.refl _ _).alloc (Nat.le_refl _) _⟩
    · exact cell_of_row _ w.heap.size 0 _ _ _ (heap_alloc_new w _)
    · exact cell_of_row _ w.heap.size 3 _ _ _ (heap_alloc_new w _)
    · exact cell_of_row _ w.heap.size 4 _ _ _ (heap_alloc_new w _)
  case round =>
    obtain ⟨k, hk0, hk1, rfl, hrun, hN, hc0, hc3, hc4, hbel⟩ := hrel
    have hsz := hbel.size
    by_cases hg : k < s.size
    · have hg' : (k : Int) < s.size := by omega
      have hg3 : (0 : Int) ≤ (k : Int) := by omega
      have hby : (s[k].toNat : Int) = byteAt s k := byteAt_eq s k hg
      have hb0 : 0 ≤ byteAt s k := byteAt_bd s k |>.1
      have hb1 : byteAt s k < 256 := byteAt_bd s k |>.2
      cases hv : hb lo hi (byteAt s k)
      case true =>
        have hr2 := run_more hk0 hg hrun hv
        go_wp2_with fail
        -- region 27: 16 operations, the tail from 16 on
        refine wpS_begin 16 (by kernel_rfl) (fun w1 hw1 => ?_)
        subst hw1
        refine wpS_take 0 (some 122) (v := ?_) rfl rfl (by kernel_rfl) (fun _ _ _ h => h) rfl (fun x hx => ?_) ?_
        rotate_left 1
        · have hx0 := (hx.cell ⟨w.heap.size, 0, none⟩ hN).trans hc0; have hx3 := (hx.cell ⟨w.heap.size, 3, none⟩ hN).trans hc3; have hx4 := (hx.cell ⟨w.heap.size, 4, none⟩ hN).trans hc4; go_simp; first | done | with_reducible rfl | rw [if_neg (by omega)] | rw [if_pos (by omega)]
        simp only [Act.put, List.setIfInBounds_toArray, List.set_cons_zero, List.set_cons_succ]
        refine wpS_take 1 (some 123) (v := ?_) rfl rfl (by kernel_rfl) (fun _ _ _ h => h) rfl (fun x hx => ?_) ?_
        rotate_left 1
        · have hx0 := (hx.cell ⟨w.heap.size, 0, none⟩ hN).trans hc0; have hx3 := (hx.cell ⟨w.heap.size, 3, none⟩ hN).trans hc3; have hx4 := (hx.cell ⟨w.heap.size, 4, none⟩ hN).trans hc4; go_simp; first | done | with_reducible rfl | rw [if_neg (by omega)] | rw [if_pos (by omega)]
        simp only [Act.put, List.setIfInBounds_toArray, List.set_cons_zero, List.set_cons_succ]
        refine wpS_take 2 (some 124) (v := ?_) rfl rfl (by kernel_rfl) (fun _ _ _ h => h) rfl (fun x hx => ?_) ?_
        rotate_left 1
        · have hx0 := (hx.cell ⟨w.heap.size, 0, none⟩ hN).trans hc0; have hx3 := (hx.cell ⟨w.heap.size, 3, none⟩ hN).trans hc3; have hx4 := (hx.cell ⟨w.heap.size, 4, none⟩ hN).trans hc4; go_simp; first | done | with_reducible rfl | rw [if_neg (by omega)] | rw [if_pos (by omega)]
        simp only [Act.put, List.setIfInBounds_toArray, List.set_cons_zero, List.set_cons_succ]
        refine wpS_take 3 (some 125) (v := ?_) rfl rfl (by kernel_rfl) (fun _ _ _ h => h) rfl (fun x hx => ?_) ?_
        rotate_left 1
        · have hx0 := (hx.cell ⟨w.heap.size, 0, none⟩ hN).trans hc0; have hx3 := (hx.cell ⟨w.heap.size, 3, none⟩ hN).trans hc3; have hx4 := (hx.cell ⟨w.heap.size, 4, none⟩ hN).trans hc4; go_simp; first | done | with_reducible rfl | rw [if_neg (by omega)] | rw [if_pos (by omega)]
        simp only [Act.put, List.setIfInBounds_toArray, List.set_cons_zero, List.set_cons_succ]
        refine wpS_take 4 (some 126) (v := ?_) rfl rfl (by kernel_rfl) (fun _ _ _ h => h) rfl (fun x hx => ?_) ?_
        rotate_left 1
        · have hx0 := (hx.cell ⟨w.heap.size, 0, none⟩ hN).trans hc0; have hx3 := (hx.cell ⟨w.heap.size, 3, none⟩ hN).trans hc3; have hx4 := (hx.cell ⟨w.heap.size, 4, none⟩ hN).trans hc4; go_simp; first | done | with_reducible rfl | rw [if_neg (by omega)] | rw [if_pos (by omega)]
        simp only [Act.put, List.setIfInBounds_toArray, List.set_cons_zero, List.set_cons_succ]
        refine wpS_take 5 (some 127) (v := ?_) rfl rfl (by kernel_rfl) (fun _ _ _ h => h) rfl (fun x hx => ?_) ?_
        rotate_left 1
        · have hx0 := (hx.cell ⟨w.heap.size, 0, none⟩ hN).trans hc0; have hx3 := (hx.cell ⟨w.heap.size, 3, none⟩ hN).trans hc3; have hx4 := (hx.cell ⟨w.heap.size, 4, none⟩ hN).trans hc4; go_simp; first | done | with_reducible rfl | rw [if_neg (by omega)] | rw [if_pos (by omega)]
        simp only [Act.put, List.setIfInBounds_toArray, List.set_cons_zero, List.set_cons_succ]
        refine wpS_take 6 (some 128) (v := ?_) rfl rfl (by kernel_rfl) (fun _ _ _ h => h) rfl (fun x hx => ?_) ?_
        rotate_left 1
        · have hx0 := (hx.cell ⟨w.heap.size, 0, none⟩ hN).trans hc0; have hx3 := (hx.cell ⟨w.heap.size, 3, none⟩ hN).trans hc3; have hx4 := (hx.cell ⟨w.heap.size, 4, none⟩ hN).trans hc4; go_simp; first | done | with_reducible rfl | rw [if_neg (by omega)] | rw [if_pos (by omega)]
        simp only [Act.put, List.setIfInBounds_toArray, List.set_cons_zero, List.set_cons_succ]
        refine wpS_take 7 (some 129) (v := ?_) rfl rfl (by kernel_rfl) (fun _ _ _ h => h) rfl (fun x hx => ?_) ?_
        rotate_left 1
        · have hx0 := (hx.cell ⟨w.heap.size, 0, none⟩ hN).trans hc0; have hx3 := (hx.cell ⟨w.heap.size, 3, none⟩ hN).trans hc3; have hx4 := (hx.cell ⟨w.heap.size, 4, none⟩ hN).trans hc4; go_simp; first | done | with_reducible rfl | rw [if_neg (by omega)] | rw [if_pos (by omega)]
        simp only [Act.put, List.setIfInBounds_toArray, List.set_cons_zero, List.set_cons_succ]
        refine wpS_take 8 (some 130) (v := ?_) rfl rfl (by kernel_rfl) (fun _ _ _ h => h) rfl (fun x hx => ?_) ?_
        rotate_left 1
        · have hx0 := (hx.cell ⟨w.heap.size, 0, none⟩ hN).trans hc0; have hx3 := (hx.cell ⟨w.heap.size, 3, none⟩ hN).trans hc3; have hx4 := (hx.cell ⟨w.heap.size, 4, none⟩ hN).trans hc4; go_simp; first | done | with_reducible rfl | rw [if_neg (by omega)] | rw [if_pos (by omega)]
        simp only [Act.put, List.setIfInBounds_toArray, List.set_cons_zero, List.set_cons_succ]
        refine wpS_take 9 (some 131) (v := ?_) rfl rfl (by kernel_rfl) (fun _ _ _ h => h) rfl (fun x hx => ?_) ?_
        rotate_left 1
        · have hx0 := (hx.cell ⟨w.heap.size, 0, none⟩ hN).trans hc0; have hx3 := (hx.cell ⟨w.heap.size, 3, none⟩ hN).trans hc3; have hx4 := (hx.cell ⟨w.heap.size, 4, none⟩ hN).trans hc4; go_simp; first | done | with_reducible rfl | rw [if_neg (by omega)] | rw [if_pos (by omega)]
        simp only [Act.put, List.setIfInBounds_toArray, List.set_cons_zero, List.set_cons_succ]
        refine wpS_take 11 (some 133) (v := ?_) rfl rfl (by kernel_rfl) (fun _ _ _ h => h) rfl (fun x hx => ?_) ?_
        rotate_left 1
        · have hx0 := (hx.cell ⟨w.heap.size, 0, none⟩ hN).trans hc0; have hx3 := (hx.cell ⟨w.heap.size, 3, none⟩ hN).trans hc3; have hx4 := (hx.cell ⟨w.heap.size, 4, none⟩ hN).trans hc4; go_simp; first | done | with_reducible rfl | rw [if_neg (by omega)] | rw [if_pos (by omega)]
        simp only [Act.put, List.setIfInBounds_toArray, List.set_cons_zero, List.set_cons_succ]
        refine wpS_take 12 (some 134) (v := ?_) rfl rfl (by kernel_rfl) (fun _ _ _ h => h) rfl (fun x hx => ?_) ?_
        rotate_left 1
        · have hx0 := (hx.cell ⟨w.heap.size, 0, none⟩ hN).trans hc0; have hx3 := (hx.cell ⟨w.heap.size, 3, none⟩ hN).trans hc3; have hx4 := (hx.cell ⟨w.heap.size, 4, none⟩ hN).trans hc4; go_simp; first | done | with_reducible rfl | rw [if_neg (by omega)] | rw [if_pos (by omega)]
        simp only [Act.put, List.setIfInBounds_toArray, List.set_cons_zero, List.set_cons_succ]
        refine wpS_take 13 (some 135) (v := ?_) rfl rfl (by kernel_rfl) (fun _ _ _ h => h) rfl (fun x hx => ?_) ?_
        rotate_left 1
        · have hx0 := (hx.cell ⟨w.heap.size, 0, none⟩ hN).trans hc0; have hx3 := (hx.cell ⟨w.heap.size, 3, none⟩ hN).trans hc3; have hx4 := (hx.cell ⟨w.heap.size, 4, none⟩ hN).trans hc4; go_simp; first | done | with_reducible rfl | rw [if_neg (by omega)] | rw [if_pos (by omega)]
        simp only [Act.put, List.setIfInBounds_toArray, List.set_cons_zero, List.set_cons_succ]
        refine wpS_step 10 (by kernel_rfl) rfl ?_  -- call value (Go.Operand.func 73)
        go_wp2_with (go_at_call 73; refine (specHasByte_any lo hi (byteAt s k) _ hb0 hb1).mono ?_; rintro e w2 ⟨rfl, hb2⟩)
        refine ⟨hb2, ?_⟩
        replace hbel : Below w.heap.size w w2 := hbel.drew.trans (Below.mono hb2 hsz)
        replace hc0 : w2.cell? ⟨w.heap.size, 0, none⟩ = some (.int .i64 9) := (Later.cell hb2 _ hN).trans hc0
        replace hc3 : w2.cell? ⟨w.heap.size, 3, none⟩ = some (.int .i64 lo) := (Later.cell hb2 _ hN).trans hc3
        replace hc4 : w2.cell? ⟨w.heap.size, 4, none⟩ = some (.int .i64 hi) := (Later.cell hb2 _ hN).trans hc4
        replace hN : w.heap.size < w2.heap.size := Nat.lt_of_lt_of_le hN hb2.size
        replace hsz := hbel.size
        clear hb2
        refine wpS_take 14 (some 136) (v := ?_) rfl rfl (by kernel_rfl) (fun _ _ _ h => h) rfl (fun x hx => ?_) ?_
        rotate_left 1
        · have hx0 := (hx.cell ⟨w.heap.size, 0, none⟩ hN).trans hc0; have hx3 := (hx.cell ⟨w.heap.size, 3, none⟩ hN).trans hc3; have hx4 := (hx.cell ⟨w.heap.size, 4, none⟩ hN).trans hc4; go_simp; first | done | with_reducible rfl | rw [if_neg (by omega)] | rw [if_pos (by omega)]
        simp only [Act.put, List.setIfInBounds_toArray, List.set_cons_zero, List.set_cons_succ]
        refine wpS_take 15 (some 137) (v := ?_) rfl rfl (by kernel_rfl) (fun _ _ _ h => h) rfl (fun x hx => ?_) ?_
        rotate_left 1
        · have hx0 := (hx.cell ⟨w.heap.size, 0, none⟩ hN).trans hc0; have hx3 := (hx.cell ⟨w.heap.size, 3, none⟩ hN).trans hc3; have hx4 := (hx.cell ⟨w.heap.size, 4, none⟩ hN).trans hc4; go_simp; first | done | with_reducible rfl | rw [if_neg (by omega)] | rw [if_pos (by omega)]
        simp only [Act.put, List.setIfInBounds_toArray, List.set_cons_zero, List.set_cons_succ]
        refine wpS_tail 16 0 _ rfl (by kernel_rfl) rfl ?_
        simp only [List.drop_succ_cons, List.drop_zero]
        refine wpList_nil ?_
        go_wp2_with fail
        go_roundw
        case rel => exact ⟨k + 1, by omega, by omega, by go_num, hr2, hN, hc0, hc3, hc4, hbel⟩
        case measure => simp [intOf]; omega
      case false =>
        have HR := Lib.hid (run_end hk0 hg hrun hv)
        by_cases hpos : p < k
        · have hpos' : (p : Int) < k := by omega
          go_wp2_with fail
          -- region 27: 16 operations, the tail from 16 on
          refine wpS_begin 16 (by kernel_rfl) (fun w1 hw1 => ?_)
          subst hw1
          refine wpS_take 0 (some 122) (v := ?_) rfl rfl (by kernel_rfl) (fun _ _ _ h => h) rfl (fun x hx => ?_) ?_
          rotate_left 1
          · have hx0 := (hx.cell ⟨w.heap.size, 0, none⟩ hN).trans hc0; have hx3 := (hx.cell ⟨w.heap.size, 3, none⟩ hN).trans hc3; have hx4 := (hx.cell ⟨w.heap.size, 4, none⟩ hN).trans hc4; go_simp; first | done | with_reducible rfl | rw [if_neg (by omega)] | rw [if_pos (by omega)]
          simp only [Act.put, List.setIfInBounds_toArray, List.set_cons_zero, List.set_cons_succ]
          refine wpS_take 1 (some 123) (v := ?_) rfl rfl (by kernel_rfl) (fun _ _ _ h => h) rfl (fun x hx => ?_) ?_
          rotate_left 1
          · have hx0 := (hx.cell ⟨w.heap.size, 0, none⟩ hN).trans hc0; have hx3 := (hx.cell ⟨w.heap.size, 3, none⟩ hN).trans hc3; have hx4 := (hx.cell ⟨w.heap.size, 4, none⟩ hN).trans hc4; go_simp; first | done | with_reducible rfl | rw [if_neg (by omega)] | rw [if_pos (by omega)]
          simp only [Act.put, List.setIfInBounds_toArray, List.set_cons_zero, List.set_cons_succ]
          refine wpS_take 2 (some 124) (v := ?_) rfl rfl (by kernel_rfl) (fun _ _ _ h => h) rfl (fun x hx => ?_) ?_
          rotate_left 1
          · have hx0 := (hx.cell ⟨w.heap.size, 0, none⟩ hN).trans hc0; have hx3 := (hx.cell ⟨w.heap.size, 3, none⟩ hN).trans hc3; have hx4 := (hx.cell ⟨w.heap.size, 4, none⟩ hN).trans hc4; go_simp; first | done | with_reducible rfl | rw [if_neg (by omega)] | rw [if_pos (by omega)]
          simp only [Act.put, List.setIfInBounds_toArray, List.set_cons_zero, List.set_cons_succ]
          refine wpS_take 3 (some 125) (v := ?_) rfl rfl (by kernel_rfl) (fun _ _ _ h => h) rfl (fun x hx => ?_) ?_
          rotate_left 1
          · have hx0 := (hx.cell ⟨w.heap.size, 0, none⟩ hN).trans hc0; have hx3 := (hx.cell ⟨w.heap.size, 3, none⟩ hN).trans hc3; have hx4 := (hx.cell ⟨w.heap.size, 4, none⟩ hN).trans hc4; go_simp; first | done | with_reducible rfl | rw [if_neg (by omega)] | rw [if_pos (by omega)]
          simp only [Act.put, List.setIfInBounds_toArray, List.set_cons_zero, List.set_cons_succ]
          refine wpS_take 4 (some 126) (v := ?_) rfl rfl (by kernel_rfl) (fun _ _ _ h => h) rfl (fun x hx => ?_) ?_
          rotate_left 1
          · have hx0 := (hx.cell ⟨w.heap.size, 0, none⟩ hN).trans hc0; have hx3 := (hx.cell ⟨w.heap.size, 3, none⟩ hN).trans hc3; have hx4 := (hx.cell ⟨w.heap.size, 4, none⟩ hN).trans hc4; go_simp; first | done | with_reducible rfl | rw [if_neg (by omega)] | rw [if_pos (by omega)]
          simp only [Act.put, List.setIfInBounds_toArray, List.set_cons_zero, List.set_cons_succ]
          refine wpS_take 5 (some 127) (v := ?_) rfl rfl (by kernel_rfl) (fun _ _ _ h => h) rfl (fun x hx => ?_) ?_
          rotate_left 1
          · have hx0 := (hx.cell ⟨w.heap.size, 0, none⟩ hN).trans hc0; have hx3 := (hx.cell ⟨w.heap.size, 3, none⟩ hN).trans hc3; have hx4 := (hx.cell ⟨w.heap.size, 4, none⟩ hN).trans hc4; go_simp; first | done | with_reducible rfl | rw [if_neg (by omega)] | rw [if_pos (by omega)]
          simp only [Act.put, List.setIfInBounds_toArray, List.set_cons_zero, List.set_cons_succ]
          refine wpS_take 6 (some 128) (v := ?_) rfl rfl (by kernel_rfl) (fun _ _ _ h => h) rfl (fun x hx => ?_) ?_
          rotate_left 1
          · have hx0 := (hx.cell ⟨w.heap.size, 0, none⟩ hN).trans hc0; have hx3 := (hx.cell ⟨w.heap.size, 3, none⟩ hN).trans hc3; have hx4 := (hx.cell ⟨w.heap.size, 4, none⟩ hN).trans hc4; go_simp; first | done | with_reducible rfl | rw [if_neg (by omega)] | rw [if_pos (by omega)]
          simp only [Act.put, List.setIfInBounds_toArray, List.set_cons_zero, List.set_cons_succ]
          refine wpS_take 7 (some 129) (v := ?_) rfl rfl (by kernel_rfl) (fun _ _ _ h => h) rfl (fun x hx => ?_) ?_
          rotate_left 1
          · have hx0 := (hx.cell ⟨w.heap.size, 0, none⟩ hN).trans hc0; have hx3 := (hx.cell ⟨w.heap.size, 3, none⟩ hN).trans hc3; have hx4 := (hx.cell ⟨w.heap.size, 4, none⟩ hN).trans hc4; go_simp; first | done | with_reducible rfl | rw [if_neg (by omega)] | rw [if_pos (by omega)]
          simp only [Act.put, List.setIfInBounds_toArray, List.set_cons_zero, List.set_cons_succ]
          refine wpS_take 8 (some 130) (v := ?_) rfl rfl (by kernel_rfl) (fun _ _ _ h => h) rfl (fun x hx => ?_) ?_
          rotate_left 1
          · have hx0 := (hx.cell ⟨w.heap.size, 0, none⟩ hN).trans hc0; have hx3 := (hx.cell ⟨w.heap.size, 3, none⟩ hN).trans hc3; have hx4 := (hx.cell ⟨w.heap.size, 4, none⟩ hN).trans hc4; go_simp; first | done | with_reducible rfl | rw [if_neg (by omega)] | rw [if_pos (by omega)]
          simp only [Act.put, List.setIfInBounds_toArray, List.set_cons_zero, List.set_cons_succ]
          refine wpS_take 9 (some 131) (v := ?_) rfl rfl (by kernel_rfl) (fun _ _ _ h => h) rfl (fun x hx => ?_) ?_
          rotate_left 1
          · have hx0 := (hx.cell ⟨w.heap.size, 0, none⟩ hN).trans hc0; have hx3 := (hx.cell ⟨w.heap.size, 3, none⟩ hN).trans hc3; have hx4 := (hx.cell ⟨w.heap.size, 4, none⟩ hN).trans hc4; go_simp; first | done | with_reducible rfl | rw [if_neg (by omega)] | rw [if_pos (by omega)]
          simp only [Act.put, List.setIfInBounds_toArray, List.set_cons_zero, List.set_cons_succ]
          refine wpS_take 11 (some 133) (v := ?_) rfl rfl (by kernel_rfl) (fun _ _ _ h => h) rfl (fun x hx => ?_) ?_
          rotate_left 1
          · have hx0 := (hx.cell ⟨w.heap.size, 0, none⟩ hN).trans hc0; have hx3 := (hx.cell ⟨w.heap.size, 3, none⟩ hN).trans hc3; have hx4 := (hx.cell ⟨w.heap.size, 4, none⟩ hN).trans hc4; go_simp; first | done | with_reducible rfl | rw [if_neg (by omega)] | rw [if_pos (by omega)]
          simp only [Act.put, List.setIfInBounds_toArray, List.set_cons_zero, List.set_cons_succ]
          refine wpS_take 12 (some 134) (v := ?_) rfl rfl (by kernel_rfl) (fun _ _ _ h => h) rfl (fun x hx => ?_) ?_
          rotate_left 1
          · have hx0 := (hx.cell ⟨w.heap.size, 0, none⟩ hN).trans hc0; have hx3 := (hx.cell ⟨w.heap.size, 3, none⟩ hN).trans hc3; have hx4 := (hx.cell ⟨w.heap.size, 4, none⟩ hN).trans hc4; go_simp; first | done | with_reducible rfl | rw [if_neg (by omega)] | rw [if_pos (by omega)]
          simp only [Act.put, List.setIfInBounds_toArray, List.set_cons_zero, List.set_cons_succ]
          refine wpS_take 13 (some 135) (v := ?_) rfl rfl (by kernel_rfl) (fun _ _ _ h => h) rfl (fun x hx => ?_) ?_
          rotate_left 1
          · have hx0 := (hx.cell ⟨w.heap.size, 0, none⟩ hN).trans hc0; have hx3 := (hx.cell ⟨w.heap.size, 3, none⟩ hN).trans hc3; have hx4 := (hx.cell ⟨w.heap.size, 4, none⟩ hN).trans hc4; go_simp; first | done | with_reducible rfl | rw [if_neg (by omega)] | rw [if_pos (by omega)]
          simp only [Act.put, List.setIfInBounds_toArray, List.set_cons_zero, List.set_cons_succ]
          refine wpS_step 10 (by kernel_rfl) rfl ?_  -- call value (Go.Operand.func 73)
          go_wp2_with (go_at_call 73; refine (specHasByte_any lo hi (byteAt s k) _ hb0 hb1).mono ?_; rintro e w2 ⟨rfl, hb2⟩)
          refine ⟨hb2, ?_⟩
          replace hbel : Below w.heap.size w w2 := hbel.drew.trans (Below.mono hb2 hsz)
          replace hc0 : w2.cell? ⟨w.heap.size, 0, none⟩ = some (.int .i64 9) := (Later.cell hb2 _ hN).trans hc0
          replace hc3 : w2.cell? ⟨w.heap.size, 3, none⟩ = some (.int .i64 lo) := (Later.cell hb2 _ hN).trans hc3
          replace hc4 : w2.cell? ⟨w.heap.size, 4, none⟩ = some (.int .i64 hi) := (Later.cell hb2 _ hN).trans hc4
          replace hN : w.heap.size < w2.heap.size := Nat.lt_of_lt_of_le hN hb2.size
          replace hsz := hbel.size
          clear hb2
          refine wpS_take 14 (some 136) (v := ?_) rfl rfl (by kernel_rfl) (fun _ _ _ h => h) rfl (fun x hx => ?_) ?_
          rotate_left 1
          · have hx0 := (hx.cell ⟨w.heap.size, 0, none⟩ hN).trans hc0; have hx3 := (hx.cell ⟨w.heap.size, 3, none⟩ hN).trans hc3; have hx4 := (hx.cell ⟨w.heap.size, 4, none⟩ hN).trans hc4; go_simp; first | done | with_reducible rfl | rw [if_neg (by omega)] | rw [if_pos (by omega)]
          simp only [Act.put, List.setIfInBounds_toArray, List.set_cons_zero, List.set_cons_succ]
          refine wpS_take 15 (some 137) (v := ?_) rfl rfl (by kernel_rfl) (fun _ _ _ h => h) rfl (fun x hx => ?_) ?_
          rotate_left 1
          · have hx0 := (hx.cell ⟨w.heap.size, 0, none⟩ hN).trans hc0; have hx3 := (hx.cell ⟨w.heap.size, 3, none⟩ hN).trans hc3; have hx4 := (hx.cell ⟨w.heap.size, 4, none⟩ hN).trans hc4; go_simp; first | done | with_reducible rfl | rw [if_neg (by omega)] | rw [if_pos (by omega)]
          simp only [Act.put, List.setIfInBounds_toArray, List.set_cons_zero, List.set_cons_succ]
          refine wpS_tail 16 0 _ rfl (by kernel_rfl) rfl ?_
          simp only [List.drop_succ_cons, List.drop_zero]
          refine wpList_nil ?_
          go_wp2_with fail
          go_ret
          have hr2 := HR.out
          exact ⟨ret_int (by rw [HV.out, if_pos (by omega)]; simp [endInt]; omega), hbel⟩
        · have hpos' : ¬ (p : Int) < k := by omega
          go_wp2_with fail
          -- region 27: 16 operations, the tail from 16 on
          refine wpS_begin 16 (by kernel_rfl) (fun w1 hw1 => ?_)
          subst hw1
          refine wpS_take 0 (some 122) (v := ?_) rfl rfl (by kernel_rfl) (fun _ _ _ h => h) rfl (fun x hx => ?_) ?_
          rotate_left 1
          · have hx0 := (hx.cell ⟨w.heap.size, 0, none⟩ hN).trans hc0; have hx3 := (hx.cell ⟨w.heap.size, 3, none⟩ hN).trans hc3; have hx4 := (hx.cell ⟨w.heap.size, 4, none⟩ hN).trans hc4; go_simp; first | done | with_reducible rfl | rw [if_neg (by omega)] | rw [if_pos (by omega)]
          simp only [Act.put, List.setIfInBounds_toArray, List.set_cons_zero, List.set_cons_succ]
          refine wpS_take 1 (some 123) (v := ?_) rfl rfl (by kernel_rfl) (fun _ _ _ h => h) rfl (fun x hx => ?_) ?_
          rotate_left 1
          · have hx0 := (hx.cell ⟨w.heap.size, 0, none⟩ hN).trans hc0; have hx3 := (hx.cell ⟨w.heap.size, 3, none⟩ hN).trans hc3; have hx4 := (hx.cell ⟨w.heap.size, 4, none⟩ hN).trans hc4; go_simp; first | done | with_reducible rfl | rw [if_neg (by omega)] | rw [if_pos (by omega)]
          simp only [Act.put, List.setIfInBounds_toArray, List.set_cons_zero, List.set_cons_succ]
          refine wpS_take 2 (some 124) (v := ?_) rfl rfl (by kernel_rfl) (fun _ _ _ h => h) rfl (fun x hx => ?_) ?_
          rotate_left 1
          · have hx0 := (hx.cell ⟨w.heap.size, 0, none⟩ hN).trans hc0; have hx3 := (hx.cell ⟨w.heap.size, 3, none⟩ hN).trans hc3; have hx4 := (hx.cell ⟨w.heap.size, 4, none⟩ hN).trans hc4; go_simp; first | done | with_reducible rfl | rw [if_neg (by omega)] | rw [if_pos (by omega)]
          simp only [Act.put, List.setIfInBounds_toArray, List.set_cons_zero, List.set_cons_succ]
          refine wpS_take 3 (some 125) (v := ?_) rfl rfl (by kernel_rfl) (fun _ _ _ h => h) rfl (fun x hx => ?_) ?_
          rotate_left 1
          · have hx0 := (hx.cell ⟨w.heap.size, 0, none⟩ hN).trans hc0; have hx3 := (hx.cell ⟨w.heap.size, 3, none⟩ hN).trans hc3; have hx4 := (hx.cell ⟨w.heap.size, 4, none⟩ hN).trans hc4; go_simp; first | done | with_reducible rfl | rw [if_neg (by omega)] | rw [if_pos (by omega)]
          simp only [Act.put, List.setIfInBounds_toArray, List.set_cons_zero, List.set_cons_succ]
          refine wpS_take 4 (some 126) (v := ?_) rfl rfl (by kernel_rfl) (fun _ _ _ h => h) rfl (fun x hx => ?_) ?_
          rotate_left 1
          · have hx0 := (hx.cell ⟨w.heap.size, 0, none⟩ hN).trans hc0; have hx3 := (hx.cell ⟨w.heap.size, 3, none⟩ hN).trans hc3; have hx4 := (hx.cell ⟨w.heap.size, 4, none⟩ hN).trans hc4; go_simp; first | done | with_reducible rfl | rw [if_neg (by omega)] | rw [if_pos (by omega)]
          simp only [Act.put, List.setIfInBounds_toArray, List.set_cons_zero, List.set_cons_succ]
          refine wpS_take 5 (some 127) (v := ?_) rfl rfl (by kernel_rfl) (fun _ _ _ h => h) rfl (fun x hx => ?_) ?_
          rotate_left 1
          · have hx0 := (hx.cell ⟨w.heap.size, 0, none⟩ hN).trans hc0; have hx3 := (hx.cell ⟨w.heap.size, 3, none⟩ hN).trans hc3; have hx4 := (hx.cell ⟨w.heap.size, 4, none⟩ hN).trans hc4; go_simp; first | done | with_reducible rfl | rw [if_neg (by omega)] | rw [if_pos (by omega)]
          simp only [Act.put, List.setIfInBounds_toArray, List.set_cons_zero, List.set_cons_succ]
          refine wpS_take 6 (some 128) (v := ?_) rfl rfl (by kernel_rfl) (fun _ _ _ h => h) rfl (fun x hx => ?_) ?_
          rotate_left 1
          · have hx0 := (hx.cell ⟨w.heap.size, 0, none⟩ hN).trans hc0; have hx3 := (hx.cell ⟨w.heap.size, 3, none⟩ hN).trans hc3; have hx4 := (hx.cell ⟨w.heap.size, 4, none⟩ hN).trans hc4; go_simp; first | done | with_reducible rfl | rw [if_neg (by omega)] | rw [if_pos (by omega)]
          simp only [Act.put, List.setIfInBounds_toArray, List.set_cons_zero, List.set_cons_succ]
          refine wpS_take 7 (some 129) (v := ?_) rfl rfl (by kernel_rfl) (fun _ _ _ h => h) rfl (fun x hx => ?_) ?_
          rotate_left 1
          · have hx0 := (hx.cell ⟨w.heap.size, 0, none⟩ hN).trans hc0; have hx3 := (hx.cell ⟨w.heap.size, 3, none⟩ hN).trans hc3; have hx4 := (hx.cell ⟨w.heap.size, 4, none⟩ hN).trans hc4; go_simp; first | done | with_reducible rfl | rw [if_neg (by omega)] | rw [if_pos (by omega)]
          simp only [Act.put, List.setIfInBounds_toArray, List.set_cons_zero, List.set_cons_succ]
          refine wpS_take 8 (some 130) (v := ?_) rfl rfl (by kernel_rfl) (fun _ _ _ h => h) rfl (fun x hx => ?_) ?_
          rotate_left 1
          · have hx0 := (hx.cell ⟨w.heap.size, 0, none⟩ hN).trans hc0; have hx3 := (hx.cell ⟨w.heap.size, 3, none⟩ hN).trans hc3; have hx4 := (hx.cell ⟨w.heap.size, 4, none⟩ hN).trans hc4; go_simp; first | done | with_reducible rfl | rw [if_neg (by omega)] | rw [if_pos (by omega)]
          simp only [Act.put, List.setIfInBounds_toArray, List.set_cons_zero, List.set_cons_succ]
          refine wpS_take 9 (some 131) (v := ?_) rfl rfl (by kernel_rfl) (fun _ _ _ h => h) rfl (fun x hx => ?_) ?_
          rotate_left 1
          · have hx0 := (hx.cell ⟨w.heap.size, 0, none⟩ hN).trans hc0; have hx3 := (hx.cell ⟨w.heap.size, 3, none⟩ hN).trans hc3; have hx4 := (hx.cell ⟨w.heap.size, 4, none⟩ hN).trans hc4; go_simp; first | done | with_reducible rfl | rw [if_neg (by omega)] | rw [if_pos (by omega)]
          simp only [Act.put, List.setIfInBounds_toArray, List.set_cons_zero, List.set_cons_succ]
          refine wpS_take 11 (some 133) (v := ?_) rfl rfl (by kernel_rfl) (fun _ _ _ h => h) rfl (fun x hx => ?_) ?_
          rotate_left 1
          · have hx0 := (hx.cell ⟨w.heap.size, 0, none⟩ hN).trans hc0; have hx3 := (hx.cell ⟨w.heap.size, 3, none⟩ hN).trans hc3; have hx4 := (hx.cell ⟨w.heap.size, 4, none⟩ hN).trans hc4; go_simp; first | done | with_reducible rfl | rw [if_neg (by omega)] | rw [if_pos (by omega)]
          simp only [Act.put, List.setIfInBounds_toArray, List.set_cons_zero, List.set_cons_succ]
          refine wpS_take 12 (some 134) (v := ?_) rfl rfl (by kernel_rfl) (fun _ _ _ h => h) rfl (fun x hx => ?_) ?_
          rotate_left 1
          · have hx0 := (hx.cell ⟨w.heap.size, 0, none⟩ hN).trans hc0; have hx3 := (hx.cell ⟨w.heap.size, 3, none⟩ hN).trans hc3; have hx4 := (hx.cell ⟨w.heap.size, 4, none⟩ hN).trans hc4; go_simp; first | done | with_reducible rfl | rw [if_neg (by omega)] | rw [if_pos (by omega)]
          simp only [Act.put, List.setIfInBounds_toArray, List.set_cons_zero, List.set_cons_succ]
          refine wpS_take 13 (some 135) (v := ?_) rfl rfl (by kernel_rfl) (fun _ _ _ h => h) rfl (fun x hx => ?_) ?_
          rotate_left 1
          · have hx0 := (hx.cell ⟨w.heap.size, 0, none⟩ hN).trans hc0; have hx3 := (hx.cell ⟨w.heap.size, 3, none⟩ hN).trans hc3; have hx4 := (hx.cell ⟨w.heap.size, 4, none⟩ hN).trans hc4; go_simp; first | done | with_reducible rfl | rw [if_neg (by omega)] | rw [if_pos (by omega)]
          simp only [Act.put, List.setIfInBounds_toArray, List.set_cons_zero, List.set_cons_succ]
          refine wpS_step 10 (by kernel_rfl) rfl ?_  -- call value (Go.Operand.func 73)
          go_wp2_with (go_at_call 73; refine (specHasByte_any lo hi (byteAt s k) _ hb0 hb1).mono ?_; rintro e w2 ⟨rfl, hb2⟩)
          refine ⟨hb2, ?_⟩
          replace hbel : Below w.heap.size w w2 := hbel.drew.trans (Below.mono hb2 hsz)
          replace hc0 : w2.cell? ⟨w.heap.size, 0, none⟩ = some (.int .i64 9) := (Later.cell hb2 _ hN).trans hc0
          replace hc3 : w2.cell? ⟨w.heap.size, 3, none⟩ = some (.int .i64 lo) := (Later.cell hb2 _ hN).trans hc3
          replace hc4 : w2.cell? ⟨w.heap.size, 4, none⟩ = some (.int .i64 hi) := (Later.cell hb2 _ hN).trans hc4
          replace hN : w.heap.size < w2.heap.size := Nat.lt_of_lt_of_le hN hb2.size
          replace hsz := hbel.size
          clear hb2
          refine wpS_take 14 (some 136) (v := ?_) rfl rfl (by kernel_rfl) (fun _ _ _ h => h) rfl (fun x hx => ?_) ?_
          rotate_left 1
          · have hx0 := (hx.cell ⟨w.heap.size, 0, none⟩ hN).trans hc0; have hx3 := (hx.cell ⟨w.heap.size, 3, none⟩ hN).trans hc3; have hx4 := (hx.cell ⟨w.heap.size, 4, none⟩ hN).trans hc4; go_simp; first | done | with_reducible rfl | rw [if_neg (by omega)] | rw [if_pos (by omega)]
          simp only [Act.put, List.setIfInBounds_toArray, List.set_cons_zero, List.set_cons_succ]
          refine wpS_take 15 (some 137) (v := ?_) rfl rfl (by kernel_rfl) (fun _ _ _ h => h) rfl (fun x hx => ?_) ?_
          rotate_left 1
          · have hx0 := (hx.cell ⟨w.heap.size, 0, none⟩ hN).trans hc0; have hx3 := (hx.cell ⟨w.heap.size, 3, none⟩ hN).trans hc3; have hx4 := (hx.cell ⟨w.heap.size, 4, none⟩ hN).trans hc4; go_simp; first | done | with_reducible rfl | rw [if_neg (by omega)] | rw [if_pos (by omega)]
          simp only [Act.put, List.setIfInBounds_toArray, List.set_cons_zero, List.set_cons_succ]
          refine wpS_tail 16 0 _ rfl (by kernel_rfl) rfl ?_
          simp only [List.drop_succ_cons, List.drop_zero]
          refine wpList_nil ?_
          go_wp2_with fail
          go_ret
          have hr2 := HR.out
          exact ⟨ret_int (by rw [HV.out, if_neg (by omega)]; rfl), hbel⟩
    · have HR := Lib.hid (run_all hk0 (by omega) hrun)
      have hg' : decide ((k : Int) < s.size) = false := by simp; omega
      by_cases hpos : p < k
      · have hpos' : (p : Int) < k := by omega
        go_wp2_with fail
        go_quiet (fail)
        go_wp2_with fail
        go_ret
        have hr2 := HR.out
        exact ⟨ret_int (by rw [HV.out, if_pos (by omega)]; simp [endInt]; omega), below_drewN' hbel _⟩
      · have hpos' : ¬ (p : Int) < k := by omega
        go_wp2_with fail
        go_quiet (fail)
        go_wp2_with fail
        go_ret
        have hr2 := HR.out
        exact ⟨ret_int (by rw [HV.out, if_neg (by omega)]; rfl), below_drewN' hbel _⟩

set_option maxRecDepth 100000 in
set_option maxHeartbeats 4000000 in
theorem one_10 (hs : s.size ≤ 120) (hp : p ≤ s.size) :
    Calls Try.prog 82 #[patV 10 text num lo hi (.slice A n c), .string s, .int .i64 p] w fun e w' => e = .returned (.int .i64 (endInt (oneEnd 10 text num lo hi s p))) ∧ Below w.heap.size w w' := by
  have HV := Lib.hid (show oneEnd 10 text num lo hi s p = if p + runOf lo hi false (s.data.toList.drop p) < s.size then some (p + runOf lo hi false (s.data.toList.drop p)) else none from rfl)
  go_enter Try.func82, Try.ntmps82
  go_wp2_with fail
  go_loopw [7] (fun v wr => ∃ k : Nat, p ≤ k ∧ k ≤ s.size ∧ v = .int .i64 k ∧ k - p ≤ runOf lo hi false (s.data.toList.drop p) ∧ w.heap.size < wr.heap.size ∧ wr.cell? ⟨w.heap.size, 0, none⟩ = some (.int .i64 10) ∧ wr.cell? ⟨w.heap.size, 3, none⟩ = some (.int .i64 lo) ∧ wr.cell? ⟨w.heap.size, 4, none⟩ = some (.int .i64 hi) ∧ Below w.heap.size w wr) (fun v _ => s.size - (intOf v).toNat)
  case atStart =>
    refine ⟨p, Nat.le_refl _, hp, rfl, by omega, by simp, ?_, ?_, ?_, (Below.refl _ _).alloc (Nat.le_refl _) _⟩
    · exact cell_of_row _ w.heap.size 0 _ _ _ (heap_alloc_new w _)
    · exact cell_of_row _ w.heap.size 3 _ _ _ (heap_alloc_new w _)
    · exact cell_of_row _ w.heap.size 4 _ _ _ (heap_alloc_new w _)
  case round =>
    obtain ⟨k, hk0, hk1, rfl, hrun, hN, hc0, hc3, hc4, hbel⟩ := hrel
    have hsz := hbel.size
    by_cases hg : k < s.size
    · have hg' : (k : Int) < s.size := by omega
      have hg3 : (0 : Int) ≤ (k : Int) := by omega
      have hby : (s[k].toNat : Int) = byteAt s k := byteAt_eq s k hg
      have hb0 : 0 ≤ byteAt s k := byteAt_bd s k |>.1
      have hb1 : byteAt s k < 256 := byteAt_bd s k |>.2
      cases hv : hb lo hi (byteAt s k)
      case false =>
        have hr2 := run_more hk0 hg hrun hv
        go_wp2_with fail
        -- region 27: 16 operations, the tail from 16 on
        refine wpS_begin 16 (by kernel_rfl) (fun w1 hw1 => ?_)
        subst hw1
        refine wpS_take 0 (some 122) (v := ?_) rfl rfl (by kernel_rfl) (fun _ _ _ h => h) rfl (fun x hx => ?_) ?_
        rotate_left 1
        · have hx0 := (hx.cell ⟨w.heap.size, 0, none⟩ hN).trans hc0; have hx3 := (hx.cell ⟨w.heap.size, 3, none⟩ hN).trans hc3; have hx4 := (hx.cell ⟨w.heap.size, 4, none⟩ hN).trans hc4; go_simp; first | done | with_reducible rfl | rw [if_neg (by omega)] | rw [if_pos (by omega)]
        simp only [Act.put, List.setIfInBounds_toArray, List.set_cons_zero, List.set_cons_succ]
        refine wpS_take 1 (some 123) (v := ?_) rfl rfl (by kernel_rfl) (fun _ _ _ h => h) rfl (fun x hx => ?_) ?_
        rotate_left 1
        · have hx0 := (hx.cell ⟨w.heap.size, 0, none⟩ hN).trans hc0; have hx3 := (hx.cell ⟨w.heap.size, 3, none⟩ hN).trans hc3; have hx4 := (hx.cell ⟨w.heap.size, 4, none⟩ hN).trans hc4; go_simp; first | done | with_reducible rfl | rw [if_neg (by omega)] | rw [if_pos (by omega)]
        simp only [Act.put, List.setIfInBounds_toArray, List.set_cons_zero, List.set_cons_succ]
        refine wpS_take 2 (some 124) (v := ?_) rfl rfl (by kernel_rfl) (fun _ _ _ h => h) rfl (fun x hx => ?_) ?_
        rotate_left 1
        · have hx0 := (hx.cell ⟨w.heap.size, 0, none⟩ hN).trans hc0; have hx3 := (hx.cell ⟨w.heap.size, 3, none⟩ hN).trans hc3; have hx4 := (hx.cell ⟨w.heap.size, 4, none⟩ hN).trans hc4; go_simp; first | done | with_reducible rfl | rw [if_neg (by omega)] | rw [if_pos (by omega)]
        simp only [Act.put, List.setIfInBounds_toArray, List.set_cons_zero, List.set_cons_succ]
        refine wpS_take 3 (some 125) (v := ?_) rfl rfl (by kernel_rfl) (fun _ _ _ h => h) rfl (fun x hx => ?_) ?_
        rotate_left 1
        · have hx0 := (hx.cell ⟨w.heap.size, 0, none⟩ hN).trans hc0; have hx3 := (hx.cell ⟨w.heap.size, 3, none⟩ hN).trans hc3; have hx4 := (hx.cell ⟨w.heap.size, 4, none⟩ hN).trans hc4; go_simp; first | done | with_reducible rfl | rw [if_neg (by omega)] | rw [if_pos (by omega)]
        simp only [Act.put, List.setIfInBounds_toArray, List.set_cons_zero, List.set_cons_succ]
        refine wpS_take 4 (some 126) (v := ?_) rfl rfl (by kernel_rfl) (fun _ _ _ h => h) rfl (fun x hx => ?_) ?_
        rotate_left 1
        · have hx0 := (hx.cell ⟨w.heap.size, 0, none⟩ hN).trans hc0; have hx3 := (hx.cell ⟨w.heap.size, 3, none⟩ hN).trans hc3; have hx4 := (hx.cell ⟨w.heap.size, 4, none⟩ hN).trans hc4; go_simp; first | done | with_reducible rfl | rw [if_neg (by omega)] | rw [if_pos (by omega)]
        simp only [Act.put, List.setIfInBounds_toArray, List.set_cons_zero, List.set_cons_succ]
        refine wpS_take 5 (some 127) (v := ?_) rfl rfl (by kernel_rfl) (fun _ _ _ h => h) rfl (fun x hx => ?_) ?_
        rotate_left 1
        · have hx0 := (hx.cell ⟨w.heap.size, 0, none⟩ hN).trans hc0; have hx3 := (hx.cell ⟨w.heap.size, 3, none⟩ hN).trans hc3; have hx4 := (hx.cell ⟨w.heap.size, 4, none⟩ hN).trans hc4; go_simp; first | done | with_reducible rfl | rw [if_neg (by omega)] | rw [if_pos (by omega)]
        simp only [Act.put, List.setIfInBounds_toArray, List.set_cons_zero, List.set_cons_succ]
        refine wpS_take 6 (some 128) (v := ?_) rfl rfl (by kernel_rfl) (fun _ _ _ h => h) rfl (fun x hx => ?_) ?_
        rotate_left 1
        · have hx0 := (hx.cell ⟨w.heap.size, 0, none⟩ hN).trans hc0; have hx3 := (hx.cell ⟨w.heap.size, 3, none⟩ hN).trans hc3; have hx4 := (hx.cell ⟨w.heap.size, 4, none⟩ hN).trans hc4; go_simp; first | done | with_reducible rfl | rw [if_neg (by omega)] | rw [if_pos (by omega)]
        simp only [Act.put, List.setIfInBounds_toArray, List.set_cons_zero, List.set_cons_succ]
        refine wpS_take 7 (some 129) (v := ?_) rfl rfl (by kernel_rfl) (fun _ _ _ h => h) rfl (fun x hx => ?_) ?_
        rotate_left 1
        · have hx0 := (hx.cell ⟨w.heap.size, 0, none⟩ hN).trans hc0; have hx3 := (hx.cell ⟨w.heap.size, 3, none⟩ hN).trans hc3; have hx4 := (hx.cell ⟨w.heap.size, 4, none⟩ hN).trans hc4; go_simp; first | done | with_reducible rfl | rw [if_neg (by omega)] | rw [if_pos (by omega)]
        simp only [Act.put, List.setIfInBounds_toArray, List.set_cons_zero, List.set_cons_succ]
        refine wpS_take 8 (some 130) (v := ?_) rfl rfl (by kernel_rfl) (fun _ _ _ h => h) rfl (fun x hx => ?_) ?_
        rotate_left 1
        · have hx0 := (hx.cell ⟨w.heap.size, 0, none⟩ hN).trans hc0; have hx3 := (hx.cell ⟨w.heap.size, 3, none⟩ hN).trans hc3; have hx4 := (hx.cell ⟨w.heap.size, 4, none⟩ hN).trans hc4; go_simp; first | done | with_reducible rfl | rw [if_neg (by omega)] | rw [if_pos (by omega)]
        simp only [Act.put, List.setIfInBounds_toArray, List.set_cons_zero, List.set_cons_succ]
        refine wpS_take 9 (some 131) (v := ?_) rfl rfl (by kernel_rfl) (fun _ _ _ h => h) rfl (fun x hx => ?_) ?_
        rotate_left 1
        · have hx0 := (hx.cell ⟨w.heap.size, 0, none⟩ hN).trans hc0; have hx3 := (hx.cell ⟨w.heap.size, 3, none⟩ hN).trans hc3; have hx4 := (hx.cell ⟨w.heap.size, 4, none⟩ hN).trans hc4; go_simp; first | done | with_reducible rfl | rw [if_neg (by omega)] | rw [if_pos (by omega)]
        simp only [Act.put, List.setIfInBounds_toArray, List.set_cons_zero, List.set_cons_succ]
        refine wpS_take 11 (some 133) (v := ?_) rfl rfl (by kernel_rfl) (fun _ _ _ h => h) rfl (fun x hx => ?_) ?_
        rotate_left 1
        · have hx0 := (hx.cell ⟨w.heap.size, 0, none⟩ hN).trans hc0; have hx3 := (hx.cell ⟨w.heap.size, 3, none⟩ hN).trans hc3; have hx4 := (hx.cell ⟨w.heap.size, 4, none⟩ hN).trans hc4; go_simp; first | done | with_reducible rfl | rw [if_neg (by omega)] | rw [if_pos (by omega)]
        simp only [Act.put, List.setIfInBounds_toArray, List.set_cons_zero, List.set_cons_succ]
        refine wpS_take 12 (some 134) (v := ?_) rfl rfl (by kernel_rfl) (fun _ _ _ h => h) rfl (fun x hx => ?_) ?_
        rotate_left 1
        · have hx0 := (hx.cell ⟨w.heap.size, 0, none⟩ hN).trans hc0; have hx3 := (hx.cell ⟨w.heap.size, 3, none⟩ hN).trans hc3; have hx4 := (hx.cell ⟨w.heap.size, 4, none⟩ hN).trans hc4; go_simp; first | done | with_reducible rfl | rw [if_neg (by omega)] | rw [if_pos (by omega)]
        simp only [Act.put, List.setIfInBounds_toArray, List.set_cons_zero, List.set_cons_succ]
        refine wpS_take 13 (some 135) (v := ?_) rfl rfl (by kernel_rfl) (fun _ _ _ h => h) rfl (fun x hx => ?_) ?_
        rotate_left 1
        · have hx0 := (hx.cell ⟨w.heap.size, 0, none⟩ hN).trans hc0; have hx3 := (hx.cell ⟨w.heap.size, 3, none⟩ hN).trans hc3; have hx4 := (hx.cell ⟨w.heap.size, 4, none⟩ hN).trans hc4; go_simp; first | done | with_reducible rfl | rw [if_neg (by omega)] | rw [if_pos (by omega)]
        simp only [Act.put, List.setIfInBounds_toArray, List.set_cons_zero, List.set_cons_succ]
        refine wpS_step 10 (by kernel_rfl) rfl ?_  -- call value (Go.Operand.func 73)
        go_wp2_with (go_at_call 73; refine (specHasByte_any lo hi (byteAt s k) _ hb0 hb1).mono ?_; rintro e w2 ⟨rfl, hb2⟩)
        refine ⟨hb2, ?_⟩
        replace hbel : Below w.heap.size w w2 := hbel.drew.trans (Below.mono hb2 hsz)
        replace hc0 : w2.cell? ⟨w.heap.size, 0, none⟩ = some (.int .i64 10) := (Later.cell hb2 _ hN).trans hc0
        replace hc3 : w2.cell? ⟨w.heap.size, 3, none⟩ = some (.int .i64 lo) := (Later.cell hb2 _ hN).trans hc3
        replace hc4 : w2.cell? ⟨w.heap.size, 4, none⟩ = some (.int .i64 hi) := (Later.cell hb2 _ hN).trans hc4
        replace hN : w.heap.size < w2.heap.size := Nat.lt_of_lt_of_le hN hb2.size
        replace hsz := hbel.size
        clear hb2
        refine wpS_take 14 (some 136) (v := ?_) rfl rfl (by kernel_rfl) (fun _ _ _ h => h) rfl (fun x hx => ?_) ?_
        rotate_left 1
        · have hx0 := (hx.cell ⟨w.heap.size, 0, none⟩ hN).trans hc0; have hx3 := (hx.cell ⟨w.heap.size, 3, none⟩ hN).trans hc3; have hx4 := (hx.cell ⟨w.heap.size, 4, none⟩ hN).trans hc4; go_simp; first | done | with_reducible rfl | rw [if_neg (by omega)] | rw [if_pos (by omega)]
        simp only [Act.put, List.setIfInBounds_toArray, List.set_cons_zero, List.set_cons_succ]
        refine wpS_take 15 (some 137) (v := ?_) rfl rfl (by kernel_rfl) (fun _ _ _ h => h) rfl (fun x hx => ?_) ?_
        rotate_left 1
        · have hx0 := (hx.cell ⟨w.heap.size, 0, none⟩ hN).trans hc0; have hx3 := (hx.cell ⟨w.heap.size, 3, none⟩ hN).trans hc3; have hx4 := (hx.cell ⟨w.heap.size, 4, none⟩ hN).trans hc4; go_simp; first | done | with_reducible rfl | rw [if_neg (by omega)] | rw [if_pos (by omega)]
        simp only [Act.put, List.setIfInBounds_toArray, List.set_cons_zero, List.set_cons_succ]
        refine wpS_tail 16 0 _ rfl (by kernel_rfl) rfl ?_
        simp only [List.drop_succ_cons, List.drop_zero]
        refine wpList_nil ?_
        go_wp2_with fail
        go_roundw
        case rel => exact ⟨k + 1, by omega, by omega, by go_num, hr2, hN, hc0, hc3, hc4, hbel⟩
        case measure => simp [intOf]; omega
      case true =>
        have HR := Lib.hid (run_end hk0 hg hrun hv)
        go_wp2_with fail
        -- region 27: 16 operations, the tail from 16 on
        refine wpS_begin 16 (by kernel_rfl) (fun w1 hw1 => ?_)
        subst hw1
        refine wpS_take 0 (some 122) (v := ?_) rfl rfl (by kernel_rfl) (fun _ _ _ h => h) rfl (fun x hx => ?_) ?_
        rotate_left 1
        · have hx0 := (hx.cell ⟨w.heap.size, 0, none⟩ hN).trans hc0; have hx3 := (hx.cell ⟨w.heap.size, 3, none⟩ hN).trans hc3; have hx4 := (hx.cell ⟨w.heap.size, 4, none⟩ hN).trans hc4; go_simp; first | done | with_reducible rfl | rw [if_neg (by omega)] | rw [if_pos (by omega)]
        simp only [Act.put, List.setIfInBounds_toArray, List.set_cons_zero, List.set_cons_succ]
        refine wpS_take 1 (some 123) (v := ?_) rfl rfl (by kernel_rfl) (fun _ _ _ h => h) rfl (fun x hx => ?_) ?_
        rotate_left 1
        · have hx0 := (hx.cell ⟨w.heap.size, 0, none⟩ hN).trans hc0; have hx3 := (hx.cell ⟨w.heap.size, 3, none⟩ hN).trans hc3; have hx4 := (hx.cell ⟨w.heap.size, 4, none⟩ hN).trans hc4; go_simp; first | done | with_reducible rfl | rw [if_neg (by omega)] | rw [if_pos (by omega)]
        simp only [Act.put, List.setIfInBounds_toArray, List.set_cons_zero, List.set_cons_succ]
        refine wpS_take 2 (some 124) (v := ?_) rfl rfl (by kernel_rfl) (fun _ _ _ h => h) rfl (fun x hx => ?_) ?_
        rotate_left 1
        · have hx0 := (hx.cell ⟨w.heap.size, 0, none⟩ hN).trans hc0; have hx3 := (hx.cell ⟨w.heap.size, 3, none⟩ hN).trans hc3; have hx4 := (hx.cell ⟨w.heap.size, 4, none⟩ hN).trans hc4; go_simp; first | done | with_reducible rfl | rw [if_neg (by omega)] | rw [if_pos (by omega)]
        simp only [Act.put, List.setIfInBounds_toArray, List.set_cons_zero, List.set_cons_succ]
        refine wpS_take 3 (some 125) (v := ?_) rfl rfl (by kernel_rfl) (fun _ _ _ h => h) rfl (fun x hx => ?_) ?_
        rotate_left 1
        · have hx0 := (hx.cell ⟨w.heap.size, 0, none⟩ hN).trans hc0; have hx3 := (hx.cell ⟨w.heap.size, 3, none⟩ hN).trans hc3; have hx4 := (hx.cell ⟨w.heap.size, 4, none⟩ hN).trans hc4; go_simp; first | done | with_reducible rfl | rw [if_neg (by omega)] | rw [if_pos (by omega)]
        simp only [Act.put, List.setIfInBounds_toArray, List.set_cons_zero, List.set_cons_succ]
        refine wpS_take 4 (some 126) (v := ?_) rfl rfl (by kernel_rfl) (fun _ _ _ h => h) rfl (fun x hx => ?_) ?_
        rotate_left 1
        · have hx0 := (hx.cell ⟨w.heap.size, 0, none⟩ hN).trans hc0; have hx3 := (hx.cell ⟨w.heap.size, 3, none⟩ hN).trans hc3; have hx4 := (hx.cell ⟨w.heap.size, 4, none⟩ hN).trans hc4; go_simp; first | done | with_reducible rfl | rw [if_neg (by omega)] | rw [if_pos (by omega)]
        simp only [Act.put, List.setIfInBounds_toArray, List.set_cons_zero, List.set_cons_succ]
        refine wpS_take 5 (some 127) (v := ?_) rfl rfl (by kernel_rfl) (fun _ _ _ h => h) rfl (fun x hx => ?_) ?_
        rotate_left 1
        · have hx0 := (hx.cell ⟨w.heap.size, 0, none⟩ hN).trans hc0; have hx3 := (hx.cell ⟨w.heap.size, 3, none⟩ hN).trans hc3; have hx4 := (hx.cell ⟨w.heap.size, 4, none⟩ hN).trans hc4; go_simp; first | done | with_reducible rfl | rw [if_neg (by omega)] | rw [if_pos (by omega)]
        simp only [Act.put, List.setIfInBounds_toArray, List.set_cons_zero, List.set_cons_succ]
        refine wpS_take 6 (some 128) (v := ?_) rfl rfl (by kernel_rfl) (fun _ _ _ h => h) rfl (fun x hx => ?_) ?_
        rotate_left 1
        · have hx0 := (hx.cell ⟨w.heap.size, 0, none⟩ hN).trans hc0; have hx3 := (hx.cell ⟨w.heap.size, 3, none⟩ hN).trans hc3; have hx4 := (hx.cell ⟨w.heap.size, 4, none⟩ hN).trans hc4; go_simp; first | done | with_reducible rfl | rw [if_neg (by omega)] | rw [if_pos (by omega)]
        simp only [Act.put, List.setIfInBounds_toArray, List.set_cons_zero, List.set_cons_succ]
        refine wpS_take 7 (some 129) (v := ?_) rfl rfl (by kernel_rfl) (fun _ _ _ h => h) rfl (fun x hx => ?_) ?_
        rotate_left 1
        · have hx0 := (hx.cell ⟨w.heap.size, 0, none⟩ hN).trans hc0; have hx3 := (hx.cell ⟨w.heap.size, 3, none⟩ hN).trans hc3; have hx4 := (hx.cell ⟨w.heap.size, 4, none⟩ hN).trans hc4; go_simp; first | done | with_reducible rfl | rw [if_neg (by omega)] | rw [if_pos (by omega)]
        simp only [Act.put, List.setIfInBounds_toArray, List.set_cons_zero, List.set_cons_succ]
        refine wpS_take 8 (some 130) (v := ?_) rfl rfl (by kernel_rfl) (fun _ _ _ h => h) rfl (fun x hx => ?_) ?_
        rotate_left 1
        · have hx0 := (hx.cell ⟨w.heap.size, 0, none⟩ hN).trans hc0; have hx3 := (hx.cell ⟨w.heap.size, 3, none⟩ hN).trans hc3; have hx4 := (hx.cell ⟨w.heap.size, 4, none⟩ hN).trans hc4; go_simp; first | done | with_reducible rfl | rw [if_neg (by omega)] | rw [if_pos (by omega)]
        simp only [Act.put, List.setIfInBounds_toArray, List.set_cons_zero, List.set_cons_succ]
        refine wpS_take 9 (some 131) (v := ?_) rfl rfl (by kernel_rfl) (fun _ _ _ h => h) rfl (fun x hx => ?_) ?_
        rotate_left 1
        · have hx0 := (hx.cell ⟨w.heap.size, 0, none⟩ hN).trans hc0; have hx3 := (hx.cell ⟨w.heap.size, 3, none⟩ hN).trans hc3; have hx4 := (hx.cell ⟨w.heap.size, 4, none⟩ hN).trans hc4; go_simp; first | done | with_reducible rfl | rw [if_neg (by omega)] | rw [if_pos (by omega)]
        simp only [Act.put, List.setIfInBounds_toArray, List.set_cons_zero, List.set_cons_succ]
        refine wpS_take 11 (some 133) (v := ?_) rfl rfl (by kernel_rfl) (fun _ _ _ h => h) rfl (fun x hx => ?_) ?_
        rotate_left 1
        · have hx0 := (hx.cell ⟨w.heap.size, 0, none⟩ hN).trans hc0; have hx3 := (hx.cell ⟨w.heap.size, 3, none⟩ hN).trans hc3; have hx4 := (hx.cell ⟨w.heap.size, 4, none⟩ hN).trans hc4; go_simp; first | done | with_reducible rfl | rw [if_neg (by omega)] | rw [if_pos (by omega)]
        simp only [Act.put, List.setIfInBounds_toArray, List.set_cons_zero, List.set_cons_succ]
        refine wpS_take 12 (some 134) (v := ?_) rfl rfl (by kernel_rfl) (fun _ _ _ h => h) rfl (fun x hx => ?_) ?_
        rotate_left 1
        · have hx0 := (hx.cell ⟨w.heap.size, 0, none⟩ hN).trans hc0; have hx3 := (hx.cell ⟨w.heap.size, 3, none⟩ hN).trans hc3; have hx4 := (hx.cell ⟨w.heap.size, 4, none⟩ hN).trans hc4; go_simp; first | done | with_reducible rfl | rw [if_neg (by omega)] | rw [if_pos (by omega)]
        simp only [Act.put, List.setIfInBounds_toArray, List.set_cons_zero, List.set_cons_succ]
        refine wpS_take 13 (some 135) (v := ?_) rfl rfl (by kernel_rfl) (fun _ _ _ h => h) rfl (fun x hx => ?_) ?_
        rotate_left 1
        · have hx0 := (hx.cell ⟨w.heap.size, 0, none⟩ hN).trans hc0; have hx3 := (hx.cell ⟨w.heap.size, 3, none⟩ hN).trans hc3; have hx4 := (hx.cell ⟨w.heap.size, 4, none⟩ hN).trans hc4; go_simp; first | done | with_reducible rfl | rw [if_neg (by omega)] | rw [if_pos (by omega)]
        simp only [Act.put, List.setIfInBounds_toArray, List.set_cons_zero, List.set_cons_succ]
        refine wpS_step 10 (by kernel_rfl) rfl ?_  -- call value (Go.Operand.func 73)
        go_wp2_with (go_at_call 73; refine (specHasByte_any lo hi (byteAt s k) _ hb0 hb1).mono ?_; rintro e w2 ⟨rfl, hb2⟩)
        refine ⟨hb2, ?_⟩
        replace hbel : Below w.heap.size w w2 := hbel.drew.trans (Below.mono hb2 hsz)
        replace hc0 : w2.cell? ⟨w.heap.size, 0, none⟩ = some (.int .i64 10) := (Later.cell hb2 _ hN).trans hc0
        replace hc3 : w2.cell? ⟨w.heap.size, 3, none⟩ = some (.int .i64 lo) := (Later.cell hb2 _ hN).trans hc3
        replace hc4 : w2.cell? ⟨w.heap.size, 4, none⟩ = some (.int .i64 hi) := (Later.cell hb2 _ hN).trans hc4
        replace hN : w.heap.size < w2.heap.size := Nat.lt_of_lt_of_le hN hb2.size
        replace hsz := hbel.size
        clear hb2
        refine wpS_take 14 (some 136) (v := ?_) rfl rfl (by kernel_rfl) (fun _ _ _ h => h) rfl (fun x hx => ?_) ?_
        rotate_left 1
        · have hx0 := (hx.cell ⟨w.heap.size, 0, none⟩ hN).trans hc0; have hx3 := (hx.cell ⟨w.heap.size, 3, none⟩ hN).trans hc3; have hx4 := (hx.cell ⟨w.heap.size, 4, none⟩ hN).trans hc4; go_simp; first | done | with_reducible rfl | rw [if_neg (by omega)] | rw [if_pos (by omega)]
        simp only [Act.put, List.setIfInBounds_toArray, List.set_cons_zero, List.set_cons_succ]
        refine wpS_take 15 (some 137) (v := ?_) rfl rfl (by kernel_rfl) (fun _ _ _ h => h) rfl (fun x hx => ?_) ?_
        rotate_left 1
        · have hx0 := (hx.cell ⟨w.heap.size, 0, none⟩ hN).trans hc0; have hx3 := (hx.cell ⟨w.heap.size, 3, none⟩ hN).trans hc3; have hx4 := (hx.cell ⟨w.heap.size, 4, none⟩ hN).trans hc4; go_simp; first | done | with_reducible rfl | rw [if_neg (by omega)] | rw [if_pos (by omega)]
        simp only [Act.put, List.setIfInBounds_toArray, List.set_cons_zero, List.set_cons_succ]
        refine wpS_tail 16 0 _ rfl (by kernel_rfl) rfl ?_
        simp only [List.drop_succ_cons, List.drop_zero]
        refine wpList_nil ?_
        go_wp2_with fail
        go_ret
        have hr2 := HR.out
        exact ⟨ret_int (by rw [HV.out, if_pos (by omega)]; simp [endInt]; omega), hbel⟩
    · have HR := Lib.hid (run_all hk0 (by omega) hrun)
      have hg' : decide ((k : Int) < s.size) = false := by simp; omega
      have hg2 : ¬ (k : Int) < s.size := by omega
      go_wp2_with fail
      go_quiet (fail)
      go_wp2_with fail
      go_ret
      have hr2 := HR.out
      exact ⟨ret_int (by rw [HV.out, if_neg (by omega)]; rfl), below_drewN' hbel _⟩

/-- l19One at every pattern of its own. -/
theorem l19One_any (op : Int) (h : isSimple op) (hok : okWords op text num) (hs : s.size ≤ 120) (hp : p ≤ s.size) :
    Calls Try.prog 82 #[patV op text num lo hi (.slice A n c), .string s, .int .i64 p] w fun e w' => e = .returned (.int .i64 (endInt (oneEnd op text num lo hi s p))) ∧ Below w.heap.size w w' := by
  obtain ⟨ht, hn⟩ := hok
  have hc : op = 1 ∨ op = 2 ∨ op = 3 ∨ op = 4 ∨ op = 5 ∨ op = 6 ∨ op = 7 ∨ op = 8 ∨ op = 9 ∨ op = 10 ∨ op = 12 ∨ op = 22 ∨ op = 23 := by unfold isSimple at h; omega
  rcases hc with rfl | rfl | rfl | rfl | rfl | rfl | rfl | rfl | rfl | rfl | rfl | rfl | rfl
  · exact one_1 text num lo hi A n c s p w hs hp ht
  · exact one_2 text num lo hi A n c s p w hs hp (hn (by decide) (by decide)).1 (hn (by decide) (by decide)).2
  · exact one_3 text num lo hi A n c s p w
  · exact one_4 text num lo hi A n c s p w hs hp
  · exact one_5 text num lo hi A n c s p w (hn (by decide) (by decide)).1 (hn (by decide) (by decide)).2
  · exact one_6 text num lo hi A n c s p w hs hp (hn (by decide) (by decide)).1 (hn (by decide) (by decide)).2
  · exact one_7 text num lo hi A n c s p w hs hp
  · exact one_8 text num lo hi A n c s p w hs hp
  · exact one_9 text num lo hi A n c s p w hs hp
  · exact one_10 text num lo hi A n c s p w hs hp
  · exact one_12 text num lo hi A n c s p w
  · exact one_22 text num lo hi A n c s p w
  · exact one_23 text num lo hi A n c s p w
end

end Go.Proofs.Ytndefbecoahfhaa
