/- spec's l4End at every text that begins with a quote. Printed by gen_parend.py. -/
import Derived.Test.YtopaeiogbijppaaDoorParUnqB
import Derived.Test.YtopaeiogbijppaaDoorParIntS
import Derived.Test.YtopaeiogbijppaaDoorRegion5
namespace Go.Proofs.YtopaeiogbijppaaDoor
open Go.RowKit

set_option maxRecDepth 100000 in
set_option maxHeartbeats 2000000 in
theorem l4End_any (s : ByteArray) (w : World) (hs : s.size ≤ 1048576) (hp : 0 < s.size) (h0 : (s[0].toNat : Int) = 34) :
    Calls Tryd.prog 80 #[.string s, .int .i64 0] w fun e w' => (∃ z : Int, e = .returned (.int .i64 z) ∧ (z = s.size ↔ scanAt 34 s.data.toList 1 = true)) ∧ Below w.heap.size w w' := by
  have hlen : s.data.toList.length = s.size := by simp
  obtain ⟨R, hR⟩ : ∃ R, scanAt 34 s.data.toList 1 = R := ⟨_, rfl⟩
  rw [hR]
  have HR := Lib.hid hR
  have HL := Lib.hid hlen
  clear hR hlen
  go_enter Tryd.func80, Tryd.ntmps80
  go_wp2_with fail
  go_loopw [5] (fun i wr => ∃ k : Nat, i = .int .i64 k ∧ 1 ≤ k ∧ k ≤ s.size + 1 ∧ Hid (scanAt 34 s.data.toList k = R) ∧ Below w.heap.size w wr) (fun i _ => s.size + 1 - (intOf i).toNat)
  case atStart => exact ⟨1, rfl, Nat.le_refl _, by omega, HR, Below.refl _ _⟩
  case round =>
    obtain ⟨k, rfl, hk1, hk, HD, hbel⟩ := hrel
    by_cases hlt : k < s.size
    · have t1 : decide ((k : Int) < s.size) = true := decide_eq_true (by omega)
      obtain ⟨c, hc⟩ : ∃ c : Int, (s[k].toNat : Int) = c := ⟨_, rfl⟩
      have hcb0 : 0 ≤ c := by omega
      have hcb1 : c < 256 := by have := s[k].toNat_lt; omega
      have hstep := scanAt_step (q := 34) (s := s.data.toList) (k := k) (by rw [HL.out]; exact hlt)
      have hat : s.data.toList[k]'(by rw [HL.out]; exact hlt) = s[k] := by simp; rfl
      rw [hat, HD.out, HL.out] at hstep
      have b34 : (s[k] = 34) ↔ c = 34 := by rw [byte_is s[k] _ hc]; rfl
      have b92 : (s[k] = 92) ↔ c = 92 := by rw [byte_is s[k] _ hc]; rfl
      simp only [b34, b92] at hstep
      rw [show s[k].toNat = c.toNat by omega] at hstep
      have HST := Lib.hid hstep
      have hbsz := hbel.size
      clear hstep hat b34 b92
      by_cases e34 : c = 34
      · subst e34
        have hst := HST.out
        rw [if_pos rfl] at hst
        have HS2 := Lib.hid hst
        clear hst
        go_wp2_with fail
        -- region 3: 7 operations, the last []
        refine wpU_begin [] [] (by kernel_rfl) (fun w3 hw3 => ?_)
        subst hw3
        refine wpU_take 0 (some 12) (v := ?_) rfl rfl (by kernel_rfl) (fun _ _ _ h => h) rfl (fun x hx => ?_) ?_
        rotate_left 1
        · go_simp; first | done | with_reducible rfl | rw [if_neg (by omega)] | rw [if_pos (by omega)]
        simp only [Act.put, List.setIfInBounds_toArray, List.set_cons_zero, List.set_cons_succ]
        refine wpU_take 1 (some 13) (v := ?_) rfl rfl (by kernel_rfl) (fun _ _ _ h => h) rfl (fun x hx => ?_) ?_
        rotate_left 1
        · go_simp; first | done | with_reducible rfl | rw [if_neg (by omega)] | rw [if_pos (by omega)]
        simp only [Act.put, List.setIfInBounds_toArray, List.set_cons_zero, List.set_cons_succ]
        refine wpU_take 2 (some 14) (v := ?_) rfl rfl (by kernel_rfl) (fun _ _ _ h => h) rfl (fun x hx => ?_) ?_
        rotate_left 1
        · go_simp; first | done | with_reducible rfl | rw [if_neg (by omega)] | rw [if_pos (by omega)]
        simp only [Act.put, List.setIfInBounds_toArray, List.set_cons_zero, List.set_cons_succ]
        refine wpU_take 3 (some 15) (v := ?_) rfl rfl (by kernel_rfl) (fun _ _ _ h => h) rfl (fun x hx => ?_) ?_
        rotate_left 1
        · go_simp; first | done | with_reducible rfl | rw [if_neg (by omega)] | rw [if_pos (by omega)]
        simp only [Act.put, List.setIfInBounds_toArray, List.set_cons_zero, List.set_cons_succ]
        refine wpU_take 4 (some 16) (v := ?_) rfl rfl (by kernel_rfl) (fun _ _ _ h => h) rfl (fun x hx => ?_) ?_
        rotate_left 1
        · go_simp; first | done | with_reducible rfl | rw [if_neg (by omega)] | rw [if_pos (by omega)]
        simp only [Act.put, List.setIfInBounds_toArray, List.set_cons_zero, List.set_cons_succ]
        refine wpU_take 5 (some 17) (v := ?_) rfl rfl (by kernel_rfl) (fun _ _ _ h => h) rfl (fun x hx => ?_) ?_
        rotate_left 1
        · go_simp; first | done | with_reducible rfl | rw [if_neg (by omega)] | rw [if_pos (by omega)]
        simp only [Act.put, List.setIfInBounds_toArray, List.set_cons_zero, List.set_cons_succ]
        refine wpU_take 6 (some 18) (v := ?_) rfl rfl (by kernel_rfl) (fun _ _ _ h => h) rfl (fun x hx => ?_) ?_
        rotate_left 1
        · go_simp; first | done | with_reducible rfl | rw [if_neg (by omega)] | rw [if_pos (by omega)]
        simp only [Act.put, List.setIfInBounds_toArray, List.set_cons_zero, List.set_cons_succ]
        refine wpU_last [] (by kernel_rfl) rfl rfl ?_
        go_wp2_with fail
        go_ret
        refine ⟨⟨(k : Int) + 1, rfl, ?_⟩, Below.drew hbel⟩
        rw [HS2.out, decide_eq_true_eq]
        omega
      · have n1 : (c == 34) = false := by rw [beq_eq_false_iff_ne]; exact e34
        have hst := HST.out
        rw [if_neg e34] at hst
        by_cases ectl : c < 32 ∨ 126 < c
        · rw [if_pos (by omega)] at hst
          have HS2 := Lib.hid hst
          clear hst
          have hcase : c < 32 ∨ (32 ≤ c ∧ 126 < c) := by omega
          clear ectl
          rcases hcase with h3 | ⟨h3, h4⟩
          · have d1 : decide (c < (32 : Int)) = true := decide_eq_true h3
            go_wp2_with fail
            -- region 3: 7 operations, the last []
            refine wpU_begin [] [] (by kernel_rfl) (fun w3 hw3 => ?_)
            subst hw3
            refine wpU_take 0 (some 12) (v := ?_) rfl rfl (by kernel_rfl) (fun _ _ _ h => h) rfl (fun x hx => ?_) ?_
            rotate_left 1
            · go_simp; first | done | with_reducible rfl | rw [if_neg (by omega)] | rw [if_pos (by omega)]
            simp only [Act.put, List.setIfInBounds_toArray, List.set_cons_zero, List.set_cons_succ]
            refine wpU_take 1 (some 13) (v := ?_) rfl rfl (by kernel_rfl) (fun _ _ _ h => h) rfl (fun x hx => ?_) ?_
            rotate_left 1
            · go_simp; first | done | with_reducible rfl | rw [if_neg (by omega)] | rw [if_pos (by omega)]
            simp only [Act.put, List.setIfInBounds_toArray, List.set_cons_zero, List.set_cons_succ]
            refine wpU_take 2 (some 14) (v := ?_) rfl rfl (by kernel_rfl) (fun _ _ _ h => h) rfl (fun x hx => ?_) ?_
            rotate_left 1
            · go_simp; first | done | with_reducible rfl | rw [if_neg (by omega)] | rw [if_pos (by omega)]
            simp only [Act.put, List.setIfInBounds_toArray, List.set_cons_zero, List.set_cons_succ]
            refine wpU_take 3 (some 15) (v := ?_) rfl rfl (by kernel_rfl) (fun _ _ _ h => h) rfl (fun x hx => ?_) ?_
            rotate_left 1
            · go_simp; first | done | with_reducible rfl | rw [if_neg (by omega)] | rw [if_pos (by omega)]
            simp only [Act.put, List.setIfInBounds_toArray, List.set_cons_zero, List.set_cons_succ]
            refine wpU_take 4 (some 16) (v := ?_) rfl rfl (by kernel_rfl) (fun _ _ _ h => h) rfl (fun x hx => ?_) ?_
            rotate_left 1
            · go_simp; first | done | with_reducible rfl | rw [if_neg (by omega)] | rw [if_pos (by omega)]
            simp only [Act.put, List.setIfInBounds_toArray, List.set_cons_zero, List.set_cons_succ]
            refine wpU_take 5 (some 17) (v := ?_) rfl rfl (by kernel_rfl) (fun _ _ _ h => h) rfl (fun x hx => ?_) ?_
            rotate_left 1
            · go_simp; first | done | with_reducible rfl | rw [if_neg (by omega)] | rw [if_pos (by omega)]
            simp only [Act.put, List.setIfInBounds_toArray, List.set_cons_zero, List.set_cons_succ]
            refine wpU_take 6 (some 18) (v := ?_) rfl rfl (by kernel_rfl) (fun _ _ _ h => h) rfl (fun x hx => ?_) ?_
            rotate_left 1
            · go_simp; first | done | with_reducible rfl | rw [if_neg (by omega)] | rw [if_pos (by omega)]
            simp only [Act.put, List.setIfInBounds_toArray, List.set_cons_zero, List.set_cons_succ]
            refine wpU_last [] (by kernel_rfl) rfl rfl ?_
            go_wp2_with fail
            go_ret
            exact ⟨⟨-1, rfl, by rw [HS2.out]; simp⟩, Below.drew hbel⟩
          · have d1 : decide (c < (32 : Int)) = false := decide_eq_false (by omega)
            have d2 : decide ((126 : Int) < c) = true := decide_eq_true h4
            go_wp2_with fail
            -- region 3: 7 operations, the last []
            refine wpU_begin [] [] (by kernel_rfl) (fun w3 hw3 => ?_)
            subst hw3
            refine wpU_take 0 (some 12) (v := ?_) rfl rfl (by kernel_rfl) (fun _ _ _ h => h) rfl (fun x hx => ?_) ?_
            rotate_left 1
            · go_simp; first | done | with_reducible rfl | rw [if_neg (by omega)] | rw [if_pos (by omega)]
            simp only [Act.put, List.setIfInBounds_toArray, List.set_cons_zero, List.set_cons_succ]
            refine wpU_take 1 (some 13) (v := ?_) rfl rfl (by kernel_rfl) (fun _ _ _ h => h) rfl (fun x hx => ?_) ?_
            rotate_left 1
            · go_simp; first | done | with_reducible rfl | rw [if_neg (by omega)] | rw [if_pos (by omega)]
            simp only [Act.put, List.setIfInBounds_toArray, List.set_cons_zero, List.set_cons_succ]
            refine wpU_take 2 (some 14) (v := ?_) rfl rfl (by kernel_rfl) (fun _ _ _ h => h) rfl (fun x hx => ?_) ?_
            rotate_left 1
            · go_simp; first | done | with_reducible rfl | rw [if_neg (by omega)] | rw [if_pos (by omega)]
            simp only [Act.put, List.setIfInBounds_toArray, List.set_cons_zero, List.set_cons_succ]
            refine wpU_take 3 (some 15) (v := ?_) rfl rfl (by kernel_rfl) (fun _ _ _ h => h) rfl (fun x hx => ?_) ?_
            rotate_left 1
            · go_simp; first | done | with_reducible rfl | rw [if_neg (by omega)] | rw [if_pos (by omega)]
            simp only [Act.put, List.setIfInBounds_toArray, List.set_cons_zero, List.set_cons_succ]
            refine wpU_take 4 (some 16) (v := ?_) rfl rfl (by kernel_rfl) (fun _ _ _ h => h) rfl (fun x hx => ?_) ?_
            rotate_left 1
            · go_simp; first | done | with_reducible rfl | rw [if_neg (by omega)] | rw [if_pos (by omega)]
            simp only [Act.put, List.setIfInBounds_toArray, List.set_cons_zero, List.set_cons_succ]
            refine wpU_take 5 (some 17) (v := ?_) rfl rfl (by kernel_rfl) (fun _ _ _ h => h) rfl (fun x hx => ?_) ?_
            rotate_left 1
            · go_simp; first | done | with_reducible rfl | rw [if_neg (by omega)] | rw [if_pos (by omega)]
            simp only [Act.put, List.setIfInBounds_toArray, List.set_cons_zero, List.set_cons_succ]
            refine wpU_take 6 (some 18) (v := ?_) rfl rfl (by kernel_rfl) (fun _ _ _ h => h) rfl (fun x hx => ?_) ?_
            rotate_left 1
            · go_simp; first | done | with_reducible rfl | rw [if_neg (by omega)] | rw [if_pos (by omega)]
            simp only [Act.put, List.setIfInBounds_toArray, List.set_cons_zero, List.set_cons_succ]
            refine wpU_last [] (by kernel_rfl) rfl rfl ?_
            go_wp2_with fail
            go_ret
            exact ⟨⟨-1, rfl, by rw [HS2.out]; simp⟩, Below.drew hbel⟩
        · rw [if_neg (by omega)] at hst
          have d1 : decide (c < (32 : Int)) = false := decide_eq_false (by omega)
          have d2 : decide ((126 : Int) < c) = false := decide_eq_false (by omega)
          clear ectl
          by_cases e92 : c = 92
          · subst e92
            rw [if_pos rfl] at hst
            have HS2 := Lib.hid hst
            clear hst
            go_wp2_with fail
            -- region 3: 7 operations, the last []
            refine wpU_begin [] [] (by kernel_rfl) (fun w3 hw3 => ?_)
            subst hw3
            refine wpU_take 0 (some 12) (v := ?_) rfl rfl (by kernel_rfl) (fun _ _ _ h => h) rfl (fun x hx => ?_) ?_
            rotate_left 1
            · go_simp; first | done | with_reducible rfl | rw [if_neg (by omega)] | rw [if_pos (by omega)]
            simp only [Act.put, List.setIfInBounds_toArray, List.set_cons_zero, List.set_cons_succ]
            refine wpU_take 1 (some 13) (v := ?_) rfl rfl (by kernel_rfl) (fun _ _ _ h => h) rfl (fun x hx => ?_) ?_
            rotate_left 1
            · go_simp; first | done | with_reducible rfl | rw [if_neg (by omega)] | rw [if_pos (by omega)]
            simp only [Act.put, List.setIfInBounds_toArray, List.set_cons_zero, List.set_cons_succ]
            refine wpU_take 2 (some 14) (v := ?_) rfl rfl (by kernel_rfl) (fun _ _ _ h => h) rfl (fun x hx => ?_) ?_
            rotate_left 1
            · go_simp; first | done | with_reducible rfl | rw [if_neg (by omega)] | rw [if_pos (by omega)]
            simp only [Act.put, List.setIfInBounds_toArray, List.set_cons_zero, List.set_cons_succ]
            refine wpU_take 3 (some 15) (v := ?_) rfl rfl (by kernel_rfl) (fun _ _ _ h => h) rfl (fun x hx => ?_) ?_
            rotate_left 1
            · go_simp; first | done | with_reducible rfl | rw [if_neg (by omega)] | rw [if_pos (by omega)]
            simp only [Act.put, List.setIfInBounds_toArray, List.set_cons_zero, List.set_cons_succ]
            refine wpU_take 4 (some 16) (v := ?_) rfl rfl (by kernel_rfl) (fun _ _ _ h => h) rfl (fun x hx => ?_) ?_
            rotate_left 1
            · go_simp; first | done | with_reducible rfl | rw [if_neg (by omega)] | rw [if_pos (by omega)]
            simp only [Act.put, List.setIfInBounds_toArray, List.set_cons_zero, List.set_cons_succ]
            refine wpU_take 5 (some 17) (v := ?_) rfl rfl (by kernel_rfl) (fun _ _ _ h => h) rfl (fun x hx => ?_) ?_
            rotate_left 1
            · go_simp; first | done | with_reducible rfl | rw [if_neg (by omega)] | rw [if_pos (by omega)]
            simp only [Act.put, List.setIfInBounds_toArray, List.set_cons_zero, List.set_cons_succ]
            refine wpU_take 6 (some 18) (v := ?_) rfl rfl (by kernel_rfl) (fun _ _ _ h => h) rfl (fun x hx => ?_) ?_
            rotate_left 1
            · go_simp; first | done | with_reducible rfl | rw [if_neg (by omega)] | rw [if_pos (by omega)]
            simp only [Act.put, List.setIfInBounds_toArray, List.set_cons_zero, List.set_cons_succ]
            refine wpU_last [] (by kernel_rfl) rfl rfl ?_
            go_wp2_with fail
            go_roundw
            case rel => exact ⟨k + 2, by go_num, by omega, by omega, Lib.hid HS2.out.symm, Below.drew hbel⟩
            case measure => simp [intOf]; omega
          · rw [if_neg e92] at hst
            have n2 : (c == 92) = false := by rw [beq_eq_false_iff_ne]; exact e92
            have HS2 := Lib.hid hst
            clear hst
            go_wp2_with fail
            -- region 3: 7 operations, the last []
            refine wpU_begin [] [] (by kernel_rfl) (fun w3 hw3 => ?_)
            subst hw3
            refine wpU_take 0 (some 12) (v := ?_) rfl rfl (by kernel_rfl) (fun _ _ _ h => h) rfl (fun x hx => ?_) ?_
            rotate_left 1
            · go_simp; first | done | with_reducible rfl | rw [if_neg (by omega)] | rw [if_pos (by omega)]
            simp only [Act.put, List.setIfInBounds_toArray, List.set_cons_zero, List.set_cons_succ]
            refine wpU_take 1 (some 13) (v := ?_) rfl rfl (by kernel_rfl) (fun _ _ _ h => h) rfl (fun x hx => ?_) ?_
            rotate_left 1
            · go_simp; first | done | with_reducible rfl | rw [if_neg (by omega)] | rw [if_pos (by omega)]
            simp only [Act.put, List.setIfInBounds_toArray, List.set_cons_zero, List.set_cons_succ]
            refine wpU_take 2 (some 14) (v := ?_) rfl rfl (by kernel_rfl) (fun _ _ _ h => h) rfl (fun x hx => ?_) ?_
            rotate_left 1
            · go_simp; first | done | with_reducible rfl | rw [if_neg (by omega)] | rw [if_pos (by omega)]
            simp only [Act.put, List.setIfInBounds_toArray, List.set_cons_zero, List.set_cons_succ]
            refine wpU_take 3 (some 15) (v := ?_) rfl rfl (by kernel_rfl) (fun _ _ _ h => h) rfl (fun x hx => ?_) ?_
            rotate_left 1
            · go_simp; first | done | with_reducible rfl | rw [if_neg (by omega)] | rw [if_pos (by omega)]
            simp only [Act.put, List.setIfInBounds_toArray, List.set_cons_zero, List.set_cons_succ]
            refine wpU_take 4 (some 16) (v := ?_) rfl rfl (by kernel_rfl) (fun _ _ _ h => h) rfl (fun x hx => ?_) ?_
            rotate_left 1
            · go_simp; first | done | with_reducible rfl | rw [if_neg (by omega)] | rw [if_pos (by omega)]
            simp only [Act.put, List.setIfInBounds_toArray, List.set_cons_zero, List.set_cons_succ]
            refine wpU_take 5 (some 17) (v := ?_) rfl rfl (by kernel_rfl) (fun _ _ _ h => h) rfl (fun x hx => ?_) ?_
            rotate_left 1
            · go_simp; first | done | with_reducible rfl | rw [if_neg (by omega)] | rw [if_pos (by omega)]
            simp only [Act.put, List.setIfInBounds_toArray, List.set_cons_zero, List.set_cons_succ]
            refine wpU_take 6 (some 18) (v := ?_) rfl rfl (by kernel_rfl) (fun _ _ _ h => h) rfl (fun x hx => ?_) ?_
            rotate_left 1
            · go_simp; first | done | with_reducible rfl | rw [if_neg (by omega)] | rw [if_pos (by omega)]
            simp only [Act.put, List.setIfInBounds_toArray, List.set_cons_zero, List.set_cons_succ]
            refine wpU_last [] (by kernel_rfl) rfl rfl ?_
            go_wp2_with fail
            go_roundw
            case rel => exact ⟨k + 1, by go_num, by omega, by omega, Lib.hid HS2.out.symm, Below.drew hbel⟩
            case measure => simp [intOf]; omega
    · have t1 : decide ((k : Int) < s.size) = false := decide_eq_false (by omega)
      have hend := scanAt_end (q := 34) (s := s.data.toList) (k := k) (by rw [HL.out]; omega)
      rw [HD.out] at hend
      have HS2 := Lib.hid hend
      clear hend
      go_wp2_with fail
      go_ret
      exact ⟨⟨-1, rfl, by rw [HS2.out]; simp⟩, hbel⟩
end Go.Proofs.YtopaeiogbijppaaDoor
