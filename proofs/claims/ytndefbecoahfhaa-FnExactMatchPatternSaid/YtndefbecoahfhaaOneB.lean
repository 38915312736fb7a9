/- impl's simpleEnding at Span, at Break and at the patterns that are none of its own. -/
import Derived.Test.YtndefbecoahfhaaOne
namespace Go.Proofs.Ytndefbecoahfhaa
open Go.RowKit

theorem takeWhile_more {α : Type} (f : α → Bool) : ∀ (l : List α) (i : Nat) (hi : i < l.length), i ≤ (l.takeWhile f).length → f l[i] = true → i + 1 ≤ (l.takeWhile f).length
  | [], i, hi, _, _ => by simp at hi
  | a :: l, i, hi, h, hf => by
    by_cases ha : f a = true
    · rw [List.takeWhile_cons_of_pos ha] at h ⊢
      cases i with
      | zero => simp
      | succ i =>
        have := takeWhile_more f l i (by simpa using hi) (by simpa using h) (by simpa using hf)
        simpa using this
    · rw [List.takeWhile_cons_of_neg ha] at h ⊢
      have : i = 0 := by simpa using h
      subst this
      exact absurd hf ha
theorem takeWhile_end {α : Type} (f : α → Bool) : ∀ (l : List α) (i : Nat) (hi : i < l.length), i ≤ (l.takeWhile f).length → f l[i] = false → i = (l.takeWhile f).length
  | [], i, hi, _, _ => by simp at hi
  | a :: l, i, hi, h, hf => by
    by_cases ha : f a = true
    · rw [List.takeWhile_cons_of_pos ha] at h ⊢
      cases i with
      | zero => rw [List.getElem_cons_zero, ha] at hf; cases hf
      | succ i =>
        have := takeWhile_end f l i (by simpa using hi) (by simpa using h) (by simpa using hf)
        simp [← this]
    · rw [List.takeWhile_cons_of_neg ha] at h ⊢
      simpa using h

theorem run_more {lo hi : Int} {yes : Bool} {s : ByteArray} {p k : Nat} (hp : p ≤ k) (hk : k < s.size) (h : k - p ≤ runOf lo hi yes (s.data.toList.drop p)) (hb' : hb lo hi (byteAt s k) = yes) :
    k + 1 - p ≤ runOf lo hi yes (s.data.toList.drop p) := by
  have hl : k - p < (s.data.toList.drop p).length := by simp; omega
  have := takeWhile_more (fun b => hb lo hi (b.toNat : Int) == yes) (s.data.toList.drop p) (k - p) hl h (by
    rw [List.getElem_drop]
    have e : p + (k - p) = k := by omega
    have e2 : ((s.data.toList[p + (k - p)]'(by simp; omega)).toNat : Int) = byteAt s k := by
      rw [← byteAt_eq s k hk]
      simp only [e]
      rfl
    rw [e2, hb']
    simp)
  unfold runOf
  omega
theorem run_end {lo hi : Int} {yes : Bool} {s : ByteArray} {p k : Nat} (hp : p ≤ k) (hk : k < s.size) (h : k - p ≤ runOf lo hi yes (s.data.toList.drop p)) (hb' : hb lo hi (byteAt s k) = !yes) :
    k = p + runOf lo hi yes (s.data.toList.drop p) := by
  have hl : k - p < (s.data.toList.drop p).length := by simp; omega
  have := takeWhile_end (fun b => hb lo hi (b.toNat : Int) == yes) (s.data.toList.drop p) (k - p) hl h (by
    rw [List.getElem_drop]
    have e : p + (k - p) = k := by omega
    have e2 : ((s.data.toList[p + (k - p)]'(by simp; omega)).toNat : Int) = byteAt s k := by
      rw [← byteAt_eq s k hk]
      simp only [e]
      rfl
    rw [e2, hb']
    cases yes <;> rfl)
  unfold runOf
  omega
theorem run_le {lo hi : Int} {yes : Bool} {s : ByteArray} {p : Nat} : runOf lo hi yes (s.data.toList.drop p) ≤ s.size - p := by
  unfold runOf
  have := List.IsPrefix.length_le (List.takeWhile_prefix (fun b => hb lo hi (b.toNat : Int) == yes) (l := s.data.toList.drop p))
  simpa using this
theorem run_all {lo hi : Int} {yes : Bool} {s : ByteArray} {p k : Nat} (hp : p ≤ k) (hk : k = s.size) (h : k - p ≤ runOf lo hi yes (s.data.toList.drop p)) :
    k = p + runOf lo hi yes (s.data.toList.drop p) := by
  have := @run_le lo hi yes s p
  omega

section
variable (text : ByteArray) (num lo hi : Int) (A : Option Addr) (n c : Nat) (s : ByteArray) (p : Nat) (w : World)

set_option maxRecDepth 100000 in
set_option maxHeartbeats 4000000 in
theorem simple_9 (hs : s.size ≤ 120) (hp : p ≤ s.size) :
    Calls Try.prog 78 #[patV 9 text num lo hi (.slice A n c), .string s, .int .i64 p] w (EndsAs (oneEnd 9 text num lo hi s p) true w) := by
  have HV := Lib.hid (show oneEnd 9 text num lo hi s p = if 0 < runOf lo hi true (s.data.toList.drop p) then some (p + runOf lo hi true (s.data.toList.drop p)) else none from rfl)
  go_enter Try.func78, Try.ntmps78
  go_wp2_with fail
  go_loopw [10] (fun v wr => ∃ k : Nat, p ≤ k ∧ k ≤ s.size ∧ v = .int .i64 k ∧ k - p ≤ runOf lo hi true (s.data.toList.drop p) ∧ w.heap.size < wr.heap.size ∧ wr.cell? ⟨w.heap.size, 3, none⟩ = some (.int .i64 lo) ∧ wr.cell? ⟨w.heap.size, 4, none⟩ = some (.int .i64 hi) ∧ Below w.heap.size w wr) (fun v _ => s.size - (intOf v).toNat)
  case atStart =>
    refine ⟨p, Nat.le_refl _, hp, rfl, by omega, by simp, ?_, ?_, (Below.refl _ _).alloc (Nat.le_refl _) _⟩
    · exact cell_of_row _ w.heap.size 3 _ _ _ (heap_alloc_new w _)
    · exact cell_of_row _ w.heap.size 4 _ _ _ (heap_alloc_new w _)
  case round =>
    obtain ⟨k, hk0, hk1, rfl, hrun, hN, hc3, hc4, hbel⟩ := hrel
    have hsz := hbel.size
    by_cases hg : k < s.size
    · have hg' : (k : Int) < s.size := by omega
      have hg3 : (0 : Int) ≤ (k : Int) := by omega
      have hby : (s[k].toNat : Int) = byteAt s k := byteAt_eq s k hg
      have hb0 : 0 ≤ byteAt s k := byteAt_bd s k |>.1
      have hb1 : byteAt s k < 256 := byteAt_bd s k |>.2
      go_wp2_with fail
      -- region 23: 11 operations, the tail from 11 on
      refine wpS_begin 11 (by kernel_rfl) (fun w1 hw1 => ?_)
      subst hw1
      refine wpS_take 0 (some 120) (v := ?_) rfl rfl (by kernel_rfl) (fun _ _ _ h => h) rfl (fun x hx => ?_) ?_
      rotate_left 1
      · have hx3 := (hx.cell ⟨w.heap.size, 3, none⟩ hN).trans hc3; have hx4 := (hx.cell ⟨w.heap.size, 4, none⟩ hN).trans hc4; go_simp; first | done | with_reducible rfl | rw [if_neg (by omega)] | rw [if_pos (by omega)]
      simp only [Act.put, List.setIfInBounds_toArray, List.set_cons_zero, List.set_cons_succ]
      refine wpS_take 1 (some 121) (v := ?_) rfl rfl (by kernel_rfl) (fun _ _ _ h => h) rfl (fun x hx => ?_) ?_
      rotate_left 1
      · have hx3 := (hx.cell ⟨w.heap.size, 3, none⟩ hN).trans hc3; have hx4 := (hx.cell ⟨w.heap.size, 4, none⟩ hN).trans hc4; go_simp; first | done | with_reducible rfl | rw [if_neg (by omega)] | rw [if_pos (by omega)]
      simp only [Act.put, List.setIfInBounds_toArray, List.set_cons_zero, List.set_cons_succ]
      refine wpS_take 2 (some 122) (v := ?_) rfl rfl (by kernel_rfl) (fun _ _ _ h => h) rfl (fun x hx => ?_) ?_
      rotate_left 1
      · have hx3 := (hx.cell ⟨w.heap.size, 3, none⟩ hN).trans hc3; have hx4 := (hx.cell ⟨w.heap.size, 4, none⟩ hN).trans hc4; go_simp; first | done | with_reducible rfl | rw [if_neg (by omega)] | rw [if_pos (by omega)]
      simp only [Act.put, List.setIfInBounds_toArray, List.set_cons_zero, List.set_cons_succ]
      refine wpS_take 3 (some 123) (v := ?_) rfl rfl (by kernel_rfl) (fun _ _ _ h => h) rfl (fun x hx => ?_) ?_
      rotate_left 1
      · have hx3 := (hx.cell ⟨w.heap.size, 3, none⟩ hN).trans hc3; have hx4 := (hx.cell ⟨w.heap.size, 4, none⟩ hN).trans hc4; go_simp; first | done | with_reducible rfl | rw [if_neg (by omega)] | rw [if_pos (by omega)]
      simp only [Act.put, List.setIfInBounds_toArray, List.set_cons_zero, List.set_cons_succ]
      refine wpS_take 4 (some 124) (v := ?_) rfl rfl (by kernel_rfl) (fun _ _ _ h => h) rfl (fun x hx => ?_) ?_
      rotate_left 1
      · have hx3 := (hx.cell ⟨w.heap.size, 3, none⟩ hN).trans hc3; have hx4 := (hx.cell ⟨w.heap.size, 4, none⟩ hN).trans hc4; go_simp; first | done | with_reducible rfl | rw [if_neg (by omega)] | rw [if_pos (by omega)]
      simp only [Act.put, List.setIfInBounds_toArray, List.set_cons_zero, List.set_cons_succ]
      refine wpS_take 5 (some 125) (v := ?_) rfl rfl (by kernel_rfl) (fun _ _ _ h => h) rfl (fun x hx => ?_) ?_
      rotate_left 1
      · have hx3 := (hx.cell ⟨w.heap.size, 3, none⟩ hN).trans hc3; have hx4 := (hx.cell ⟨w.heap.size, 4, none⟩ hN).trans hc4; go_simp; first | done | with_reducible rfl | rw [if_neg (by omega)] | rw [if_pos (by omega)]
      simp only [Act.put, List.setIfInBounds_toArray, List.set_cons_zero, List.set_cons_succ]
      refine wpS_take 6 (some 126) (v := ?_) rfl rfl (by kernel_rfl) (fun _ _ _ h => h) rfl (fun x hx => ?_) ?_
      rotate_left 1
      · have hx3 := (hx.cell ⟨w.heap.size, 3, none⟩ hN).trans hc3; have hx4 := (hx.cell ⟨w.heap.size, 4, none⟩ hN).trans hc4; go_simp; first | done | with_reducible rfl | rw [if_neg (by omega)] | rw [if_pos (by omega)]
      simp only [Act.put, List.setIfInBounds_toArray, List.set_cons_zero, List.set_cons_succ]
      refine wpS_take 7 (some 127) (v := ?_) rfl rfl (by kernel_rfl) (fun _ _ _ h => h) rfl (fun x hx => ?_) ?_
      rotate_left 1
      · have hx3 := (hx.cell ⟨w.heap.size, 3, none⟩ hN).trans hc3; have hx4 := (hx.cell ⟨w.heap.size, 4, none⟩ hN).trans hc4; go_simp; first | done | with_reducible rfl | rw [if_neg (by omega)] | rw [if_pos (by omega)]
      simp only [Act.put, List.setIfInBounds_toArray, List.set_cons_zero, List.set_cons_succ]
      refine wpS_take 8 (some 128) (v := ?_) rfl rfl (by kernel_rfl) (fun _ _ _ h => h) rfl (fun x hx => ?_) ?_
      rotate_left 1
      · have hx3 := (hx.cell ⟨w.heap.size, 3, none⟩ hN).trans hc3; have hx4 := (hx.cell ⟨w.heap.size, 4, none⟩ hN).trans hc4; go_simp; first | done | with_reducible rfl | rw [if_neg (by omega)] | rw [if_pos (by omega)]
      simp only [Act.put, List.setIfInBounds_toArray, List.set_cons_zero, List.set_cons_succ]
      refine wpS_step 9 (by kernel_rfl) rfl ?_  -- call value (Go.Operand.func 56)
      go_wp2_with (go_at_call 56; refine (implHasByte_any lo hi (byteAt s k) _ hb0 hb1).mono ?_; rintro e w2 ⟨rfl, hb2⟩)
      refine ⟨hb2, ?_⟩
      replace hbel : Below w.heap.size w w2 := hbel.drew.trans (Below.mono hb2 hsz)
      replace hc3 : w2.cell? ⟨w.heap.size, 3, none⟩ = some (.int .i64 lo) := (Later.cell hb2 _ hN).trans hc3
      replace hc4 : w2.cell? ⟨w.heap.size, 4, none⟩ = some (.int .i64 hi) := (Later.cell hb2 _ hN).trans hc4
      replace hN : w.heap.size < w2.heap.size := Nat.lt_of_lt_of_le hN hb2.size
      replace hsz := hbel.size
      clear hb2
      refine wpS_take 10 (some 130) (v := ?_) rfl rfl (by kernel_rfl) (fun _ _ _ h => h) rfl (fun x hx => ?_) ?_
      rotate_left 1
      · have hx3 := (hx.cell ⟨w.heap.size, 3, none⟩ hN).trans hc3; have hx4 := (hx.cell ⟨w.heap.size, 4, none⟩ hN).trans hc4; go_simp; first | done | with_reducible rfl | rw [if_neg (by omega)] | rw [if_pos (by omega)]
      simp only [Act.put, List.setIfInBounds_toArray, List.set_cons_zero, List.set_cons_succ]
      refine wpS_tail 11 0 _ rfl (by kernel_rfl) rfl ?_
      simp only [List.drop_succ_cons, List.drop_zero]
      refine wpList_nil ?_
      go_wp2_with fail
      · have hyes : hb lo hi (byteAt s k) = true := by assumption
        have hr2 := run_more hk0 hg hrun hyes
        go_roundw
        case rel => exact ⟨k + 1, by omega, by omega, by go_num, hr2, hN, hc3, hc4, hbel⟩
        case measure => simp [intOf]; omega
      · have hno : hb lo hi (byteAt s k) = false := by assumption
        have hr2 := run_end hk0 hg hrun hno
        go_ret3
        exact endsAs_mk (by rw [HV.out]; by_cases h : 0 < runOf lo hi true (s.data.toList.drop p) <;> simp [h] <;> omega) (fun y hy => by rw [HV.out] at hy; split at hy <;> simp at hy; omega) hbel
    · have HR := Lib.hid (run_all hk0 (by omega) hrun)
      have hg' : decide ((k : Int) < s.size) = false := by simp; omega
      go_wp2_with fail
      go_quiet (fail)
      go_wp2_with fail
      go_ret3
      have hr2 := HR.out
      exact endsAs_mk (by rw [HV.out]; by_cases h : 0 < runOf lo hi true (s.data.toList.drop p) <;> simp [h] <;> omega) (fun y hy => by rw [HV.out] at hy; split at hy <;> simp at hy; omega) (below_drewN' hbel _)
end

end Go.Proofs.Ytndefbecoahfhaa
