/- impl's simpleEnding at Break and at the patterns that are none of its own; all its cases together. -/
import Derived.Test.YtndefbecoahfhaaOneB
namespace Go.Proofs.Ytndefbecoahfhaa
open Go.RowKit

section
variable (text : ByteArray) (num lo hi : Int) (A : Option Addr) (n c : Nat) (s : ByteArray) (p : Nat) (w : World)

set_option maxRecDepth 100000 in
set_option maxHeartbeats 4000000 in
theorem simple_10 (hs : s.size ≤ 120) (hp : p ≤ s.size) :
    Calls Try.prog 78 #[patV 10 text num lo hi (.slice A n c), .string s, .int .i64 p] w (EndsAs (oneEnd 10 text num lo hi s p) true w) := by
  have HV := Lib.hid (show oneEnd 10 text num lo hi s p = if p + runOf lo hi false (s.data.toList.drop p) < s.size then some (p + runOf lo hi false (s.data.toList.drop p)) else none from rfl)
  go_enter Try.func78, Try.ntmps78
  go_wp2_with fail
  go_loopw [11] (fun v wr => ∃ k : Nat, p ≤ k ∧ k ≤ s.size ∧ v = .int .i64 k ∧ k - p ≤ runOf lo hi false (s.data.toList.drop p) ∧ w.heap.size < wr.heap.size ∧ wr.cell? ⟨w.heap.size, 3, none⟩ = some (.int .i64 lo) ∧ wr.cell? ⟨w.heap.size, 4, none⟩ = some (.int .i64 hi) ∧ Below w.heap.size w wr) (fun v _ => s.size - (intOf v).toNat)
  case atStart =>
    refine ⟨p, Nat.le_refl _, hp, rfl, by omega, by simp, ?_, ?_, (Below.refl _ _).alloc (Nat.le_refl _) _⟩
    · exact cell_of_row _ w.heap.size 3 _ _ _ (heap_alloc_new w _)
    · exact cell_of_row _ w.heap.size 4 _ _ _ (heap_alloc_new w _)
  case round =>
    obtain ⟨k, hk0, hk1, rfl, hrun, hN, hc3, hc4, hbel⟩ := hrel
    have hsz := hbel.size
    by_cases hg : k < s.size
    · have hg' : (k : Int) < s.size := by omega
      have hg3 : (0 : Int) ≤ (k : Int) := by omega
      have hby : (s[k].toNat : Int) = byteAt s k := byteAt_eq s k hg
      have hb0 : 0 ≤ byteAt s k := byteAt_bd s k |>.1
      have hb1 : byteAt s k < 256 := byteAt_bd s k |>.2
      go_wp2_with fail
      -- region 30: 6 operations, the tail from 6 on
      refine wpS_begin 6 (by kernel_rfl) (fun w1 hw1 => ?_)
      subst hw1
      refine wpS_take 0 (some 145) (v := ?_) rfl rfl (by kernel_rfl) (fun _ _ _ h => h) rfl (fun x hx => ?_) ?_
      rotate_left 1
      · have hx3 := (hx.cell ⟨w.heap.size, 3, none⟩ hN).trans hc3; have hx4 := (hx.cell ⟨w.heap.size, 4, none⟩ hN).trans hc4; go_simp; first | done | with_reducible rfl | rw [if_neg (by omega)] | rw [if_pos (by omega)]
      simp only [Act.put, List.setIfInBounds_toArray, List.set_cons_zero, List.set_cons_succ]
      refine wpS_take 1 (some 146) (v := ?_) rfl rfl (by kernel_rfl) (fun _ _ _ h => h) rfl (fun x hx => ?_) ?_
      rotate_left 1
      · have hx3 := (hx.cell ⟨w.heap.size, 3, none⟩ hN).trans hc3; have hx4 := (hx.cell ⟨w.heap.size, 4, none⟩ hN).trans hc4; go_simp; first | done | with_reducible rfl | rw [if_neg (by omega)] | rw [if_pos (by omega)]
      simp only [Act.put, List.setIfInBounds_toArray, List.set_cons_zero, List.set_cons_succ]
      refine wpS_take 2 (some 147) (v := ?_) rfl rfl (by kernel_rfl) (fun _ _ _ h => h) rfl (fun x hx => ?_) ?_
      rotate_left 1
      · have hx3 := (hx.cell ⟨w.heap.size, 3, none⟩ hN).trans hc3; have hx4 := (hx.cell ⟨w.heap.size, 4, none⟩ hN).trans hc4; go_simp; first | done | with_reducible rfl | rw [if_neg (by omega)] | rw [if_pos (by omega)]
      simp only [Act.put, List.setIfInBounds_toArray, List.set_cons_zero, List.set_cons_succ]
      refine wpS_take 3 (some 148) (v := ?_) rfl rfl (by kernel_rfl) (fun _ _ _ h => h) rfl (fun x hx => ?_) ?_
      rotate_left 1
      · have hx3 := (hx.cell ⟨w.heap.size, 3, none⟩ hN).trans hc3; have hx4 := (hx.cell ⟨w.heap.size, 4, none⟩ hN).trans hc4; go_simp; first | done | with_reducible rfl | rw [if_neg (by omega)] | rw [if_pos (by omega)]
      simp only [Act.put, List.setIfInBounds_toArray, List.set_cons_zero, List.set_cons_succ]
      refine wpS_take 4 (some 149) (v := ?_) rfl rfl (by kernel_rfl) (fun _ _ _ h => h) rfl (fun x hx => ?_) ?_
      rotate_left 1
      · have hx3 := (hx.cell ⟨w.heap.size, 3, none⟩ hN).trans hc3; have hx4 := (hx.cell ⟨w.heap.size, 4, none⟩ hN).trans hc4; go_simp; first | done | with_reducible rfl | rw [if_neg (by omega)] | rw [if_pos (by omega)]
      simp only [Act.put, List.setIfInBounds_toArray, List.set_cons_zero, List.set_cons_succ]
      refine wpS_step 5 (by kernel_rfl) rfl ?_  -- call value (Go.Operand.func 56)
      go_wp2_with (go_at_call 56; refine (implHasByte_any lo hi (byteAt s k) _ hb0 hb1).mono ?_; rintro e w2 ⟨rfl, hb2⟩)
      refine ⟨hb2, ?_⟩
      replace hbel : Below w.heap.size w w2 := hbel.drew.trans (Below.mono hb2 hsz)
      replace hc3 : w2.cell? ⟨w.heap.size, 3, none⟩ = some (.int .i64 lo) := (Later.cell hb2 _ hN).trans hc3
      replace hc4 : w2.cell? ⟨w.heap.size, 4, none⟩ = some (.int .i64 hi) := (Later.cell hb2 _ hN).trans hc4
      replace hN : w.heap.size < w2.heap.size := Nat.lt_of_lt_of_le hN hb2.size
      replace hsz := hbel.size
      clear hb2
      refine wpS_tail 6 0 _ rfl (by kernel_rfl) rfl ?_
      simp only [List.drop_succ_cons, List.drop_zero]
      refine wpList_nil ?_
      go_wp2_with fail
      · have hyes : hb lo hi (byteAt s k) = true := by assumption
        have hr2 := run_end hk0 hg hrun hyes
        go_ret3
        exact endsAs_mk (by rw [HV.out, if_pos (by omega)]; rfl) (fun y hy => by rw [HV.out, if_pos (by omega)] at hy; cases hy; omega) hbel
      · have hno : hb lo hi (byteAt s k) = false := by assumption
        have hr2 := run_more hk0 hg hrun hno
        go_roundw
        case rel => exact ⟨k + 1, by omega, by omega, by go_num, hr2, hN, hc3, hc4, hbel⟩
        case measure => simp [intOf]; omega
    · have HR := Lib.hid (run_all hk0 (by omega) hrun)
      go_wp2_with fail
      go_ret3
      have hr2 := HR.out
      exact endsAs_mk (by rw [HV.out, if_neg (by omega)]; rfl) (fun y hy => by rw [HV.out, if_neg (by omega)] at hy; cases hy) hbel

set_option maxRecDepth 100000 in
set_option maxHeartbeats 2000000 in
theorem simple_else (op : Int) (h : op = 11 ∨ (13 ≤ op ∧ op ≤ 21)) :
    Calls Try.prog 78 #[patV op text num lo hi (.slice A n c), .string s, .int .i64 p] w fun e w' => e = .returned (.tuple #[.int .i64 0, .bool false, .bool false]) ∧ Below w.heap.size w w' := by
  rcases h with h | ⟨h1, h2⟩
  · subst h
    go_enter Try.func78, Try.ntmps78
    go_wp2_with fail
    go_ret3
    exact ⟨rfl, (Below.refl _ _).alloc (Nat.le_refl _) _⟩
  · go_enter Try.func78, Try.ntmps78
    go_wp2_with fail
    go_ret3
    exact ⟨rfl, (Below.refl _ _).alloc (Nat.le_refl _) _⟩

/-- The patterns that have at most one ending. -/
def isSimple (op : Int) : Prop := (1 ≤ op ∧ op ≤ 10) ∨ op = 12 ∨ op = 22 ∨ op = 23
/-- The pattern's own words are in their bounds. -/
def okWords (op : Int) (text : ByteArray) (num : Int) : Prop := text.size ≤ 120 ∧ (2 ≤ op → op ≤ 6 → 0 ≤ num ∧ num ≤ 120)

/-- simpleEnding at every pattern of its own. -/
theorem simpleEnding_any (op : Int) (h : isSimple op) (hok : okWords op text num) (hs : s.size ≤ 120) (hp : p ≤ s.size) :
    Calls Try.prog 78 #[patV op text num lo hi (.slice A n c), .string s, .int .i64 p] w (EndsAs (oneEnd op text num lo hi s p) true w) := by
  obtain ⟨ht, hn⟩ := hok
  have hc : op = 1 ∨ op = 2 ∨ op = 3 ∨ op = 4 ∨ op = 5 ∨ op = 6 ∨ op = 7 ∨ op = 8 ∨ op = 9 ∨ op = 10 ∨ op = 12 ∨ op = 22 ∨ op = 23 := by unfold isSimple at h; omega
  rcases hc with rfl | rfl | rfl | rfl | rfl | rfl | rfl | rfl | rfl | rfl | rfl | rfl | rfl
  · exact simple_1 text num lo hi A n c s p w hs hp ht
  · exact simple_2 text num lo hi A n c s p w hs hp (hn (by decide) (by decide)).1 (hn (by decide) (by decide)).2
  · exact simple_3 text num lo hi A n c s p w
  · exact simple_4 text num lo hi A n c s p w hs hp
  · exact simple_5 text num lo hi A n c s p w (hn (by decide) (by decide)).1 (hn (by decide) (by decide)).2
  · exact simple_6 text num lo hi A n c s p w hs hp (hn (by decide) (by decide)).1 (hn (by decide) (by decide)).2
  · exact simple_7 text num lo hi A n c s p w hs hp
  · exact simple_8 text num lo hi A n c s p w hs hp
  · exact simple_9 text num lo hi A n c s p w hs hp
  · exact simple_10 text num lo hi A n c s p w hs hp
  · exact simple_12 text num lo hi A n c s p w
  · exact simple_22 text num lo hi A n c s p w
  · exact simple_23 text num lo hi A n c s p w
end

end Go.Proofs.Ytndefbecoahfhaa
