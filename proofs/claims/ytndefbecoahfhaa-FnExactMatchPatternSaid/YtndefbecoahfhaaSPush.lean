/- spec's l20Push and l20Later. Printed by gen_spush.py. -/
import Derived.Test.YtndefbecoahfhaaSpecMem
namespace Go.Proofs.Ytndefbecoahfhaa
open Go.RowKit

set_option maxRecDepth 100000 in
set_option maxHeartbeats 1000000 in
theorem push_any {w0 w : World} {F : List (Nat × Obj)} {M : Nat} {m : Mst} {gl : List SG} {gi ai : Int} {gv hv cv ev : Value} {hs : List Value} (h : SpecAt w0 w F M m gl gi ai gv hv cv ev hs) (kind : Nat) (p : Pat) (kA : Option Addr) (kc : Nat) (next fr : Int) (hk : KidsIn w0 p (.slice kA p.kids.length kc)) (hn : gl.length ≤ 100000) :
    Calls Try.prog 70 #[.pointer (some ⟨M, 0, none⟩), .agg #[.int .i64 kind, .int .i64 p.op, .string p.text, .int .i64 p.num, .int .i64 p.lo, .int .i64 p.hi, .slice kA p.kids.length kc, .int .i64 next, .int .i64 fr]] w
      fun e w' => e = .returned (.int .i64 gl.length) ∧ ∃ gv', SpecAt w0 w' F M m (gl ++ [⟨kind, p, .slice kA p.kids.length kc, next, fr⟩]) gi ai gv' hv cv ev hs := by
  have hblk := h.blk
  obtain ⟨gA, gc, rfl, _, _⟩ := h.goals.form
  obtain ⟨hA, hc, rfl, _, _⟩ := h.chs.form
  obtain ⟨cA, cc, rfl, _, _⟩ := h.caps.form
  obtain ⟨eA, ec, rfl, _, _⟩ := h.evs.form
  have HI := Lib.hid h
  have HK := Lib.hid hk
  clear h hk
  go_enter Try.func70, Try.ntmps70
  go_wp2_with fail
  -- region 1: 11 operations, the last [7, 8, 9, 10]
  refine wpU_begin [7, 8, 9, 10] [0] (by kernel_rfl) (fun w3 hw3 => ?_)
  obtain ⟨hl3, hq3⟩ := drew_alloc hw3
  have HI3 := Lib.hid (HI.out.later hl3)
  have HQ3 := Lib.hid hq3
  clear hw3 hl3 hq3 hblk
  refine wpU_pure 0 (some 5) (v := ?_) rfl rfl (by kernel_rfl) (fun _ _ _ h => h) rfl (fun x => ?_) ?_
  rotate_left 1
  · go_simp; first | done | with_reducible rfl | rw [if_neg (by omega)] | rw [if_pos (by omega)]
  simp only [Act.put, List.setIfInBounds_toArray, List.set_cons_zero, List.set_cons_succ]
  refine wpU_take 1 (some 6) (v := ?_) rfl rfl (by kernel_rfl) (fun _ _ _ h => h) rfl (fun x hx => ?_) ?_
  rotate_left 1
  · go_simp; first | done | with_reducible rfl | rw [if_neg (by omega)] | rw [if_pos (by omega)]
  simp only [Act.put, List.setIfInBounds_toArray, List.set_cons_zero, List.set_cons_succ]
  refine wpU_take 2 (some 7) (v := ?_) rfl rfl (by kernel_rfl) (fun _ _ _ h => h) rfl (fun x hx => ?_) ?_
  rotate_left 1
  · go_simp; first | done | with_reducible rfl | rw [if_neg (by omega)] | rw [if_pos (by omega)]
  simp only [Act.put, List.setIfInBounds_toArray, List.set_cons_zero, List.set_cons_succ]
  refine wpU_take 3 (some 8) (v := ?_) rfl rfl (by kernel_rfl) (fun _ _ _ h => h) rfl (fun x hx => ?_) ?_
  rotate_left 1
  · go_simp; first | done | with_reducible rfl | rw [if_neg (by omega)] | rw [if_pos (by omega)]
  simp only [Act.put, List.setIfInBounds_toArray, List.set_cons_zero, List.set_cons_succ]
  refine wpU_take 4 (some 9) (v := ?_) rfl rfl (by kernel_rfl) (fun _ _ _ h => h) rfl (fun x hx => ?_) ?_
  rotate_left 1
  · obtain ⟨s0, s1, s2, s3, s4, s5⟩ := cells_s (hx.has HI3.out.blk); obtain ⟨q0, q1, q2, q3, q4, q5, q6, q7, q8⟩ := cells_q (hx.has HQ3.out); go_simp; first | done | with_reducible rfl | rw [if_neg (by omega)] | rw [if_pos (by omega)]
  simp only [Act.put, List.setIfInBounds_toArray, List.set_cons_zero, List.set_cons_succ]
  refine wpU_take 5 (some 10) (v := ?_) rfl rfl (by kernel_rfl) (fun _ _ _ h => h) rfl (fun x hx => ?_) ?_
  rotate_left 1
  · obtain ⟨s0, s1, s2, s3, s4, s5⟩ := cells_s (hx.has HI3.out.blk); obtain ⟨q0, q1, q2, q3, q4, q5, q6, q7, q8⟩ := cells_q (hx.has HQ3.out); go_simp; first | done | with_reducible rfl | rw [if_neg (by omega)] | rw [if_pos (by omega)]
  simp only [Act.put, List.setIfInBounds_toArray, List.set_cons_zero, List.set_cons_succ]
  refine wpU_step 6 (by kernel_rfl) rfl rfl ?_  -- buildSlice 
  go_wp2_with fail
  refine ⟨(Later.refl _).alloc _, ?_⟩
  refine wpU_last [_, _, _, _] (by kernel_rfl) rfl rfl ?_
  simp only [List.getElem_toArray, List.getElem_cons_succ, List.getElem_cons_zero]
  obtain ⟨i, hi, hz0, hz1, hz2⟩ := info_parts infoQ
  refine wpList_append_has _ rfl _ _ _ rfl w0.heap.size TQ i _ 9 96 Try.underlying111 hi hz0 hz1 hz2 rfl _ gl.length (sgCells gl) rfl ((HI3.out.later ((Later.refl _).alloc _)).goals) _ 1 1 (SG.cells ⟨kind, p, .slice kA p.kids.length kc, next, fr⟩) rfl rfl ?_ ?_ (by omega) ?_ ?_ ?_ ?_
  · exact cells_nine _ _ _ _ _ _ _ _ _ _ _
  · intro u hu
    simp only [List.mem_cons, List.not_mem_nil, or_false] at hu
    rcases hu with rfl | rfl | rfl | rfl | rfl | rfl | rfl | rfl | rfl <;> rfl
  · simp only [maxLen]; omega
  · omega
  · exact (HI3.out.later ((Later.refl w3).alloc _)).below.size
  · intro v' w' hrow hgrow hblock
    obtain ⟨vA, vc, rfl, _, _⟩ := hrow.form
    obtain ⟨hM', hI'⟩ := (HI3.out.later ((Later.refl w3).alloc _)).grownG hrow hgrow hblock HK.out
    have HI' := Lib.hid hI'
    obtain ⟨s0, s1, s2, s3, s4, s5⟩ := cells_s hM'
    have f0 := frozen_of_row w' M 0 _ _ hM'
    have hlen : ((gl.length : Int) + 1) ≤ 100001 := by omega
    clear hM' hI' hrow hgrow hblock
    go_wp2_with fail
    go_ret
    exact ⟨by first | rfl | simp, _, HI'.out⟩

set_option maxRecDepth 100000 in
set_option maxHeartbeats 1000000 in
theorem later_any {w0 w : World} {F : List (Nat × Obj)} {M : Nat} {m : Mst} {gl : List SG} {gi ai : Int} {gv hv cv ev : Value} {hs : List Value} (h : SpecAt w0 w F M m gl gi ai gv hv cv ev hs) (c : Choice) (i at_ : Int) (hat : at_ = (c.at_ : Int)) (hnc : c.ncap = m.caps.length) (hi : (c.stop = true ∧ i = -2) ∨ (c.stop = false ∧ Chain gl i c.goals)) (hn : m.choices.length ≤ 100000) :
    Calls Try.prog 94 #[.pointer (some ⟨M, 0, none⟩), .int .i64 i, .int .i64 at_] w
      fun e w' => e = .returned (.tuple #[]) ∧ ∃ hv' hs', SpecAt w0 w' F M { m with choices := m.choices ++ [c] } gl gi ai gv hv' cv ev hs' := by
  have hblk := h.blk
  obtain ⟨gA, gc, rfl, _, _⟩ := h.goals.form
  obtain ⟨hA, hc, rfl, _, _⟩ := h.chs.form
  obtain ⟨cA, cc, rfl, _, _⟩ := h.caps.form
  obtain ⟨eA, ec, rfl, _, _⟩ := h.evs.form
  have HI := Lib.hid h
  have HC := Lib.hid hi
  have HN := Lib.hid hnc
  subst hat
  clear h hi hnc
  go_enter Try.func94, Try.ntmps94
  -- region 0: 18 operations, the last [14, 15, 16, 17]
  refine wpU_begin [14, 15, 16, 17] [0] (by kernel_rfl) (fun w3 hw3 => ?_)
  have HI3 := Lib.hid (HI.out.later (drew_later hw3))
  clear hw3 hblk
  refine wpU_pure 0 (some 6) (v := ?_) rfl rfl (by kernel_rfl) (fun _ _ _ h => h) rfl (fun x => ?_) ?_
  rotate_left 1
  · go_simp; first | done | with_reducible rfl | rw [if_neg (by omega)] | rw [if_pos (by omega)]
  simp only [Act.put, List.setIfInBounds_toArray, List.set_cons_zero, List.set_cons_succ]
  refine wpU_take 1 (some 7) (v := ?_) rfl rfl (by kernel_rfl) (fun _ _ _ h => h) rfl (fun x hx => ?_) ?_
  rotate_left 1
  · go_simp; first | done | with_reducible rfl | rw [if_neg (by omega)] | rw [if_pos (by omega)]
  simp only [Act.put, List.setIfInBounds_toArray, List.set_cons_zero, List.set_cons_succ]
  refine wpU_take 2 (some 8) (v := ?_) rfl rfl (by kernel_rfl) (fun _ _ _ h => h) rfl (fun x hx => ?_) ?_
  rotate_left 1
  · go_simp; first | done | with_reducible rfl | rw [if_neg (by omega)] | rw [if_pos (by omega)]
  simp only [Act.put, List.setIfInBounds_toArray, List.set_cons_zero, List.set_cons_succ]
  refine wpU_take 3 (some 9) (v := ?_) rfl rfl (by kernel_rfl) (fun _ _ _ h => h) rfl (fun x hx => ?_) ?_
  rotate_left 1
  · go_simp; first | done | with_reducible rfl | rw [if_neg (by omega)] | rw [if_pos (by omega)]
  simp only [Act.put, List.setIfInBounds_toArray, List.set_cons_zero, List.set_cons_succ]
  refine wpU_take 4 (some 10) (v := ?_) rfl rfl (by kernel_rfl) (fun _ _ _ h => h) rfl (fun x hx => ?_) ?_
  rotate_left 1
  · obtain ⟨s0, s1, s2, s3, s4, s5⟩ := cells_s (hx.has HI3.out.blk); go_simp; first | done | with_reducible rfl | rw [if_neg (by omega)] | rw [if_pos (by omega)]
  simp only [Act.put, List.setIfInBounds_toArray, List.set_cons_zero, List.set_cons_succ]
  refine wpU_take 5 (some 11) (v := ?_) rfl rfl (by kernel_rfl) (fun _ _ _ h => h) rfl (fun x hx => ?_) ?_
  rotate_left 1
  · go_simp; first | done | with_reducible rfl | rw [if_neg (by omega)] | rw [if_pos (by omega)]
  simp only [Act.put, List.setIfInBounds_toArray, List.set_cons_zero, List.set_cons_succ]
  refine wpU_take 6 (some 12) (v := ?_) rfl rfl (by kernel_rfl) (fun _ _ _ h => h) rfl (fun x hx => ?_) ?_
  rotate_left 1
  · go_simp; first | done | with_reducible rfl | rw [if_neg (by omega)] | rw [if_pos (by omega)]
  simp only [Act.put, List.setIfInBounds_toArray, List.set_cons_zero, List.set_cons_succ]
  refine wpU_take 7 (some 13) (v := ?_) rfl rfl (by kernel_rfl) (fun _ _ _ h => h) rfl (fun x hx => ?_) ?_
  rotate_left 1
  · go_simp; first | done | with_reducible rfl | rw [if_neg (by omega)] | rw [if_pos (by omega)]
  simp only [Act.put, List.setIfInBounds_toArray, List.set_cons_zero, List.set_cons_succ]
  refine wpU_take 8 (some 14) (v := ?_) rfl rfl (by kernel_rfl) (fun _ _ _ h => h) rfl (fun x hx => ?_) ?_
  rotate_left 1
  · go_simp; first | done | with_reducible rfl | rw [if_neg (by omega)] | rw [if_pos (by omega)]
  simp only [Act.put, List.setIfInBounds_toArray, List.set_cons_zero, List.set_cons_succ]
  refine wpU_take 9 (some 15) (v := ?_) rfl rfl (by kernel_rfl) (fun _ _ _ h => h) rfl (fun x hx => ?_) ?_
  rotate_left 1
  · go_simp; first | done | with_reducible rfl | rw [if_neg (by omega)] | rw [if_pos (by omega)]
  simp only [Act.put, List.setIfInBounds_toArray, List.set_cons_zero, List.set_cons_succ]
  refine wpU_take 10 (some 16) (v := ?_) rfl rfl (by kernel_rfl) (fun _ _ _ h => h) rfl (fun x hx => ?_) ?_
  rotate_left 1
  · obtain ⟨s0, s1, s2, s3, s4, s5⟩ := cells_s (hx.has HI3.out.blk); go_simp; first | done | with_reducible rfl | rw [if_neg (by omega)] | rw [if_pos (by omega)]
  simp only [Act.put, List.setIfInBounds_toArray, List.set_cons_zero, List.set_cons_succ]
  refine wpU_take 11 (some 17) (v := ?_) rfl rfl (by kernel_rfl) (fun _ _ _ h => h) rfl (fun x hx => ?_) ?_
  rotate_left 1
  · go_simp; first | done | with_reducible rfl | rw [if_neg (by omega)] | rw [if_pos (by omega)]
  simp only [Act.put, List.setIfInBounds_toArray, List.set_cons_zero, List.set_cons_succ]
  refine wpU_take 12 (some 18) (v := ?_) rfl rfl (by kernel_rfl) (fun _ _ _ h => h) rfl (fun x hx => ?_) ?_
  rotate_left 1
  · go_simp; first | done | with_reducible rfl | rw [if_neg (by omega)] | rw [if_pos (by omega)]
  simp only [Act.put, List.setIfInBounds_toArray, List.set_cons_zero, List.set_cons_succ]
  refine wpU_step 13 (by kernel_rfl) rfl rfl ?_  -- buildSlice 
  go_wp2_with fail
  refine ⟨(Later.refl _).alloc _, ?_⟩
  refine wpU_last [_, _, _, _] (by kernel_rfl) rfl rfl ?_
  simp only [List.getElem_toArray, List.getElem_cons_succ, List.getElem_cons_zero]
  obtain ⟨i', hi, hz0, hz1, hz2⟩ := info_parts infoD
  refine wpList_append_has _ rfl _ _ _ rfl w0.heap.size TD i' _ 3 24 Try.underlying112 hi hz0 hz1 hz2 rfl _ m.choices.length hs rfl ((HI3.out.later ((Later.refl _).alloc _)).chs) _ 1 1 [.int .i64 i, .int .i64 c.at_, .int .i64 m.caps.length] rfl rfl ?_ ?_ (by omega) ?_ ?_ ?_ ?_
  · exact cells_three _ _ _ _ _
  · intro u hu
    simp only [List.mem_cons, List.not_mem_nil, or_false] at hu
    rcases hu with rfl | rfl | rfl <;> rfl
  · simp only [maxLen]; omega
  · omega
  · exact (HI3.out.later ((Later.refl w3).alloc _)).below.size
  · intro v' w' hrow hgrow hblock
    obtain ⟨vA, vc, rfl, _, _⟩ := hrow.form
    obtain ⟨hM', hI'⟩ := (HI3.out.later ((Later.refl w3).alloc _)).grownH (c := c) hrow hgrow hblock ⟨i, by rw [HN.out], HC.out⟩
    have HI' := Lib.hid hI'
    obtain ⟨s0, s1, s2, s3, s4, s5⟩ := cells_s hM'
    have f1 := frozen_of_row w' M 1 _ _ hM'
    clear hM' hI' hrow hgrow hblock
    go_wp2_with fail
    go_end0
    exact ⟨rfl, _, _, HI'.out⟩

end Go.Proofs.Ytndefbecoahfhaa
