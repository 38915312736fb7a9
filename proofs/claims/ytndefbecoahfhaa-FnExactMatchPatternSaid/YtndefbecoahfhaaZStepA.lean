/- Part of the steps of the reference matcher. -/
import Derived.Test.YtndefbecoahfhaaSStepBase

/- spec's l20Step. Printed by gen_sstep.py. -/
namespace Go.Proofs.Ytndefbecoahfhaa
open Go.RowKit

set_option maxRecDepth 100000 in
set_option maxHeartbeats 1000000 in
theorem sstep_cap {w0 w : World} {M : Nat} {m : Mst} {gl : List SG} {gv hv cv ev : Value} {hs : List Value} {text : ByteArray} {num lo hi : Int} {kids : List Pat} {A : Option Addr} {c : Nat} {fr nx : Int} {gs : List Goal} {j : Nat} {s : ByteArray} {dv : Value} {op : Int}
    (h : SpecAt w0 w [] M m gl (j : Int) m.at_ gv hv cv ev hs) (hj : gl[j]? = some ⟨1, .mk op text num lo hi kids, .slice A kids.length c, nx, fr⟩) (hch : Chain gl nx gs) (hlen : gl.length ≤ 90000) (hne : m.caps.length ≤ 5000) :
    Calls Try.prog 71 #[.pointer (some ⟨M, 0, none⟩), dv, .string s] w (SDid w0 M m gl.length (.go gs (m.cap ⟨num, fr, m.at_⟩))) := by
  have hblk := h.blk
  obtain ⟨g0, gc, rfl⟩ := goal_row h hj
  obtain ⟨hA, hc, rfl, _, _⟩ := h.chs.form
  obtain ⟨cA, cc, rfl, _, _⟩ := h.caps.form
  obtain ⟨eA, ec, rfl, _, _⟩ := h.evs.form
  obtain ⟨s0, s1, s2, s3, s4, s5⟩ := cells_s hblk
  have fs2 := frozen_of_row w M 2 _ _ hblk
  have hMlt := has_lt hblk
  obtain ⟨q0, q1, q2, q3, q4, q5, q6, q7, q8⟩ := goal_cells h hj
  simp only [Pat.op, Pat.text, Pat.num, Pat.lo, Pat.hi] at q1 q2 q3 q4 q5
  have hjl : j < gl.length := (List.getElem?_eq_some_iff.1 hj).1
  have hjl' : (j : Int) < gl.length := by omega
  have hkid : KidsIn w0 (.mk op text num lo hi kids) (.slice A kids.length c) := h.kids _ (List.mem_of_getElem? hj)
  have HKID := Lib.hid hkid
  have HR := Lib.hid (kids_row hkid)
  have HCH := Lib.hid hch
  have HJ := Lib.hid hj
  have HI2 := Lib.hid (h.enter (ogOf ⟨1, .mk op text num lo hi kids, .slice A kids.length c, nx, fr⟩) (opOf (.mk op text num lo hi kids) (.slice A kids.length c)) nx)
  have hbel := h.below.size
  clear h hblk hkid hch hj
  go_enter Try.func71, Try.ntmps71
  go_wp2_with fail
  clear s0 s1 s2 s3 s4 s5 q0 q1 q2 q3 q4 q5 q6 q7 q8 fs2
  -- region 7: 19 operations, the last [15, 16, 17, 18]
  refine wpU_begin [15, 16, 17, 18] [0] (by kernel_rfl) (fun w3 hw3 => ?_)
  have HI3 := Lib.hid (HI2.out.later (drew_later hw3))
  clear hw3
  refine wpU_pure 0 (some 36) (v := ?_) rfl rfl (by kernel_rfl) (fun _ _ _ h => h) rfl (fun x => ?_) ?_
  rotate_left 1
  · go_simp; first | done | with_reducible rfl | rw [if_neg (by omega)] | rw [if_pos (by omega)]
  simp only [Act.put, List.setIfInBounds_toArray, List.set_cons_zero, List.set_cons_succ]
  refine wpU_take 1 (some 37) (v := ?_) rfl rfl (by kernel_rfl) (fun _ _ _ h => h) rfl (fun x hx => ?_) ?_
  rotate_left 1
  · go_simp; first | done | with_reducible rfl | rw [if_neg (by omega)] | rw [if_pos (by omega)]
  simp only [Act.put, List.setIfInBounds_toArray, List.set_cons_zero, List.set_cons_succ]
  refine wpU_take 2 (some 38) (v := ?_) rfl rfl (by kernel_rfl) (fun _ _ _ h => h) rfl (fun x hx => ?_) ?_
  rotate_left 1
  · go_simp; first | done | with_reducible rfl | rw [if_neg (by omega)] | rw [if_pos (by omega)]
  simp only [Act.put, List.setIfInBounds_toArray, List.set_cons_zero, List.set_cons_succ]
  refine wpU_take 3 (some 39) (v := ?_) rfl rfl (by kernel_rfl) (fun _ _ _ h => h) rfl (fun x hx => ?_) ?_
  rotate_left 1
  · go_simp; first | done | with_reducible rfl | rw [if_neg (by omega)] | rw [if_pos (by omega)]
  simp only [Act.put, List.setIfInBounds_toArray, List.set_cons_zero, List.set_cons_succ]
  refine wpU_take 4 (some 40) (v := ?_) rfl rfl (by kernel_rfl) (fun _ _ _ h => h) rfl (fun x hx => ?_) ?_
  rotate_left 1
  · obtain ⟨s0, s1, s2, s3, s4, s5⟩ := cells_s (hx.has HI3.out.blk); obtain ⟨p0, p1, p2, p3, p4, p5⟩ := cells_p (hx.has (HI3.out.foreign _ List.mem_cons_self).blk); obtain ⟨q0, q1, q2, q3, q4, q5, q6, q7, q8⟩ := cells_q (hx.has (HI3.out.foreign _ (List.mem_cons_of_mem _ List.mem_cons_self)).blk); simp only [Pat.op, Pat.text, Pat.num, Pat.lo, Pat.hi] at *; go_simp; first | done | with_reducible rfl | rw [if_neg (by omega)] | rw [if_pos (by omega)]
  simp only [Act.put, List.setIfInBounds_toArray, List.set_cons_zero, List.set_cons_succ]
  refine wpU_take 5 (some 41) (v := ?_) rfl rfl (by kernel_rfl) (fun _ _ _ h => h) rfl (fun x hx => ?_) ?_
  rotate_left 1
  · go_simp; first | done | with_reducible rfl | rw [if_neg (by omega)] | rw [if_pos (by omega)]
  simp only [Act.put, List.setIfInBounds_toArray, List.set_cons_zero, List.set_cons_succ]
  refine wpU_take 6 (some 42) (v := ?_) rfl rfl (by kernel_rfl) (fun _ _ _ h => h) rfl (fun x hx => ?_) ?_
  rotate_left 1
  · obtain ⟨s0, s1, s2, s3, s4, s5⟩ := cells_s (hx.has HI3.out.blk); obtain ⟨p0, p1, p2, p3, p4, p5⟩ := cells_p (hx.has (HI3.out.foreign _ List.mem_cons_self).blk); obtain ⟨q0, q1, q2, q3, q4, q5, q6, q7, q8⟩ := cells_q (hx.has (HI3.out.foreign _ (List.mem_cons_of_mem _ List.mem_cons_self)).blk); simp only [Pat.op, Pat.text, Pat.num, Pat.lo, Pat.hi] at *; go_simp; first | done | with_reducible rfl | rw [if_neg (by omega)] | rw [if_pos (by omega)]
  simp only [Act.put, List.setIfInBounds_toArray, List.set_cons_zero, List.set_cons_succ]
  refine wpU_take 7 (some 43) (v := ?_) rfl rfl (by kernel_rfl) (fun _ _ _ h => h) rfl (fun x hx => ?_) ?_
  rotate_left 1
  · go_simp; first | done | with_reducible rfl | rw [if_neg (by omega)] | rw [if_pos (by omega)]
  simp only [Act.put, List.setIfInBounds_toArray, List.set_cons_zero, List.set_cons_succ]
  refine wpU_take 8 (some 44) (v := ?_) rfl rfl (by kernel_rfl) (fun _ _ _ h => h) rfl (fun x hx => ?_) ?_
  rotate_left 1
  · obtain ⟨s0, s1, s2, s3, s4, s5⟩ := cells_s (hx.has HI3.out.blk); obtain ⟨p0, p1, p2, p3, p4, p5⟩ := cells_p (hx.has (HI3.out.foreign _ List.mem_cons_self).blk); obtain ⟨q0, q1, q2, q3, q4, q5, q6, q7, q8⟩ := cells_q (hx.has (HI3.out.foreign _ (List.mem_cons_of_mem _ List.mem_cons_self)).blk); simp only [Pat.op, Pat.text, Pat.num, Pat.lo, Pat.hi] at *; go_simp; first | done | with_reducible rfl | rw [if_neg (by omega)] | rw [if_pos (by omega)]
  simp only [Act.put, List.setIfInBounds_toArray, List.set_cons_zero, List.set_cons_succ]
  refine wpU_take 9 (some 45) (v := ?_) rfl rfl (by kernel_rfl) (fun _ _ _ h => h) rfl (fun x hx => ?_) ?_
  rotate_left 1
  · go_simp; first | done | with_reducible rfl | rw [if_neg (by omega)] | rw [if_pos (by omega)]
  simp only [Act.put, List.setIfInBounds_toArray, List.set_cons_zero, List.set_cons_succ]
  refine wpU_take 10 (some 46) (v := ?_) rfl rfl (by kernel_rfl) (fun _ _ _ h => h) rfl (fun x hx => ?_) ?_
  rotate_left 1
  · go_simp; first | done | with_reducible rfl | rw [if_neg (by omega)] | rw [if_pos (by omega)]
  simp only [Act.put, List.setIfInBounds_toArray, List.set_cons_zero, List.set_cons_succ]
  refine wpU_take 11 (some 47) (v := ?_) rfl rfl (by kernel_rfl) (fun _ _ _ h => h) rfl (fun x hx => ?_) ?_
  rotate_left 1
  · go_simp; first | done | with_reducible rfl | rw [if_neg (by omega)] | rw [if_pos (by omega)]
  simp only [Act.put, List.setIfInBounds_toArray, List.set_cons_zero, List.set_cons_succ]
  refine wpU_take 12 (some 48) (v := ?_) rfl rfl (by kernel_rfl) (fun _ _ _ h => h) rfl (fun x hx => ?_) ?_
  rotate_left 1
  · obtain ⟨s0, s1, s2, s3, s4, s5⟩ := cells_s (hx.has HI3.out.blk); obtain ⟨p0, p1, p2, p3, p4, p5⟩ := cells_p (hx.has (HI3.out.foreign _ List.mem_cons_self).blk); obtain ⟨q0, q1, q2, q3, q4, q5, q6, q7, q8⟩ := cells_q (hx.has (HI3.out.foreign _ (List.mem_cons_of_mem _ List.mem_cons_self)).blk); simp only [Pat.op, Pat.text, Pat.num, Pat.lo, Pat.hi] at *; go_simp; first | done | with_reducible rfl | rw [if_neg (by omega)] | rw [if_pos (by omega)]
  simp only [Act.put, List.setIfInBounds_toArray, List.set_cons_zero, List.set_cons_succ]
  refine wpU_take 13 (some 49) (v := ?_) rfl rfl (by kernel_rfl) (fun _ _ _ h => h) rfl (fun x hx => ?_) ?_
  rotate_left 1
  · go_simp; first | done | with_reducible rfl | rw [if_neg (by omega)] | rw [if_pos (by omega)]
  simp only [Act.put, List.setIfInBounds_toArray, List.set_cons_zero, List.set_cons_succ]
  refine wpU_step 14 (by kernel_rfl) rfl rfl ?_  -- buildSlice 
  go_wp2_with fail
  refine ⟨(Later.refl _).alloc _, ?_⟩
  refine wpU_last [_, _, _, _] (by kernel_rfl) rfl rfl ?_
  simp only [List.getElem_toArray, List.getElem_cons_succ, List.getElem_cons_zero]
  obtain ⟨i, hi, hz0, hz1, hz2⟩ := info_parts infoK
  refine wpList_append_has _ rfl _ _ _ rfl w0.heap.size TK i _ 3 24 Try.underlying31 hi hz0 hz1 hz2 rfl _ m.caps.length (capCells m.caps) rfl ((HI3.out.later ((Later.refl _).alloc _)).caps) _ 1 1 [.int .i64 num, .int .i64 fr, .int .i64 m.at_] rfl rfl ?_ ?_ (by omega) ?_ ?_ ?_ ?_
  · exact cells_three _ _ _ _ _
  · intro u hu
    simp only [List.mem_cons, List.not_mem_nil, or_false] at hu
    rcases hu with rfl | rfl | rfl <;> rfl
  · simp only [maxLen]; omega
  · omega
  · exact (HI3.out.later ((Later.refl w3).alloc _)).below.size
  · intro v' w' hrow hgrow hblock
    obtain ⟨vA, vc, rfl, _, _⟩ := hrow.form
    obtain ⟨hM', hI'⟩ := (HI3.out.later ((Later.refl w3).alloc _)).grownC (c := ⟨num, fr, m.at_⟩) hrow hgrow hblock
    have HI' := Lib.hid hI'
    obtain ⟨s0, s1, s2, s3, s4, s5⟩ := cells_s hM'
    have fF := frozen_of_row w' M 4 _ _ hM'
    clear hM' hI' hrow hgrow hblock
    go_wp2_with fail
    go_ret
    exact sdid_go (m' := m.cap ⟨num, fr, m.at_⟩) HI'.out HCH.out (by omega)

set_option maxRecDepth 100000 in
set_option maxHeartbeats 1000000 in
theorem sstep_event {w0 w : World} {M : Nat} {m : Mst} {gl : List SG} {gv hv cv ev : Value} {hs : List Value} {text : ByteArray} {num lo hi : Int} {kids : List Pat} {A : Option Addr} {c : Nat} {fr nx : Int} {gs : List Goal} {j : Nat} {s : ByteArray} {dv : Value} {op : Int}
    (h : SpecAt w0 w [] M m gl (j : Int) m.at_ gv hv cv ev hs) (hj : gl[j]? = some ⟨2, .mk op text num lo hi kids, .slice A kids.length c, nx, fr⟩) (hch : Chain gl nx gs) (hlen : gl.length ≤ 90000) (hne : m.events.length ≤ 5000) :
    Calls Try.prog 71 #[.pointer (some ⟨M, 0, none⟩), dv, .string s] w (SDid w0 M m gl.length (.go gs (m.event ⟨num, fr, m.at_⟩))) := by
  have hblk := h.blk
  obtain ⟨g0, gc, rfl⟩ := goal_row h hj
  obtain ⟨hA, hc, rfl, _, _⟩ := h.chs.form
  obtain ⟨cA, cc, rfl, _, _⟩ := h.caps.form
  obtain ⟨eA, ec, rfl, _, _⟩ := h.evs.form
  obtain ⟨s0, s1, s2, s3, s4, s5⟩ := cells_s hblk
  have fs2 := frozen_of_row w M 2 _ _ hblk
  have hMlt := has_lt hblk
  obtain ⟨q0, q1, q2, q3, q4, q5, q6, q7, q8⟩ := goal_cells h hj
  simp only [Pat.op, Pat.text, Pat.num, Pat.lo, Pat.hi] at q1 q2 q3 q4 q5
  have hjl : j < gl.length := (List.getElem?_eq_some_iff.1 hj).1
  have hjl' : (j : Int) < gl.length := by omega
  have hkid : KidsIn w0 (.mk op text num lo hi kids) (.slice A kids.length c) := h.kids _ (List.mem_of_getElem? hj)
  have HKID := Lib.hid hkid
  have HR := Lib.hid (kids_row hkid)
  have HCH := Lib.hid hch
  have HJ := Lib.hid hj
  have HI2 := Lib.hid (h.enter (ogOf ⟨2, .mk op text num lo hi kids, .slice A kids.length c, nx, fr⟩) (opOf (.mk op text num lo hi kids) (.slice A kids.length c)) nx)
  have hbel := h.below.size
  clear h hblk hkid hch hj
  go_enter Try.func71, Try.ntmps71
  go_wp2_with fail
  clear s0 s1 s2 s3 s4 s5 q0 q1 q2 q3 q4 q5 q6 q7 q8 fs2
  -- region 10: 19 operations, the last [15, 16, 17, 18]
  refine wpU_begin [15, 16, 17, 18] [0] (by kernel_rfl) (fun w3 hw3 => ?_)
  have HI3 := Lib.hid (HI2.out.later (drew_later hw3))
  clear hw3
  refine wpU_pure 0 (some 56) (v := ?_) rfl rfl (by kernel_rfl) (fun _ _ _ h => h) rfl (fun x => ?_) ?_
  rotate_left 1
  · go_simp; first | done | with_reducible rfl | rw [if_neg (by omega)] | rw [if_pos (by omega)]
  simp only [Act.put, List.setIfInBounds_toArray, List.set_cons_zero, List.set_cons_succ]
  refine wpU_take 1 (some 57) (v := ?_) rfl rfl (by kernel_rfl) (fun _ _ _ h => h) rfl (fun x hx => ?_) ?_
  rotate_left 1
  · go_simp; first | done | with_reducible rfl | rw [if_neg (by omega)] | rw [if_pos (by omega)]
  simp only [Act.put, List.setIfInBounds_toArray, List.set_cons_zero, List.set_cons_succ]
  refine wpU_take 2 (some 58) (v := ?_) rfl rfl (by kernel_rfl) (fun _ _ _ h => h) rfl (fun x hx => ?_) ?_
  rotate_left 1
  · go_simp; first | done | with_reducible rfl | rw [if_neg (by omega)] | rw [if_pos (by omega)]
  simp only [Act.put, List.setIfInBounds_toArray, List.set_cons_zero, List.set_cons_succ]
  refine wpU_take 3 (some 59) (v := ?_) rfl rfl (by kernel_rfl) (fun _ _ _ h => h) rfl (fun x hx => ?_) ?_
  rotate_left 1
  · go_simp; first | done | with_reducible rfl | rw [if_neg (by omega)] | rw [if_pos (by omega)]
  simp only [Act.put, List.setIfInBounds_toArray, List.set_cons_zero, List.set_cons_succ]
  refine wpU_take 4 (some 60) (v := ?_) rfl rfl (by kernel_rfl) (fun _ _ _ h => h) rfl (fun x hx => ?_) ?_
  rotate_left 1
  · obtain ⟨s0, s1, s2, s3, s4, s5⟩ := cells_s (hx.has HI3.out.blk); obtain ⟨p0, p1, p2, p3, p4, p5⟩ := cells_p (hx.has (HI3.out.foreign _ List.mem_cons_self).blk); obtain ⟨q0, q1, q2, q3, q4, q5, q6, q7, q8⟩ := cells_q (hx.has (HI3.out.foreign _ (List.mem_cons_of_mem _ List.mem_cons_self)).blk); simp only [Pat.op, Pat.text, Pat.num, Pat.lo, Pat.hi] at *; go_simp; first | done | with_reducible rfl | rw [if_neg (by omega)] | rw [if_pos (by omega)]
  simp only [Act.put, List.setIfInBounds_toArray, List.set_cons_zero, List.set_cons_succ]
  refine wpU_take 5 (some 61) (v := ?_) rfl rfl (by kernel_rfl) (fun _ _ _ h => h) rfl (fun x hx => ?_) ?_
  rotate_left 1
  · go_simp; first | done | with_reducible rfl | rw [if_neg (by omega)] | rw [if_pos (by omega)]
  simp only [Act.put, List.setIfInBounds_toArray, List.set_cons_zero, List.set_cons_succ]
  refine wpU_take 6 (some 62) (v := ?_) rfl rfl (by kernel_rfl) (fun _ _ _ h => h) rfl (fun x hx => ?_) ?_
  rotate_left 1
  · obtain ⟨s0, s1, s2, s3, s4, s5⟩ := cells_s (hx.has HI3.out.blk); obtain ⟨p0, p1, p2, p3, p4, p5⟩ := cells_p (hx.has (HI3.out.foreign _ List.mem_cons_self).blk); obtain ⟨q0, q1, q2, q3, q4, q5, q6, q7, q8⟩ := cells_q (hx.has (HI3.out.foreign _ (List.mem_cons_of_mem _ List.mem_cons_self)).blk); simp only [Pat.op, Pat.text, Pat.num, Pat.lo, Pat.hi] at *; go_simp; first | done | with_reducible rfl | rw [if_neg (by omega)] | rw [if_pos (by omega)]
  simp only [Act.put, List.setIfInBounds_toArray, List.set_cons_zero, List.set_cons_succ]
  refine wpU_take 7 (some 63) (v := ?_) rfl rfl (by kernel_rfl) (fun _ _ _ h => h) rfl (fun x hx => ?_) ?_
  rotate_left 1
  · go_simp; first | done | with_reducible rfl | rw [if_neg (by omega)] | rw [if_pos (by omega)]
  simp only [Act.put, List.setIfInBounds_toArray, List.set_cons_zero, List.set_cons_succ]
  refine wpU_take 8 (some 64) (v := ?_) rfl rfl (by kernel_rfl) (fun _ _ _ h => h) rfl (fun x hx => ?_) ?_
  rotate_left 1
  · obtain ⟨s0, s1, s2, s3, s4, s5⟩ := cells_s (hx.has HI3.out.blk); obtain ⟨p0, p1, p2, p3, p4, p5⟩ := cells_p (hx.has (HI3.out.foreign _ List.mem_cons_self).blk); obtain ⟨q0, q1, q2, q3, q4, q5, q6, q7, q8⟩ := cells_q (hx.has (HI3.out.foreign _ (List.mem_cons_of_mem _ List.mem_cons_self)).blk); simp only [Pat.op, Pat.text, Pat.num, Pat.lo, Pat.hi] at *; go_simp; first | done | with_reducible rfl | rw [if_neg (by omega)] | rw [if_pos (by omega)]
  simp only [Act.put, List.setIfInBounds_toArray, List.set_cons_zero, List.set_cons_succ]
  refine wpU_take 9 (some 65) (v := ?_) rfl rfl (by kernel_rfl) (fun _ _ _ h => h) rfl (fun x hx => ?_) ?_
  rotate_left 1
  · go_simp; first | done | with_reducible rfl | rw [if_neg (by omega)] | rw [if_pos (by omega)]
  simp only [Act.put, List.setIfInBounds_toArray, List.set_cons_zero, List.set_cons_succ]
  refine wpU_take 10 (some 66) (v := ?_) rfl rfl (by kernel_rfl) (fun _ _ _ h => h) rfl (fun x hx => ?_) ?_
  rotate_left 1
  · go_simp; first | done | with_reducible rfl | rw [if_neg (by omega)] | rw [if_pos (by omega)]
  simp only [Act.put, List.setIfInBounds_toArray, List.set_cons_zero, List.set_cons_succ]
  refine wpU_take 11 (some 67) (v := ?_) rfl rfl (by kernel_rfl) (fun _ _ _ h => h) rfl (fun x hx => ?_) ?_
  rotate_left 1
  · go_simp; first | done | with_reducible rfl | rw [if_neg (by omega)] | rw [if_pos (by omega)]
  simp only [Act.put, List.setIfInBounds_toArray, List.set_cons_zero, List.set_cons_succ]
  refine wpU_take 12 (some 68) (v := ?_) rfl rfl (by kernel_rfl) (fun _ _ _ h => h) rfl (fun x hx => ?_) ?_
  rotate_left 1
  · obtain ⟨s0, s1, s2, s3, s4, s5⟩ := cells_s (hx.has HI3.out.blk); obtain ⟨p0, p1, p2, p3, p4, p5⟩ := cells_p (hx.has (HI3.out.foreign _ List.mem_cons_self).blk); obtain ⟨q0, q1, q2, q3, q4, q5, q6, q7, q8⟩ := cells_q (hx.has (HI3.out.foreign _ (List.mem_cons_of_mem _ List.mem_cons_self)).blk); simp only [Pat.op, Pat.text, Pat.num, Pat.lo, Pat.hi] at *; go_simp; first | done | with_reducible rfl | rw [if_neg (by omega)] | rw [if_pos (by omega)]
  simp only [Act.put, List.setIfInBounds_toArray, List.set_cons_zero, List.set_cons_succ]
  refine wpU_take 13 (some 69) (v := ?_) rfl rfl (by kernel_rfl) (fun _ _ _ h => h) rfl (fun x hx => ?_) ?_
  rotate_left 1
  · go_simp; first | done | with_reducible rfl | rw [if_neg (by omega)] | rw [if_pos (by omega)]
  simp only [Act.put, List.setIfInBounds_toArray, List.set_cons_zero, List.set_cons_succ]
  refine wpU_step 14 (by kernel_rfl) rfl rfl ?_  -- buildSlice 
  go_wp2_with fail
  refine ⟨(Later.refl _).alloc _, ?_⟩
  refine wpU_last [_, _, _, _] (by kernel_rfl) rfl rfl ?_
  simp only [List.getElem_toArray, List.getElem_cons_succ, List.getElem_cons_zero]
  obtain ⟨i, hi, hz0, hz1, hz2⟩ := info_parts infoK
  refine wpList_append_has _ rfl _ _ _ rfl w0.heap.size TK i _ 3 24 Try.underlying31 hi hz0 hz1 hz2 rfl _ m.events.length (capCells m.events) rfl ((HI3.out.later ((Later.refl _).alloc _)).evs) _ 1 1 [.int .i64 num, .int .i64 fr, .int .i64 m.at_] rfl rfl ?_ ?_ (by omega) ?_ ?_ ?_ ?_
  · exact cells_three _ _ _ _ _
  · intro u hu
    simp only [List.mem_cons, List.not_mem_nil, or_false] at hu
    rcases hu with rfl | rfl | rfl <;> rfl
  · simp only [maxLen]; omega
  · omega
  · exact (HI3.out.later ((Later.refl w3).alloc _)).below.size
  · intro v' w' hrow hgrow hblock
    obtain ⟨vA, vc, rfl, _, _⟩ := hrow.form
    obtain ⟨hM', hI'⟩ := (HI3.out.later ((Later.refl w3).alloc _)).grownE (c := ⟨num, fr, m.at_⟩) hrow hgrow hblock
    have HI' := Lib.hid hI'
    obtain ⟨s0, s1, s2, s3, s4, s5⟩ := cells_s hM'
    have fF := frozen_of_row w' M 5 _ _ hM'
    clear hM' hI' hrow hgrow hblock
    go_wp2_with fail
    go_ret
    exact sdid_go (m' := m.event ⟨num, fr, m.at_⟩) HI'.out HCH.out (by omega)

set_option maxRecDepth 100000 in
set_option maxHeartbeats 1000000 in
theorem sstep_cursor {w0 w : World} {M : Nat} {m : Mst} {gl : List SG} {gv hv cv ev : Value} {hs : List Value} {text : ByteArray} {num lo hi : Int} {kids : List Pat} {A : Option Addr} {c : Nat} {fr nx : Int} {gs : List Goal} {j : Nat} {s : ByteArray} {dv : Value} 
    (h : SpecAt w0 w [] M m gl (j : Int) m.at_ gv hv cv ev hs) (hj : gl[j]? = some ⟨0, .mk 18 text num lo hi kids, .slice A kids.length c, nx, fr⟩) (hch : Chain gl nx gs) (hlen : gl.length ≤ 90000) (hne : m.events.length ≤ 5000) :
    Calls Try.prog 71 #[.pointer (some ⟨M, 0, none⟩), dv, .string s] w (SDid w0 M m gl.length (.go gs (m.event ⟨num, m.at_, -1⟩))) := by
  have hblk := h.blk
  obtain ⟨g0, gc, rfl⟩ := goal_row h hj
  obtain ⟨hA, hc, rfl, _, _⟩ := h.chs.form
  obtain ⟨cA, cc, rfl, _, _⟩ := h.caps.form
  obtain ⟨eA, ec, rfl, _, _⟩ := h.evs.form
  obtain ⟨s0, s1, s2, s3, s4, s5⟩ := cells_s hblk
  have fs2 := frozen_of_row w M 2 _ _ hblk
  have hMlt := has_lt hblk
  obtain ⟨q0, q1, q2, q3, q4, q5, q6, q7, q8⟩ := goal_cells h hj
  simp only [Pat.op, Pat.text, Pat.num, Pat.lo, Pat.hi] at q1 q2 q3 q4 q5
  have hjl : j < gl.length := (List.getElem?_eq_some_iff.1 hj).1
  have hjl' : (j : Int) < gl.length := by omega
  have hkid : KidsIn w0 (.mk 18 text num lo hi kids) (.slice A kids.length c) := h.kids _ (List.mem_of_getElem? hj)
  have HKID := Lib.hid hkid
  have HR := Lib.hid (kids_row hkid)
  have HCH := Lib.hid hch
  have HJ := Lib.hid hj
  have HI2 := Lib.hid (h.enter (ogOf ⟨0, .mk 18 text num lo hi kids, .slice A kids.length c, nx, fr⟩) (opOf (.mk 18 text num lo hi kids) (.slice A kids.length c)) nx)
  have hbel := h.below.size
  clear h hblk hkid hch hj
  go_enter Try.func71, Try.ntmps71
  go_wp2_with fail
  clear s0 s1 s2 s3 s4 s5 q0 q1 q2 q3 q4 q5 q6 q7 q8 fs2
  -- region 41: 17 operations, the last [13, 14, 15, 16]
  refine wpU_begin [13, 14, 15, 16] [0] (by kernel_rfl) (fun w3 hw3 => ?_)
  have HI3 := Lib.hid (HI2.out.later (drew_later hw3))
  clear hw3
  refine wpU_pure 0 (some 228) (v := ?_) rfl rfl (by kernel_rfl) (fun _ _ _ h => h) rfl (fun x => ?_) ?_
  rotate_left 1
  · go_simp; first | done | with_reducible rfl | rw [if_neg (by omega)] | rw [if_pos (by omega)]
  simp only [Act.put, List.setIfInBounds_toArray, List.set_cons_zero, List.set_cons_succ]
  refine wpU_take 1 (some 229) (v := ?_) rfl rfl (by kernel_rfl) (fun _ _ _ h => h) rfl (fun x hx => ?_) ?_
  rotate_left 1
  · go_simp; first | done | with_reducible rfl | rw [if_neg (by omega)] | rw [if_pos (by omega)]
  simp only [Act.put, List.setIfInBounds_toArray, List.set_cons_zero, List.set_cons_succ]
  refine wpU_take 2 (some 230) (v := ?_) rfl rfl (by kernel_rfl) (fun _ _ _ h => h) rfl (fun x hx => ?_) ?_
  rotate_left 1
  · go_simp; first | done | with_reducible rfl | rw [if_neg (by omega)] | rw [if_pos (by omega)]
  simp only [Act.put, List.setIfInBounds_toArray, List.set_cons_zero, List.set_cons_succ]
  refine wpU_take 3 (some 231) (v := ?_) rfl rfl (by kernel_rfl) (fun _ _ _ h => h) rfl (fun x hx => ?_) ?_
  rotate_left 1
  · go_simp; first | done | with_reducible rfl | rw [if_neg (by omega)] | rw [if_pos (by omega)]
  simp only [Act.put, List.setIfInBounds_toArray, List.set_cons_zero, List.set_cons_succ]
  refine wpU_take 4 (some 232) (v := ?_) rfl rfl (by kernel_rfl) (fun _ _ _ h => h) rfl (fun x hx => ?_) ?_
  rotate_left 1
  · obtain ⟨s0, s1, s2, s3, s4, s5⟩ := cells_s (hx.has HI3.out.blk); obtain ⟨p0, p1, p2, p3, p4, p5⟩ := cells_p (hx.has (HI3.out.foreign _ List.mem_cons_self).blk); obtain ⟨q0, q1, q2, q3, q4, q5, q6, q7, q8⟩ := cells_q (hx.has (HI3.out.foreign _ (List.mem_cons_of_mem _ List.mem_cons_self)).blk); simp only [Pat.op, Pat.text, Pat.num, Pat.lo, Pat.hi] at *; go_simp; first | done | with_reducible rfl | rw [if_neg (by omega)] | rw [if_pos (by omega)]
  simp only [Act.put, List.setIfInBounds_toArray, List.set_cons_zero, List.set_cons_succ]
  refine wpU_take 5 (some 233) (v := ?_) rfl rfl (by kernel_rfl) (fun _ _ _ h => h) rfl (fun x hx => ?_) ?_
  rotate_left 1
  · go_simp; first | done | with_reducible rfl | rw [if_neg (by omega)] | rw [if_pos (by omega)]
  simp only [Act.put, List.setIfInBounds_toArray, List.set_cons_zero, List.set_cons_succ]
  refine wpU_take 6 (some 234) (v := ?_) rfl rfl (by kernel_rfl) (fun _ _ _ h => h) rfl (fun x hx => ?_) ?_
  rotate_left 1
  · obtain ⟨s0, s1, s2, s3, s4, s5⟩ := cells_s (hx.has HI3.out.blk); obtain ⟨p0, p1, p2, p3, p4, p5⟩ := cells_p (hx.has (HI3.out.foreign _ List.mem_cons_self).blk); obtain ⟨q0, q1, q2, q3, q4, q5, q6, q7, q8⟩ := cells_q (hx.has (HI3.out.foreign _ (List.mem_cons_of_mem _ List.mem_cons_self)).blk); simp only [Pat.op, Pat.text, Pat.num, Pat.lo, Pat.hi] at *; go_simp; first | done | with_reducible rfl | rw [if_neg (by omega)] | rw [if_pos (by omega)]
  simp only [Act.put, List.setIfInBounds_toArray, List.set_cons_zero, List.set_cons_succ]
  refine wpU_take 7 (some 235) (v := ?_) rfl rfl (by kernel_rfl) (fun _ _ _ h => h) rfl (fun x hx => ?_) ?_
  rotate_left 1
  · go_simp; first | done | with_reducible rfl | rw [if_neg (by omega)] | rw [if_pos (by omega)]
  simp only [Act.put, List.setIfInBounds_toArray, List.set_cons_zero, List.set_cons_succ]
  refine wpU_take 8 (some 236) (v := ?_) rfl rfl (by kernel_rfl) (fun _ _ _ h => h) rfl (fun x hx => ?_) ?_
  rotate_left 1
  · go_simp; first | done | with_reducible rfl | rw [if_neg (by omega)] | rw [if_pos (by omega)]
  simp only [Act.put, List.setIfInBounds_toArray, List.set_cons_zero, List.set_cons_succ]
  refine wpU_take 9 (some 237) (v := ?_) rfl rfl (by kernel_rfl) (fun _ _ _ h => h) rfl (fun x hx => ?_) ?_
  rotate_left 1
  · go_simp; first | done | with_reducible rfl | rw [if_neg (by omega)] | rw [if_pos (by omega)]
  simp only [Act.put, List.setIfInBounds_toArray, List.set_cons_zero, List.set_cons_succ]
  refine wpU_take 10 (some 238) (v := ?_) rfl rfl (by kernel_rfl) (fun _ _ _ h => h) rfl (fun x hx => ?_) ?_
  rotate_left 1
  · obtain ⟨s0, s1, s2, s3, s4, s5⟩ := cells_s (hx.has HI3.out.blk); obtain ⟨p0, p1, p2, p3, p4, p5⟩ := cells_p (hx.has (HI3.out.foreign _ List.mem_cons_self).blk); obtain ⟨q0, q1, q2, q3, q4, q5, q6, q7, q8⟩ := cells_q (hx.has (HI3.out.foreign _ (List.mem_cons_of_mem _ List.mem_cons_self)).blk); simp only [Pat.op, Pat.text, Pat.num, Pat.lo, Pat.hi] at *; go_simp; first | done | with_reducible rfl | rw [if_neg (by omega)] | rw [if_pos (by omega)]
  simp only [Act.put, List.setIfInBounds_toArray, List.set_cons_zero, List.set_cons_succ]
  refine wpU_take 11 (some 239) (v := ?_) rfl rfl (by kernel_rfl) (fun _ _ _ h => h) rfl (fun x hx => ?_) ?_
  rotate_left 1
  · go_simp; first | done | with_reducible rfl | rw [if_neg (by omega)] | rw [if_pos (by omega)]
  simp only [Act.put, List.setIfInBounds_toArray, List.set_cons_zero, List.set_cons_succ]
  refine wpU_step 12 (by kernel_rfl) rfl rfl ?_  -- buildSlice 
  go_wp2_with fail
  refine ⟨(Later.refl _).alloc _, ?_⟩
  refine wpU_last [_, _, _, _] (by kernel_rfl) rfl rfl ?_
  simp only [List.getElem_toArray, List.getElem_cons_succ, List.getElem_cons_zero]
  obtain ⟨i, hi, hz0, hz1, hz2⟩ := info_parts infoK
  refine wpList_append_has _ rfl _ _ _ rfl w0.heap.size TK i _ 3 24 Try.underlying31 hi hz0 hz1 hz2 rfl _ m.events.length (capCells m.events) rfl ((HI3.out.later ((Later.refl _).alloc _)).evs) _ 1 1 [.int .i64 num, .int .i64 m.at_, .int .i64 (-1)] rfl rfl ?_ ?_ (by omega) ?_ ?_ ?_ ?_
  · exact cells_three _ _ _ _ _
  · intro u hu
    simp only [List.mem_cons, List.not_mem_nil, or_false] at hu
    rcases hu with rfl | rfl | rfl <;> rfl
  · simp only [maxLen]; omega
  · omega
  · exact (HI3.out.later ((Later.refl w3).alloc _)).below.size
  · intro v' w' hrow hgrow hblock
    obtain ⟨vA, vc, rfl, _, _⟩ := hrow.form
    obtain ⟨hM', hI'⟩ := (HI3.out.later ((Later.refl w3).alloc _)).grownE (c := ⟨num, m.at_, -1⟩) hrow hgrow hblock
    have HI' := Lib.hid hI'
    obtain ⟨s0, s1, s2, s3, s4, s5⟩ := cells_s hM'
    have fF := frozen_of_row w' M 5 _ _ hM'
    clear hM' hI' hrow hgrow hblock
    go_wp2_with fail
    go_ret
    exact sdid_go (m' := m.event ⟨num, m.at_, -1⟩) HI'.out HCH.out (by omega)

end Go.Proofs.Ytndefbecoahfhaa

/- spec's l20Step. Printed by gen_sstep.py. -/
namespace Go.Proofs.Ytndefbecoahfhaa
open Go.RowKit

set_option maxRecDepth 100000 in
set_option maxHeartbeats 1000000 in
theorem sstep_extend {w0 w : World} {M : Nat} {m : Mst} {gl : List SG} {gv hv cv ev : Value} {hs : List Value} {text : ByteArray} {num lo hi : Int} {k0 : Pat} {A : Option Addr} {c : Nat} {fr nx : Int} {gs : List Goal} {j : Nat} {s : ByteArray} {dv : Value} {op : Int}
    (h : SpecAt w0 w [] M m gl (j : Int) m.at_ gv hv cv ev hs) (hj : gl[j]? = some ⟨3, .mk op text num lo hi [k0], .slice A 1 c, nx, fr⟩) (hch : Chain gl nx gs) (hlen : gl.length ≤ 90000) :
    Calls Try.prog 71 #[.pointer (some ⟨M, 0, none⟩), dv, .string s] w (SDid w0 M m gl.length (.go (⟨0, k0, 0⟩ :: ⟨4, .mk op text num lo hi [k0], m.at_⟩ :: gs) m)) := by
  have hblk := h.blk
  obtain ⟨g0, gc, rfl⟩ := goal_row h hj
  obtain ⟨hA, hc, rfl, _, _⟩ := h.chs.form
  obtain ⟨cA, cc, rfl, _, _⟩ := h.caps.form
  obtain ⟨eA, ec, rfl, _, _⟩ := h.evs.form
  obtain ⟨s0, s1, s2, s3, s4, s5⟩ := cells_s hblk
  have fs2 := frozen_of_row w M 2 _ _ hblk
  have hMlt := has_lt hblk
  obtain ⟨q0, q1, q2, q3, q4, q5, q6, q7, q8⟩ := goal_cells h hj
  simp only [Pat.op, Pat.text, Pat.num, Pat.lo, Pat.hi] at q1 q2 q3 q4 q5
  have hjl : j < gl.length := (List.getElem?_eq_some_iff.1 hj).1
  have hjl' : (j : Int) < gl.length := by omega
  have hkid : KidsIn w0 (.mk op text num lo hi [k0]) (.slice A 1 c) := h.kids _ (List.mem_of_getElem? hj)
  have HKID := Lib.hid hkid
  have HR := Lib.hid (kids_row hkid)
  have HCH := Lib.hid hch
  have HJ := Lib.hid hj
  have HI2 := Lib.hid (h.enter (ogOf ⟨3, .mk op text num lo hi [k0], .slice A 1 c, nx, fr⟩) (opOf (.mk op text num lo hi [k0]) (.slice A 1 c)) nx)
  have hbel := h.below.size
  clear h hblk hkid hch hj
  go_enter Try.func71, Try.ntmps71
  go_wp2_with fail
  clear s0 s1 s2 s3 s4 s5 q0 q1 q2 q3 q4 q5 q6 q7 q8 fs2
  -- region 13: 11 operations, the last [9, 10]
  refine wpU_begin [9, 10] [] (by kernel_rfl) (fun w3 hw3 => ?_)
  have HI3 := Lib.hid (HI2.out.later (drew_later hw3))
  clear hw3
  refine wpU_take 0 (some 76) (v := ?_) rfl rfl (by kernel_rfl) (fun _ _ _ h => h) rfl (fun x hx => ?_) ?_
  rotate_left 1
  · go_simp; first | done | with_reducible rfl | rw [if_neg (by omega)] | rw [if_pos (by omega)]
  simp only [Act.put, List.setIfInBounds_toArray, List.set_cons_zero, List.set_cons_succ]
  refine wpU_take 1 (some 77) (v := ?_) rfl rfl (by kernel_rfl) (fun _ _ _ h => h) rfl (fun x hx => ?_) ?_
  rotate_left 1
  · obtain ⟨s0, s1, s2, s3, s4, s5⟩ := cells_s (hx.has HI3.out.blk); obtain ⟨p0, p1, p2, p3, p4, p5⟩ := cells_p (hx.has (HI3.out.foreign _ List.mem_cons_self).blk); obtain ⟨q0, q1, q2, q3, q4, q5, q6, q7, q8⟩ := cells_q (hx.has (HI3.out.foreign _ (List.mem_cons_of_mem _ List.mem_cons_self)).blk); simp only [Pat.op, Pat.text, Pat.num, Pat.lo, Pat.hi] at *; go_simp; first | done | with_reducible rfl | rw [if_neg (by omega)] | rw [if_pos (by omega)]
  simp only [Act.put, List.setIfInBounds_toArray, List.set_cons_zero, List.set_cons_succ]
  refine wpU_take 2 (some 78) (v := ?_) rfl rfl (by kernel_rfl) (fun _ _ _ h => h) rfl (fun x hx => ?_) ?_
  rotate_left 1
  · go_simp; first | done | with_reducible rfl | rw [if_neg (by omega)] | rw [if_pos (by omega)]
  simp only [Act.put, List.setIfInBounds_toArray, List.set_cons_zero, List.set_cons_succ]
  refine wpU_take 3 (some 79) (v := ?_) rfl rfl (by kernel_rfl) (fun _ _ _ h => h) rfl (fun x hx => ?_) ?_
  rotate_left 1
  · obtain ⟨s0, s1, s2, s3, s4, s5⟩ := cells_s (hx.has HI3.out.blk); obtain ⟨p0, p1, p2, p3, p4, p5⟩ := cells_p (hx.has (HI3.out.foreign _ List.mem_cons_self).blk); obtain ⟨q0, q1, q2, q3, q4, q5, q6, q7, q8⟩ := cells_q (hx.has (HI3.out.foreign _ (List.mem_cons_of_mem _ List.mem_cons_self)).blk); simp only [Pat.op, Pat.text, Pat.num, Pat.lo, Pat.hi] at *; go_simp; first | done | with_reducible rfl | rw [if_neg (by omega)] | rw [if_pos (by omega)]
  simp only [Act.put, List.setIfInBounds_toArray, List.set_cons_zero, List.set_cons_succ]
  refine wpU_take 4 (some 80) (v := ?_) rfl rfl (by kernel_rfl) (fun _ _ _ h => h) rfl (fun x hx => ?_) ?_
  rotate_left 1
  · go_simp; first | done | with_reducible rfl | rw [if_neg (by omega)] | rw [if_pos (by omega)]
  simp only [Act.put, List.setIfInBounds_toArray, List.set_cons_zero, List.set_cons_succ]
  refine wpU_take 5 (some 81) (v := ?_) rfl rfl (by kernel_rfl) (fun _ _ _ h => h) rfl (fun x hx => ?_) ?_
  rotate_left 1
  · go_simp; first | done | with_reducible rfl | rw [if_neg (by omega)] | rw [if_pos (by omega)]
  simp only [Act.put, List.setIfInBounds_toArray, List.set_cons_zero, List.set_cons_succ]
  refine wpU_take 6 (some 82) (v := ?_) rfl rfl (by kernel_rfl) (fun _ _ _ h => h) rfl (fun x hx => ?_) ?_
  rotate_left 1
  · go_simp; first | done | with_reducible rfl | rw [if_neg (by omega)] | rw [if_pos (by omega)]
  simp only [Act.put, List.setIfInBounds_toArray, List.set_cons_zero, List.set_cons_succ]
  refine wpU_take 7 (some 83) (v := ?_) rfl rfl (by kernel_rfl) (fun _ _ _ h => h) rfl (fun x hx => ?_) ?_
  rotate_left 1
  · obtain ⟨s0, s1, s2, s3, s4, s5⟩ := cells_s (hx.has HI3.out.blk); obtain ⟨p0, p1, p2, p3, p4, p5⟩ := cells_p (hx.has (HI3.out.foreign _ List.mem_cons_self).blk); obtain ⟨q0, q1, q2, q3, q4, q5, q6, q7, q8⟩ := cells_q (hx.has (HI3.out.foreign _ (List.mem_cons_of_mem _ List.mem_cons_self)).blk); simp only [Pat.op, Pat.text, Pat.num, Pat.lo, Pat.hi] at *; go_simp; first | done | with_reducible rfl | rw [if_neg (by omega)] | rw [if_pos (by omega)]
  simp only [Act.put, List.setIfInBounds_toArray, List.set_cons_zero, List.set_cons_succ]
  refine wpU_take 8 (some 84) (v := ?_) rfl rfl (by kernel_rfl) (fun _ _ _ h => h) rfl (fun x hx => ?_) ?_
  rotate_left 1
  · go_simp; first | done | with_reducible rfl | rw [if_neg (by omega)] | rw [if_pos (by omega)]
  simp only [Act.put, List.setIfInBounds_toArray, List.set_cons_zero, List.set_cons_succ]
  refine wpU_last [_, _] (by kernel_rfl) rfl rfl ?_
  simp only [List.getElem_toArray, List.getElem_cons_succ, List.getElem_cons_zero]
  go_wp2_with fail
  refine (push_at HI3.out 4 (.mk op text num lo hi [k0]) A c nx m.at_ HKID.out (by omega) _ rfl).mono ?_
  rintro e w4 ⟨rfl, gv4, hI4⟩
  obtain ⟨gA4, gc4, rfl, _, _⟩ := hI4.goals.form
  have HI4 := Lib.hid hI4
  clear hI4
  obtain ⟨g0k, kA0, kc0, hA0, hk0, he0⟩ := kid_cells HR.out (j := 0) (by simp) HI4.out.below
  simp only [List.getElem_cons_zero] at hk0 he0
  have HK0 := Lib.hid hk0
  have HE0 := Lib.hid he0
  clear hk0 he0
  subst hA0
  obtain ⟨s0, s1, s2, s3, s4, s5⟩ := cells_s HI4.out.blk
  obtain ⟨p0, p1, p2, p3, p4, p5⟩ := cells_p (HI4.out.foreign _ List.mem_cons_self).blk
  obtain ⟨q0, q1, q2, q3, q4, q5, q6, q7, q8⟩ := cells_q (HI4.out.foreign _ (List.mem_cons_of_mem _ List.mem_cons_self)).blk
  obtain ⟨e00, e01, e02, e03, e04, e05⟩ := HE0.out
  simp only [Nat.zero_mul, Nat.zero_add] at e00 e01 e02 e03 e04 e05
  go_wp2_with fail
  refine (push_at HI4.out 0 k0 kA0 kc0 gl.length 0 HK0.out (by simp; omega) _ rfl).mono ?_
  clear s0 s1 s2 s3 s4 s5 p0 p1 p2 p3 p4 p5 q0 q1 q2 q3 q4 q5 q6 q7 q8
  rintro e w5 ⟨rfl, gv5, hI5⟩
  obtain ⟨gA5, gc5, rfl, _, _⟩ := hI5.goals.form
  have HI5 := Lib.hid hI5
  clear hI5
  obtain ⟨s0, s1, s2, s3, s4, s5⟩ := cells_s HI5.out.blk
  have f2 := frozen_of_row w5 M 2 _ _ HI5.out.blk
  have hint : ((gl.length : Int) + 1) ≤ 90001 := by omega
  go_wp2_with fail
  go_ret
  exact sdid_go (HI5.out.setGoal ((gl.length : Int) + 1)) (Chain.push2 ⟨4, .mk op text num lo hi [k0], _, nx, m.at_⟩ ⟨0, k0, _, gl.length, 0⟩ ⟨4, .mk op text num lo hi [k0], m.at_⟩ ⟨0, k0, 0⟩ HCH.out rfl rfl rfl rfl rfl rfl rfl) (by simp)

set_option maxRecDepth 100000 in
set_option maxHeartbeats 1000000 in
theorem sstep_check_go {w0 w : World} {M : Nat} {m : Mst} {gl : List SG} {gv hv cv ev : Value} {hs : List Value} {text : ByteArray} {num lo hi : Int} {kids : List Pat} {A : Option Addr} {c : Nat} {fr nx : Int} {gs : List Goal} {j : Nat} {s : ByteArray} {dv : Value} {op : Int}
    (h : SpecAt w0 w [] M m gl (j : Int) m.at_ gv hv cv ev hs) (hj : gl[j]? = some ⟨4, .mk op text num lo hi kids, .slice A kids.length c, nx, fr⟩) (hch : Chain gl nx gs) (hlen : gl.length ≤ 90000) (hne : ((m.at_ : Int) != fr) = true) :
    Calls Try.prog 71 #[.pointer (some ⟨M, 0, none⟩), dv, .string s] w (SDid w0 M m gl.length (.go (⟨0, .mk op text num lo hi kids, 0⟩ :: gs) m)) := by
  have hblk := h.blk
  obtain ⟨g0, gc, rfl⟩ := goal_row h hj
  obtain ⟨hA, hc, rfl, _, _⟩ := h.chs.form
  obtain ⟨cA, cc, rfl, _, _⟩ := h.caps.form
  obtain ⟨eA, ec, rfl, _, _⟩ := h.evs.form
  obtain ⟨s0, s1, s2, s3, s4, s5⟩ := cells_s hblk
  have fs2 := frozen_of_row w M 2 _ _ hblk
  have hMlt := has_lt hblk
  obtain ⟨q0, q1, q2, q3, q4, q5, q6, q7, q8⟩ := goal_cells h hj
  simp only [Pat.op, Pat.text, Pat.num, Pat.lo, Pat.hi] at q1 q2 q3 q4 q5
  have hjl : j < gl.length := (List.getElem?_eq_some_iff.1 hj).1
  have hjl' : (j : Int) < gl.length := by omega
  have hkid : KidsIn w0 (.mk op text num lo hi kids) (.slice A kids.length c) := h.kids _ (List.mem_of_getElem? hj)
  have HKID := Lib.hid hkid
  have HR := Lib.hid (kids_row hkid)
  have HCH := Lib.hid hch
  have HJ := Lib.hid hj
  have HI2 := Lib.hid (h.enter (ogOf ⟨4, .mk op text num lo hi kids, .slice A kids.length c, nx, fr⟩) (opOf (.mk op text num lo hi kids) (.slice A kids.length c)) nx)
  have hbel := h.below.size
  clear h hblk hkid hch hj
  go_enter Try.func71, Try.ntmps71
  go_wp2_with fail
  clear s0 s1 s2 s3 s4 s5 q0 q1 q2 q3 q4 q5 q6 q7 q8 fs2
  refine (push_at HI2.out 0 (.mk op text num lo hi kids) A c nx 0 HKID.out (by omega) _ rfl).mono ?_
  rintro e w4 ⟨rfl, gv4, hI4⟩
  obtain ⟨gA4, gc4, rfl, _, _⟩ := hI4.goals.form
  have HI4 := Lib.hid hI4
  clear hI4
  obtain ⟨s0, s1, s2, s3, s4, s5⟩ := cells_s HI4.out.blk
  obtain ⟨p0, p1, p2, p3, p4, p5⟩ := cells_p (HI4.out.foreign _ List.mem_cons_self).blk
  obtain ⟨q0, q1, q2, q3, q4, q5, q6, q7, q8⟩ := cells_q (HI4.out.foreign _ (List.mem_cons_of_mem _ List.mem_cons_self)).blk
  simp only [Pat.op, Pat.text, Pat.num, Pat.lo, Pat.hi] at p0 p1 p2 p3 p4 q1 q2 q3 q4 q5
  have f2 := frozen_of_row w4 M 2 _ _ HI4.out.blk
  go_wp2_with fail
  clear f2
  clear s0 s1 s2 s3 s4 s5 p0 p1 p2 p3 p4 p5 q0 q1 q2 q3 q4 q5 q6 q7 q8
  -- region 18: 8 operations, the last []
  refine wpU_begin [] [] (by kernel_rfl) (fun w5 hw5 => ?_)
  have HI5 := Lib.hid ((HI4.out.setGoal gl.length).later (drew_later hw5))
  clear hw5
  refine wpU_take 0 (some 108) (v := ?_) rfl rfl (by kernel_rfl) (fun _ _ _ h => h) rfl (fun x hx => ?_) ?_
  rotate_left 1
  · go_simp; first | done | with_reducible rfl | rw [if_neg (by omega)] | rw [if_pos (by omega)]
  simp only [Act.put, List.setIfInBounds_toArray, List.set_cons_zero, List.set_cons_succ]
  refine wpU_take 1 (some 109) (v := ?_) rfl rfl (by kernel_rfl) (fun _ _ _ h => h) rfl (fun x hx => ?_) ?_
  rotate_left 1
  · go_simp; first | done | with_reducible rfl | rw [if_neg (by omega)] | rw [if_pos (by omega)]
  simp only [Act.put, List.setIfInBounds_toArray, List.set_cons_zero, List.set_cons_succ]
  refine wpU_take 2 (some 110) (v := ?_) rfl rfl (by kernel_rfl) (fun _ _ _ h => h) rfl (fun x hx => ?_) ?_
  rotate_left 1
  · go_simp; first | done | with_reducible rfl | rw [if_neg (by omega)] | rw [if_pos (by omega)]
  simp only [Act.put, List.setIfInBounds_toArray, List.set_cons_zero, List.set_cons_succ]
  refine wpU_take 3 (some 111) (v := ?_) rfl rfl (by kernel_rfl) (fun _ _ _ h => h) rfl (fun x hx => ?_) ?_
  rotate_left 1
  · obtain ⟨s0, s1, s2, s3, s4, s5⟩ := cells_s (hx.has HI5.out.blk); obtain ⟨p0, p1, p2, p3, p4, p5⟩ := cells_p (hx.has (HI5.out.foreign _ List.mem_cons_self).blk); obtain ⟨q0, q1, q2, q3, q4, q5, q6, q7, q8⟩ := cells_q (hx.has (HI5.out.foreign _ (List.mem_cons_of_mem _ List.mem_cons_self)).blk); simp only [Pat.op, Pat.text, Pat.num, Pat.lo, Pat.hi] at *; go_simp; first | done | with_reducible rfl | rw [if_neg (by omega)] | rw [if_pos (by omega)]
  simp only [Act.put, List.setIfInBounds_toArray, List.set_cons_zero, List.set_cons_succ]
  refine wpU_take 4 (some 112) (v := ?_) rfl rfl (by kernel_rfl) (fun _ _ _ h => h) rfl (fun x hx => ?_) ?_
  rotate_left 1
  · go_simp; first | done | with_reducible rfl | rw [if_neg (by omega)] | rw [if_pos (by omega)]
  simp only [Act.put, List.setIfInBounds_toArray, List.set_cons_zero, List.set_cons_succ]
  refine wpU_take 5 (some 113) (v := ?_) rfl rfl (by kernel_rfl) (fun _ _ _ h => h) rfl (fun x hx => ?_) ?_
  rotate_left 1
  · obtain ⟨s0, s1, s2, s3, s4, s5⟩ := cells_s (hx.has HI5.out.blk); obtain ⟨p0, p1, p2, p3, p4, p5⟩ := cells_p (hx.has (HI5.out.foreign _ List.mem_cons_self).blk); obtain ⟨q0, q1, q2, q3, q4, q5, q6, q7, q8⟩ := cells_q (hx.has (HI5.out.foreign _ (List.mem_cons_of_mem _ List.mem_cons_self)).blk); simp only [Pat.op, Pat.text, Pat.num, Pat.lo, Pat.hi] at *; go_simp; first | done | with_reducible rfl | rw [if_neg (by omega)] | rw [if_pos (by omega)]
  simp only [Act.put, List.setIfInBounds_toArray, List.set_cons_zero, List.set_cons_succ]
  refine wpU_take 6 (some 114) (v := ?_) rfl rfl (by kernel_rfl) (fun _ _ _ h => h) rfl (fun x hx => ?_) ?_
  rotate_left 1
  · go_simp; first | done | with_reducible rfl | rw [if_neg (by omega)] | rw [if_pos (by omega)]
  simp only [Act.put, List.setIfInBounds_toArray, List.set_cons_zero, List.set_cons_succ]
  refine wpU_take 7 (some 6) (v := ?_) rfl rfl (by kernel_rfl) (fun _ _ _ h => h) rfl (fun x hx => ?_) ?_
  rotate_left 1
  · go_simp; first | done | with_reducible rfl | rw [if_neg (by omega)] | rw [if_pos (by omega)]
  simp only [Act.put, List.setIfInBounds_toArray, List.set_cons_zero, List.set_cons_succ]
  refine wpU_last [] (by kernel_rfl) rfl rfl ?_
  go_wp2_with fail
  go_ret
  exact sdid_go HI5.out (Chain.push ⟨0, (.mk op text num lo hi kids), _, nx, 0⟩ ⟨0, (.mk op text num lo hi kids), 0⟩ HCH.out rfl rfl rfl) (by simp)

set_option maxRecDepth 100000 in
set_option maxHeartbeats 1000000 in
theorem sstep_check_fail {w0 w : World} {M : Nat} {m : Mst} {gl : List SG} {gv hv cv ev : Value} {hs : List Value} {text : ByteArray} {num lo hi : Int} {kids : List Pat} {A : Option Addr} {c : Nat} {fr nx : Int} {gs : List Goal} {j : Nat} {s : ByteArray} {dv : Value} {op : Int}
    (h : SpecAt w0 w [] M m gl (j : Int) m.at_ gv hv cv ev hs) (hj : gl[j]? = some ⟨4, .mk op text num lo hi kids, .slice A kids.length c, nx, fr⟩) (hch : Chain gl nx gs) (hlen : gl.length ≤ 90000) (hne : ((m.at_ : Int) != fr) = false) :
    Calls Try.prog 71 #[.pointer (some ⟨M, 0, none⟩), dv, .string s] w (SDid w0 M m gl.length (.fail)) := by
  have hblk := h.blk
  obtain ⟨g0, gc, rfl⟩ := goal_row h hj
  obtain ⟨hA, hc, rfl, _, _⟩ := h.chs.form
  obtain ⟨cA, cc, rfl, _, _⟩ := h.caps.form
  obtain ⟨eA, ec, rfl, _, _⟩ := h.evs.form
  obtain ⟨s0, s1, s2, s3, s4, s5⟩ := cells_s hblk
  have fs2 := frozen_of_row w M 2 _ _ hblk
  have hMlt := has_lt hblk
  obtain ⟨q0, q1, q2, q3, q4, q5, q6, q7, q8⟩ := goal_cells h hj
  simp only [Pat.op, Pat.text, Pat.num, Pat.lo, Pat.hi] at q1 q2 q3 q4 q5
  have hjl : j < gl.length := (List.getElem?_eq_some_iff.1 hj).1
  have hjl' : (j : Int) < gl.length := by omega
  have hkid : KidsIn w0 (.mk op text num lo hi kids) (.slice A kids.length c) := h.kids _ (List.mem_of_getElem? hj)
  have HKID := Lib.hid hkid
  have HR := Lib.hid (kids_row hkid)
  have HCH := Lib.hid hch
  have HJ := Lib.hid hj
  have HI2 := Lib.hid (h.enter (ogOf ⟨4, .mk op text num lo hi kids, .slice A kids.length c, nx, fr⟩) (opOf (.mk op text num lo hi kids) (.slice A kids.length c)) nx)
  have hbel := h.below.size
  clear h hblk hkid hch hj
  go_enter Try.func71, Try.ntmps71
  go_wp2_with fail
  clear s0 s1 s2 s3 s4 s5 q0 q1 q2 q3 q4 q5 q6 q7 q8 fs2
  refine (push_at HI2.out 0 (.mk op text num lo hi kids) A c nx 0 HKID.out (by omega) _ rfl).mono ?_
  rintro e w4 ⟨rfl, gv4, hI4⟩
  obtain ⟨gA4, gc4, rfl, _, _⟩ := hI4.goals.form
  have HI4 := Lib.hid hI4
  clear hI4
  obtain ⟨s0, s1, s2, s3, s4, s5⟩ := cells_s HI4.out.blk
  obtain ⟨p0, p1, p2, p3, p4, p5⟩ := cells_p (HI4.out.foreign _ List.mem_cons_self).blk
  obtain ⟨q0, q1, q2, q3, q4, q5, q6, q7, q8⟩ := cells_q (HI4.out.foreign _ (List.mem_cons_of_mem _ List.mem_cons_self)).blk
  simp only [Pat.op, Pat.text, Pat.num, Pat.lo, Pat.hi] at p0 p1 p2 p3 p4 q1 q2 q3 q4 q5
  have f2 := frozen_of_row w4 M 2 _ _ HI4.out.blk
  go_wp2_with fail
  clear f2
  clear s0 s1 s2 s3 s4 s5 p0 p1 p2 p3 p4 p5 q0 q1 q2 q3 q4 q5 q6 q7 q8
  -- region 18: 8 operations, the last []
  refine wpU_begin [] [] (by kernel_rfl) (fun w5 hw5 => ?_)
  have HI5 := Lib.hid ((HI4.out.setGoal gl.length).later (drew_later hw5))
  clear hw5
  refine wpU_take 0 (some 108) (v := ?_) rfl rfl (by kernel_rfl) (fun _ _ _ h => h) rfl (fun x hx => ?_) ?_
  rotate_left 1
  · go_simp; first | done | with_reducible rfl | rw [if_neg (by omega)] | rw [if_pos (by omega)]
  simp only [Act.put, List.setIfInBounds_toArray, List.set_cons_zero, List.set_cons_succ]
  refine wpU_take 1 (some 109) (v := ?_) rfl rfl (by kernel_rfl) (fun _ _ _ h => h) rfl (fun x hx => ?_) ?_
  rotate_left 1
  · go_simp; first | done | with_reducible rfl | rw [if_neg (by omega)] | rw [if_pos (by omega)]
  simp only [Act.put, List.setIfInBounds_toArray, List.set_cons_zero, List.set_cons_succ]
  refine wpU_take 2 (some 110) (v := ?_) rfl rfl (by kernel_rfl) (fun _ _ _ h => h) rfl (fun x hx => ?_) ?_
  rotate_left 1
  · go_simp; first | done | with_reducible rfl | rw [if_neg (by omega)] | rw [if_pos (by omega)]
  simp only [Act.put, List.setIfInBounds_toArray, List.set_cons_zero, List.set_cons_succ]
  refine wpU_take 3 (some 111) (v := ?_) rfl rfl (by kernel_rfl) (fun _ _ _ h => h) rfl (fun x hx => ?_) ?_
  rotate_left 1
  · obtain ⟨s0, s1, s2, s3, s4, s5⟩ := cells_s (hx.has HI5.out.blk); obtain ⟨p0, p1, p2, p3, p4, p5⟩ := cells_p (hx.has (HI5.out.foreign _ List.mem_cons_self).blk); obtain ⟨q0, q1, q2, q3, q4, q5, q6, q7, q8⟩ := cells_q (hx.has (HI5.out.foreign _ (List.mem_cons_of_mem _ List.mem_cons_self)).blk); simp only [Pat.op, Pat.text, Pat.num, Pat.lo, Pat.hi] at *; go_simp; first | done | with_reducible rfl | rw [if_neg (by omega)] | rw [if_pos (by omega)]
  simp only [Act.put, List.setIfInBounds_toArray, List.set_cons_zero, List.set_cons_succ]
  refine wpU_take 4 (some 112) (v := ?_) rfl rfl (by kernel_rfl) (fun _ _ _ h => h) rfl (fun x hx => ?_) ?_
  rotate_left 1
  · go_simp; first | done | with_reducible rfl | rw [if_neg (by omega)] | rw [if_pos (by omega)]
  simp only [Act.put, List.setIfInBounds_toArray, List.set_cons_zero, List.set_cons_succ]
  refine wpU_take 5 (some 113) (v := ?_) rfl rfl (by kernel_rfl) (fun _ _ _ h => h) rfl (fun x hx => ?_) ?_
  rotate_left 1
  · obtain ⟨s0, s1, s2, s3, s4, s5⟩ := cells_s (hx.has HI5.out.blk); obtain ⟨p0, p1, p2, p3, p4, p5⟩ := cells_p (hx.has (HI5.out.foreign _ List.mem_cons_self).blk); obtain ⟨q0, q1, q2, q3, q4, q5, q6, q7, q8⟩ := cells_q (hx.has (HI5.out.foreign _ (List.mem_cons_of_mem _ List.mem_cons_self)).blk); simp only [Pat.op, Pat.text, Pat.num, Pat.lo, Pat.hi] at *; go_simp; first | done | with_reducible rfl | rw [if_neg (by omega)] | rw [if_pos (by omega)]
  simp only [Act.put, List.setIfInBounds_toArray, List.set_cons_zero, List.set_cons_succ]
  refine wpU_take 6 (some 114) (v := ?_) rfl rfl (by kernel_rfl) (fun _ _ _ h => h) rfl (fun x hx => ?_) ?_
  rotate_left 1
  · go_simp; first | done | with_reducible rfl | rw [if_neg (by omega)] | rw [if_pos (by omega)]
  simp only [Act.put, List.setIfInBounds_toArray, List.set_cons_zero, List.set_cons_succ]
  refine wpU_take 7 (some 6) (v := ?_) rfl rfl (by kernel_rfl) (fun _ _ _ h => h) rfl (fun x hx => ?_) ?_
  rotate_left 1
  · go_simp; first | done | with_reducible rfl | rw [if_neg (by omega)] | rw [if_pos (by omega)]
  simp only [Act.put, List.setIfInBounds_toArray, List.set_cons_zero, List.set_cons_succ]
  refine wpU_last [] (by kernel_rfl) rfl rfl ?_
  go_wp2_with fail
  go_ret
  exact sdid_fail HI5.out (by simp)

end Go.Proofs.Ytndefbecoahfhaa

/- spec's l20Step. Printed by gen_sstep.py. -/
namespace Go.Proofs.Ytndefbecoahfhaa
open Go.RowKit

set_option maxRecDepth 100000 in
set_option maxHeartbeats 1000000 in
theorem sstep_arb_yes {w0 w : World} {M : Nat} {m : Mst} {gl : List SG} {gv hv cv ev : Value} {hs : List Value} {text : ByteArray} {num lo hi : Int} {kids : List Pat} {A : Option Addr} {c : Nat} {fr nx : Int} {gs : List Goal} {j : Nat} {s : ByteArray} {dv : Value} 
    (h : SpecAt w0 w [] M m gl (j : Int) m.at_ gv hv cv ev hs) (hj : gl[j]? = some ⟨0, .mk 11 text num lo hi kids, .slice A kids.length c, nx, 0⟩) (hch : Chain gl nx gs) (hlen : gl.length ≤ 90000) (hlt : m.at_ < s.size) (hss : s.size ≤ 120) (hn : m.choices.length ≤ 5000) :
    Calls Try.prog 71 #[.pointer (some ⟨M, 0, none⟩), dv, .string s] w (SDid w0 M m gl.length (.go gs (m.choose (⟨0, .mk 11 text num lo hi kids, 0⟩ :: gs) (m.at_ + 1)))) := by
  have hblk := h.blk
  obtain ⟨g0, gc, rfl⟩ := goal_row h hj
  obtain ⟨hA, hc, rfl, _, _⟩ := h.chs.form
  obtain ⟨cA, cc, rfl, _, _⟩ := h.caps.form
  obtain ⟨eA, ec, rfl, _, _⟩ := h.evs.form
  obtain ⟨s0, s1, s2, s3, s4, s5⟩ := cells_s hblk
  have fs2 := frozen_of_row w M 2 _ _ hblk
  have hMlt := has_lt hblk
  obtain ⟨q0, q1, q2, q3, q4, q5, q6, q7, q8⟩ := goal_cells h hj
  simp only [Pat.op, Pat.text, Pat.num, Pat.lo, Pat.hi] at q1 q2 q3 q4 q5
  have hjl : j < gl.length := (List.getElem?_eq_some_iff.1 hj).1
  have hjl' : (j : Int) < gl.length := by omega
  have hkid : KidsIn w0 (.mk 11 text num lo hi kids) (.slice A kids.length c) := h.kids _ (List.mem_of_getElem? hj)
  have HKID := Lib.hid hkid
  have HR := Lib.hid (kids_row hkid)
  have HCH := Lib.hid hch
  have HJ := Lib.hid hj
  have HI2 := Lib.hid (h.enter (ogOf ⟨0, .mk 11 text num lo hi kids, .slice A kids.length c, nx, 0⟩) (opOf (.mk 11 text num lo hi kids) (.slice A kids.length c)) nx)
  have hbel := h.below.size
  have hat1 : (m.at_ : Int) + 1 ≤ 121 := by omega
  clear h hblk hkid hch hj
  go_enter Try.func71, Try.ntmps71
  go_wp2_with fail
  clear s0 s1 s2 s3 s4 s5 q0 q1 q2 q3 q4 q5 q6 q7 q8 fs2
  refine (later_any HI2.out ⟨false, ⟨0, .mk 11 text num lo hi kids, 0⟩ :: gs, m.at_ + 1, m.caps.length⟩ j _ (by simp) rfl (.inr ⟨rfl, ⟨j, _, rfl, HJ.out, rfl, rfl, rfl, HCH.out⟩⟩) (by omega)).mono ?_
  rintro e w4 ⟨rfl, hv4, hs4, hI4⟩
  obtain ⟨hA4, hc4, rfl, _, _⟩ := hI4.chs.form
  have HI4 := Lib.hid hI4
  clear hI4
  go_wp2_with fail
  go_ret
  exact sdid_go (m' := m.choose (⟨0, .mk 11 text num lo hi kids, 0⟩ :: gs) (m.at_ + 1)) HI4.out HCH.out (by omega)

set_option maxRecDepth 100000 in
set_option maxHeartbeats 1000000 in
theorem sstep_arb_no {w0 w : World} {M : Nat} {m : Mst} {gl : List SG} {gv hv cv ev : Value} {hs : List Value} {text : ByteArray} {num lo hi : Int} {kids : List Pat} {A : Option Addr} {c : Nat} {fr nx : Int} {gs : List Goal} {j : Nat} {s : ByteArray} {dv : Value} 
    (h : SpecAt w0 w [] M m gl (j : Int) m.at_ gv hv cv ev hs) (hj : gl[j]? = some ⟨0, .mk 11 text num lo hi kids, .slice A kids.length c, nx, fr⟩) (hch : Chain gl nx gs) (hlen : gl.length ≤ 90000) (hlt : ¬ m.at_ < s.size) :
    Calls Try.prog 71 #[.pointer (some ⟨M, 0, none⟩), dv, .string s] w (SDid w0 M m gl.length (.go gs m)) := by
  have hblk := h.blk
  obtain ⟨g0, gc, rfl⟩ := goal_row h hj
  obtain ⟨hA, hc, rfl, _, _⟩ := h.chs.form
  obtain ⟨cA, cc, rfl, _, _⟩ := h.caps.form
  obtain ⟨eA, ec, rfl, _, _⟩ := h.evs.form
  obtain ⟨s0, s1, s2, s3, s4, s5⟩ := cells_s hblk
  have fs2 := frozen_of_row w M 2 _ _ hblk
  have hMlt := has_lt hblk
  obtain ⟨q0, q1, q2, q3, q4, q5, q6, q7, q8⟩ := goal_cells h hj
  simp only [Pat.op, Pat.text, Pat.num, Pat.lo, Pat.hi] at q1 q2 q3 q4 q5
  have hjl : j < gl.length := (List.getElem?_eq_some_iff.1 hj).1
  have hjl' : (j : Int) < gl.length := by omega
  have hkid : KidsIn w0 (.mk 11 text num lo hi kids) (.slice A kids.length c) := h.kids _ (List.mem_of_getElem? hj)
  have HKID := Lib.hid hkid
  have HR := Lib.hid (kids_row hkid)
  have HCH := Lib.hid hch
  have HJ := Lib.hid hj
  have HI2 := Lib.hid (h.enter (ogOf ⟨0, .mk 11 text num lo hi kids, .slice A kids.length c, nx, fr⟩) (opOf (.mk 11 text num lo hi kids) (.slice A kids.length c)) nx)
  have hbel := h.below.size
  clear h hblk hkid hch hj
  go_enter Try.func71, Try.ntmps71
  go_wp2_with fail
  go_ret
  exact sdid_go HI2.out HCH.out (by omega)

set_option maxRecDepth 100000 in
set_option maxHeartbeats 1000000 in
theorem sstep_fence {w0 w : World} {M : Nat} {m : Mst} {gl : List SG} {gv hv cv ev : Value} {hs : List Value} {text : ByteArray} {num lo hi : Int} {kids : List Pat} {A : Option Addr} {c : Nat} {fr nx : Int} {gs : List Goal} {j : Nat} {s : ByteArray} {dv : Value} 
    (h : SpecAt w0 w [] M m gl (j : Int) m.at_ gv hv cv ev hs) (hj : gl[j]? = some ⟨0, .mk 19 text num lo hi kids, .slice A kids.length c, nx, fr⟩) (hch : Chain gl nx gs) (hlen : gl.length ≤ 90000) (hn : m.choices.length ≤ 5000) :
    Calls Try.prog 71 #[.pointer (some ⟨M, 0, none⟩), dv, .string s] w (SDid w0 M m gl.length (.go gs { m with choices := m.choices ++ [⟨true, [], m.at_, m.caps.length⟩] })) := by
  have hblk := h.blk
  obtain ⟨g0, gc, rfl⟩ := goal_row h hj
  obtain ⟨hA, hc, rfl, _, _⟩ := h.chs.form
  obtain ⟨cA, cc, rfl, _, _⟩ := h.caps.form
  obtain ⟨eA, ec, rfl, _, _⟩ := h.evs.form
  obtain ⟨s0, s1, s2, s3, s4, s5⟩ := cells_s hblk
  have fs2 := frozen_of_row w M 2 _ _ hblk
  have hMlt := has_lt hblk
  obtain ⟨q0, q1, q2, q3, q4, q5, q6, q7, q8⟩ := goal_cells h hj
  simp only [Pat.op, Pat.text, Pat.num, Pat.lo, Pat.hi] at q1 q2 q3 q4 q5
  have hjl : j < gl.length := (List.getElem?_eq_some_iff.1 hj).1
  have hjl' : (j : Int) < gl.length := by omega
  have hkid : KidsIn w0 (.mk 19 text num lo hi kids) (.slice A kids.length c) := h.kids _ (List.mem_of_getElem? hj)
  have HKID := Lib.hid hkid
  have HR := Lib.hid (kids_row hkid)
  have HCH := Lib.hid hch
  have HJ := Lib.hid hj
  have HI2 := Lib.hid (h.enter (ogOf ⟨0, .mk 19 text num lo hi kids, .slice A kids.length c, nx, fr⟩) (opOf (.mk 19 text num lo hi kids) (.slice A kids.length c)) nx)
  have hbel := h.below.size
  clear h hblk hkid hch hj
  go_enter Try.func71, Try.ntmps71
  go_wp2_with fail
  clear s0 s1 s2 s3 s4 s5 q0 q1 q2 q3 q4 q5 q6 q7 q8 fs2
  refine (later_any HI2.out ⟨true, [], m.at_, m.caps.length⟩ (-2) _ rfl rfl (.inl ⟨rfl, rfl⟩) (by omega)).mono ?_
  rintro e w4 ⟨rfl, hv4, hs4, hI4⟩
  obtain ⟨hA4, hc4, rfl, _, _⟩ := hI4.chs.form
  have HI4 := Lib.hid hI4
  clear hI4
  go_wp2_with fail
  go_ret
  exact sdid_go (m' := { m with choices := m.choices ++ [⟨true, [], m.at_, m.caps.length⟩] }) HI4.out HCH.out (by omega)

set_option maxRecDepth 100000 in
set_option maxHeartbeats 1000000 in
theorem sstep_abort {w0 w : World} {M : Nat} {m : Mst} {gl : List SG} {gv hv cv ev : Value} {hs : List Value} {text : ByteArray} {num lo hi : Int} {kids : List Pat} {A : Option Addr} {c : Nat} {fr nx : Int} {gs : List Goal} {j : Nat} {s : ByteArray} {dv : Value} 
    (h : SpecAt w0 w [] M m gl (j : Int) m.at_ gv hv cv ev hs) (hj : gl[j]? = some ⟨0, .mk 21 text num lo hi kids, .slice A kids.length c, nx, fr⟩) (hch : Chain gl nx gs) (hlen : gl.length ≤ 90000) :
    Calls Try.prog 71 #[.pointer (some ⟨M, 0, none⟩), dv, .string s] w (SDid w0 M m gl.length (.stop)) := by
  have hblk := h.blk
  obtain ⟨g0, gc, rfl⟩ := goal_row h hj
  obtain ⟨hA, hc, rfl, _, _⟩ := h.chs.form
  obtain ⟨cA, cc, rfl, _, _⟩ := h.caps.form
  obtain ⟨eA, ec, rfl, _, _⟩ := h.evs.form
  obtain ⟨s0, s1, s2, s3, s4, s5⟩ := cells_s hblk
  have fs2 := frozen_of_row w M 2 _ _ hblk
  have hMlt := has_lt hblk
  obtain ⟨q0, q1, q2, q3, q4, q5, q6, q7, q8⟩ := goal_cells h hj
  simp only [Pat.op, Pat.text, Pat.num, Pat.lo, Pat.hi] at q1 q2 q3 q4 q5
  have hjl : j < gl.length := (List.getElem?_eq_some_iff.1 hj).1
  have hjl' : (j : Int) < gl.length := by omega
  have hkid : KidsIn w0 (.mk 21 text num lo hi kids) (.slice A kids.length c) := h.kids _ (List.mem_of_getElem? hj)
  have HKID := Lib.hid hkid
  have HR := Lib.hid (kids_row hkid)
  have HCH := Lib.hid hch
  have HJ := Lib.hid hj
  have HI2 := Lib.hid (h.enter (ogOf ⟨0, .mk 21 text num lo hi kids, .slice A kids.length c, nx, fr⟩) (opOf (.mk 21 text num lo hi kids) (.slice A kids.length c)) nx)
  have hbel := h.below.size
  have fs1 := frozen_of_row w M 1 _ _ hblk
  have HNO := Lib.hid (((h.setGoal nx).noChoices).later (((Later.refl _).alloc (ogOf ⟨0, .mk 21 text num lo hi kids, .slice A kids.length c, nx, fr⟩)).alloc (opOf (.mk 21 text num lo hi kids) (.slice A kids.length c))))
  clear h hblk hkid hch hj
  go_enter Try.func71, Try.ntmps71
  go_wp2_with fail
  clear s0 s1 s2 s3 s4 s5 q0 q1 q2 q3 q4 q5 q6 q7 q8 fs2
  clear fs1
  refine (later_any HNO.out ⟨true, [], m.at_, m.caps.length⟩ (-2) _ rfl rfl (.inl ⟨rfl, rfl⟩) (by simp)).mono ?_
  rintro e w4 ⟨rfl, hv4, hs4, hI4⟩
  obtain ⟨hA4, hc4, rfl, _, _⟩ := hI4.chs.form
  have HI4 := Lib.hid hI4
  clear hI4
  go_wp2_with fail
  go_ret
  exact sdid_stop HI4.out (by omega)

end Go.Proofs.Ytndefbecoahfhaa

/- spec's l20Step. Printed by gen_sstep.py. -/
namespace Go.Proofs.Ytndefbecoahfhaa
open Go.RowKit

set_option maxRecDepth 100000 in
set_option maxHeartbeats 1000000 in
theorem sstep_some {w0 w : World} {M : Nat} {m : Mst} {gl : List SG} {gv hv cv ev : Value} {hs : List Value} {text : ByteArray} {num lo hi : Int} {kids : List Pat} {A : Option Addr} {c : Nat} {fr nx : Int} {gs : List Goal} {j : Nat} {s : ByteArray} {dv : Value} {op : Int} {z : Nat}
    (h : SpecAt w0 w [] M m gl (j : Int) m.at_ gv hv cv ev hs) (hj : gl[j]? = some ⟨0, .mk op text num lo hi kids, .slice A kids.length c, nx, fr⟩) (hch : Chain gl nx gs) (hlen : gl.length ≤ 90000) (hsi : isSimple op) (hok : okWords op text num) (hss : s.size ≤ 120) (hat : m.at_ ≤ s.size) (hz : oneEnd op text num lo hi s m.at_ = some z) :
    Calls Try.prog 71 #[.pointer (some ⟨M, 0, none⟩), dv, .string s] w (SDid w0 M m gl.length (.go gs { m with at_ := z })) := by
  have hblk := h.blk
  obtain ⟨g0, gc, rfl⟩ := goal_row h hj
  obtain ⟨hA, hc, rfl, _, _⟩ := h.chs.form
  obtain ⟨cA, cc, rfl, _, _⟩ := h.caps.form
  obtain ⟨eA, ec, rfl, _, _⟩ := h.evs.form
  obtain ⟨s0, s1, s2, s3, s4, s5⟩ := cells_s hblk
  have fs2 := frozen_of_row w M 2 _ _ hblk
  have hMlt := has_lt hblk
  obtain ⟨q0, q1, q2, q3, q4, q5, q6, q7, q8⟩ := goal_cells h hj
  simp only [Pat.op, Pat.text, Pat.num, Pat.lo, Pat.hi] at q1 q2 q3 q4 q5
  have hjl : j < gl.length := (List.getElem?_eq_some_iff.1 hj).1
  have hjl' : (j : Int) < gl.length := by omega
  have hkid : KidsIn w0 (.mk op text num lo hi kids) (.slice A kids.length c) := h.kids _ (List.mem_of_getElem? hj)
  have HKID := Lib.hid hkid
  have HR := Lib.hid (kids_row hkid)
  have HCH := Lib.hid hch
  have HJ := Lib.hid hj
  have HI2 := Lib.hid (h.enter (ogOf ⟨0, .mk op text num lo hi kids, .slice A kids.length c, nx, fr⟩) (opOf (.mk op text num lo hi kids) (.slice A kids.length c)) nx)
  have hbel := h.below.size
  have HSI := Lib.hid hsi
  have HOK := Lib.hid hok
  have HZ := Lib.hid hz
  have t11 : (op == 11) = false := by unfold isSimple at hsi; simp; omega
  have t13 : (op == 13) = false := by unfold isSimple at hsi; simp; omega
  have t14 : (op == 14) = false := by unfold isSimple at hsi; simp; omega
  have t15 : (op == 15) = false := by unfold isSimple at hsi; simp; omega
  have t16 : (op == 16) = false := by unfold isSimple at hsi; simp; omega
  have t17 : (op == 17) = false := by unfold isSimple at hsi; simp; omega
  have t18 : (op == 18) = false := by unfold isSimple at hsi; simp; omega
  have t19 : (op == 19) = false := by unfold isSimple at hsi; simp; omega
  have t20 : (op == 20) = false := by unfold isSimple at hsi; simp; omega
  have t21 : (op == 21) = false := by unfold isSimple at hsi; simp; omega
  clear hsi hok hz
  clear h hblk hkid hch hj
  go_enter Try.func71, Try.ntmps71
  go_wp2_with fail
  clear s0 s1 s2 s3 s4 s5 q0 q1 q2 q3 q4 q5 q6 q7 q8 fs2
  -- region 53: 8 operations, the last [6, 7]
  refine wpU_begin [6, 7] [] (by kernel_rfl) (fun w3 hw3 => ?_)
  have HI3 := Lib.hid (HI2.out.later (drew_later hw3))
  clear hw3
  refine wpU_take 0 (some 278) (v := ?_) rfl rfl (by kernel_rfl) (fun _ _ _ h => h) rfl (fun x hx => ?_) ?_
  rotate_left 1
  · obtain ⟨s0, s1, s2, s3, s4, s5⟩ := cells_s (hx.has HI3.out.blk); obtain ⟨p0, p1, p2, p3, p4, p5⟩ := cells_p (hx.has (HI3.out.foreign _ List.mem_cons_self).blk); obtain ⟨q0, q1, q2, q3, q4, q5, q6, q7, q8⟩ := cells_q (hx.has (HI3.out.foreign _ (List.mem_cons_of_mem _ List.mem_cons_self)).blk); simp only [Pat.op, Pat.text, Pat.num, Pat.lo, Pat.hi] at *; go_simp; first | done | with_reducible rfl | rw [if_neg (by omega)] | rw [if_pos (by omega)]
  simp only [Act.put, List.setIfInBounds_toArray, List.set_cons_zero, List.set_cons_succ]
  refine wpU_take 1 (some 279) (v := ?_) rfl rfl (by kernel_rfl) (fun _ _ _ h => h) rfl (fun x hx => ?_) ?_
  rotate_left 1
  · go_simp; first | done | with_reducible rfl | rw [if_neg (by omega)] | rw [if_pos (by omega)]
  simp only [Act.put, List.setIfInBounds_toArray, List.set_cons_zero, List.set_cons_succ]
  refine wpU_take 2 (some 280) (v := ?_) rfl rfl (by kernel_rfl) (fun _ _ _ h => h) rfl (fun x hx => ?_) ?_
  rotate_left 1
  · go_simp; first | done | with_reducible rfl | rw [if_neg (by omega)] | rw [if_pos (by omega)]
  simp only [Act.put, List.setIfInBounds_toArray, List.set_cons_zero, List.set_cons_succ]
  refine wpU_take 3 (some 281) (v := ?_) rfl rfl (by kernel_rfl) (fun _ _ _ h => h) rfl (fun x hx => ?_) ?_
  rotate_left 1
  · go_simp; first | done | with_reducible rfl | rw [if_neg (by omega)] | rw [if_pos (by omega)]
  simp only [Act.put, List.setIfInBounds_toArray, List.set_cons_zero, List.set_cons_succ]
  refine wpU_take 4 (some 282) (v := ?_) rfl rfl (by kernel_rfl) (fun _ _ _ h => h) rfl (fun x hx => ?_) ?_
  rotate_left 1
  · go_simp; first | done | with_reducible rfl | rw [if_neg (by omega)] | rw [if_pos (by omega)]
  simp only [Act.put, List.setIfInBounds_toArray, List.set_cons_zero, List.set_cons_succ]
  refine wpU_take 5 (some 283) (v := ?_) rfl rfl (by kernel_rfl) (fun _ _ _ h => h) rfl (fun x hx => ?_) ?_
  rotate_left 1
  · obtain ⟨s0, s1, s2, s3, s4, s5⟩ := cells_s (hx.has HI3.out.blk); obtain ⟨p0, p1, p2, p3, p4, p5⟩ := cells_p (hx.has (HI3.out.foreign _ List.mem_cons_self).blk); obtain ⟨q0, q1, q2, q3, q4, q5, q6, q7, q8⟩ := cells_q (hx.has (HI3.out.foreign _ (List.mem_cons_of_mem _ List.mem_cons_self)).blk); simp only [Pat.op, Pat.text, Pat.num, Pat.lo, Pat.hi] at *; go_simp; first | done | with_reducible rfl | rw [if_neg (by omega)] | rw [if_pos (by omega)]
  simp only [Act.put, List.setIfInBounds_toArray, List.set_cons_zero, List.set_cons_succ]
  refine wpU_last [_, _] (by kernel_rfl) rfl rfl ?_
  simp only [List.getElem_toArray, List.getElem_cons_succ, List.getElem_cons_zero]
  go_wp2_with fail
  refine (one_some HSI.out HOK.out hss hat HZ.out).mono ?_
  rintro e w4 ⟨rfl, hb4⟩
  have HI4 := Lib.hid (HI3.out.later hb4)
  clear hb4
  obtain ⟨s0, s1, s2, s3, s4, s5⟩ := cells_s HI4.out.blk
  have f3 := frozen_of_row w4 M 3 _ _ HI4.out.blk
  have tz : decide (0 ≤ (z : Int)) = true := by simp
  go_wp2_with fail
  go_ret
  exact sdid_go (m' := { m with at_ := z }) ((HI4.out.setAt z).with_at z) HCH.out (by omega)

set_option maxRecDepth 100000 in
set_option maxHeartbeats 1000000 in
theorem sstep_none {w0 w : World} {M : Nat} {m : Mst} {gl : List SG} {gv hv cv ev : Value} {hs : List Value} {text : ByteArray} {num lo hi : Int} {kids : List Pat} {A : Option Addr} {c : Nat} {fr nx : Int} {gs : List Goal} {j : Nat} {s : ByteArray} {dv : Value} {op : Int}
    (h : SpecAt w0 w [] M m gl (j : Int) m.at_ gv hv cv ev hs) (hj : gl[j]? = some ⟨0, .mk op text num lo hi kids, .slice A kids.length c, nx, fr⟩) (hch : Chain gl nx gs) (hlen : gl.length ≤ 90000) (hsi : isSimple op) (hok : okWords op text num) (hss : s.size ≤ 120) (hat : m.at_ ≤ s.size) (hz : oneEnd op text num lo hi s m.at_ = none) :
    Calls Try.prog 71 #[.pointer (some ⟨M, 0, none⟩), dv, .string s] w (SDid w0 M m gl.length (.fail)) := by
  have hblk := h.blk
  obtain ⟨g0, gc, rfl⟩ := goal_row h hj
  obtain ⟨hA, hc, rfl, _, _⟩ := h.chs.form
  obtain ⟨cA, cc, rfl, _, _⟩ := h.caps.form
  obtain ⟨eA, ec, rfl, _, _⟩ := h.evs.form
  obtain ⟨s0, s1, s2, s3, s4, s5⟩ := cells_s hblk
  have fs2 := frozen_of_row w M 2 _ _ hblk
  have hMlt := has_lt hblk
  obtain ⟨q0, q1, q2, q3, q4, q5, q6, q7, q8⟩ := goal_cells h hj
  simp only [Pat.op, Pat.text, Pat.num, Pat.lo, Pat.hi] at q1 q2 q3 q4 q5
  have hjl : j < gl.length := (List.getElem?_eq_some_iff.1 hj).1
  have hjl' : (j : Int) < gl.length := by omega
  have hkid : KidsIn w0 (.mk op text num lo hi kids) (.slice A kids.length c) := h.kids _ (List.mem_of_getElem? hj)
  have HKID := Lib.hid hkid
  have HR := Lib.hid (kids_row hkid)
  have HCH := Lib.hid hch
  have HJ := Lib.hid hj
  have HI2 := Lib.hid (h.enter (ogOf ⟨0, .mk op text num lo hi kids, .slice A kids.length c, nx, fr⟩) (opOf (.mk op text num lo hi kids) (.slice A kids.length c)) nx)
  have hbel := h.below.size
  have HSI := Lib.hid hsi
  have HOK := Lib.hid hok
  have HZ := Lib.hid hz
  have t11 : (op == 11) = false := by unfold isSimple at hsi; simp; omega
  have t13 : (op == 13) = false := by unfold isSimple at hsi; simp; omega
  have t14 : (op == 14) = false := by unfold isSimple at hsi; simp; omega
  have t15 : (op == 15) = false := by unfold isSimple at hsi; simp; omega
  have t16 : (op == 16) = false := by unfold isSimple at hsi; simp; omega
  have t17 : (op == 17) = false := by unfold isSimple at hsi; simp; omega
  have t18 : (op == 18) = false := by unfold isSimple at hsi; simp; omega
  have t19 : (op == 19) = false := by unfold isSimple at hsi; simp; omega
  have t20 : (op == 20) = false := by unfold isSimple at hsi; simp; omega
  have t21 : (op == 21) = false := by unfold isSimple at hsi; simp; omega
  clear hsi hok hz
  clear h hblk hkid hch hj
  go_enter Try.func71, Try.ntmps71
  go_wp2_with fail
  clear s0 s1 s2 s3 s4 s5 q0 q1 q2 q3 q4 q5 q6 q7 q8 fs2
  -- region 53: 8 operations, the last [6, 7]
  refine wpU_begin [6, 7] [] (by kernel_rfl) (fun w3 hw3 => ?_)
  have HI3 := Lib.hid (HI2.out.later (drew_later hw3))
  clear hw3
  refine wpU_take 0 (some 278) (v := ?_) rfl rfl (by kernel_rfl) (fun _ _ _ h => h) rfl (fun x hx => ?_) ?_
  rotate_left 1
  · obtain ⟨s0, s1, s2, s3, s4, s5⟩ := cells_s (hx.has HI3.out.blk); obtain ⟨p0, p1, p2, p3, p4, p5⟩ := cells_p (hx.has (HI3.out.foreign _ List.mem_cons_self).blk); obtain ⟨q0, q1, q2, q3, q4, q5, q6, q7, q8⟩ := cells_q (hx.has (HI3.out.foreign _ (List.mem_cons_of_mem _ List.mem_cons_self)).blk); simp only [Pat.op, Pat.text, Pat.num, Pat.lo, Pat.hi] at *; go_simp; first | done | with_reducible rfl | rw [if_neg (by omega)] | rw [if_pos (by omega)]
  simp only [Act.put, List.setIfInBounds_toArray, List.set_cons_zero, List.set_cons_succ]
  refine wpU_take 1 (some 279) (v := ?_) rfl rfl (by kernel_rfl) (fun _ _ _ h => h) rfl (fun x hx => ?_) ?_
  rotate_left 1
  · go_simp; first | done | with_reducible rfl | rw [if_neg (by omega)] | rw [if_pos (by omega)]
  simp only [Act.put, List.setIfInBounds_toArray, List.set_cons_zero, List.set_cons_succ]
  refine wpU_take 2 (some 280) (v := ?_) rfl rfl (by kernel_rfl) (fun _ _ _ h => h) rfl (fun x hx => ?_) ?_
  rotate_left 1
  · go_simp; first | done | with_reducible rfl | rw [if_neg (by omega)] | rw [if_pos (by omega)]
  simp only [Act.put, List.setIfInBounds_toArray, List.set_cons_zero, List.set_cons_succ]
  refine wpU_take 3 (some 281) (v := ?_) rfl rfl (by kernel_rfl) (fun _ _ _ h => h) rfl (fun x hx => ?_) ?_
  rotate_left 1
  · go_simp; first | done | with_reducible rfl | rw [if_neg (by omega)] | rw [if_pos (by omega)]
  simp only [Act.put, List.setIfInBounds_toArray, List.set_cons_zero, List.set_cons_succ]
  refine wpU_take 4 (some 282) (v := ?_) rfl rfl (by kernel_rfl) (fun _ _ _ h => h) rfl (fun x hx => ?_) ?_
  rotate_left 1
  · go_simp; first | done | with_reducible rfl | rw [if_neg (by omega)] | rw [if_pos (by omega)]
  simp only [Act.put, List.setIfInBounds_toArray, List.set_cons_zero, List.set_cons_succ]
  refine wpU_take 5 (some 283) (v := ?_) rfl rfl (by kernel_rfl) (fun _ _ _ h => h) rfl (fun x hx => ?_) ?_
  rotate_left 1
  · obtain ⟨s0, s1, s2, s3, s4, s5⟩ := cells_s (hx.has HI3.out.blk); obtain ⟨p0, p1, p2, p3, p4, p5⟩ := cells_p (hx.has (HI3.out.foreign _ List.mem_cons_self).blk); obtain ⟨q0, q1, q2, q3, q4, q5, q6, q7, q8⟩ := cells_q (hx.has (HI3.out.foreign _ (List.mem_cons_of_mem _ List.mem_cons_self)).blk); simp only [Pat.op, Pat.text, Pat.num, Pat.lo, Pat.hi] at *; go_simp; first | done | with_reducible rfl | rw [if_neg (by omega)] | rw [if_pos (by omega)]
  simp only [Act.put, List.setIfInBounds_toArray, List.set_cons_zero, List.set_cons_succ]
  refine wpU_last [_, _] (by kernel_rfl) rfl rfl ?_
  simp only [List.getElem_toArray, List.getElem_cons_succ, List.getElem_cons_zero]
  go_wp2_with fail
  refine (one_none HSI.out HOK.out hss hat HZ.out).mono ?_
  rintro e w4 ⟨rfl, hb4⟩
  have HI4 := Lib.hid (HI3.out.later hb4)
  clear hb4
  obtain ⟨s0, s1, s2, s3, s4, s5⟩ := cells_s HI4.out.blk
  have f3 := frozen_of_row w4 M 3 _ _ HI4.out.blk
  go_wp2_with fail
  go_ret
  exact sdid_fail (HI4.out.setAt (-1)) (by omega)

end Go.Proofs.Ytndefbecoahfhaa
