/- Part of the walks of both matchers and of the laws' helpers. -/
import Derived.Test.YtndefbecoahfhaaZC7

/- spec's l20Step. Printed by gen_sstep.py. -/
namespace Go.Proofs.Ytndefbecoahfhaa
open Go.RowKit

set_option maxRecDepth 100000 in
set_option maxHeartbeats 1000000 in
theorem sstep_cap {w0 w : World} {M : Nat} {m : Mst} {gl : List SG} {gv hv cv ev : Value} {hs : List Value} {text : ByteArray} {num lo hi : Int} {kids : List Pat} {A : Option Addr} {c : Nat} {fr nx : Int} {gs : List Goal} {j : Nat} {s : ByteArray} {dv : Value} {op : Int}
    (h : SpecAt w0 w [] M m gl (j : Int) m.at_ gv hv cv ev hs) (hj : gl[j]? = some ⟨1, .mk op text num lo hi kids, .slice A kids.length c, nx, fr⟩) (hch : Chain gl nx gs) (hlen : gl.length ≤ 90000) (hne : m.caps.length ≤ 5000) :
    Calls Try.prog 71 #[.pointer (some ⟨M, 0, none⟩), dv, .string s] w (SDid w0 M m gl.length (.go gs (m.cap ⟨num, fr, m.at_⟩))) := by
  have hblk := h.blk
  obtain ⟨g0, gc, rfl⟩ := goal_row h hj
  obtain ⟨hA, hc, rfl, _, _⟩ := h.chs.form
  obtain ⟨cA, cc, rfl, _, _⟩ := h.caps.form
  obtain ⟨eA, ec, rfl, _, _⟩ := h.evs.form
  obtain ⟨s0, s1, s2, s3, s4, s5⟩ := cells_s hblk
  have fs2 := frozen_of_row w M 2 _ _ hblk
  have hMlt := has_lt hblk
  obtain ⟨q0, q1, q2, q3, q4, q5, q6, q7, q8⟩ := goal_cells h hj
  simp only [Pat.op, Pat.text, Pat.num, Pat.lo, Pat.hi] at q1 q2 q3 q4 q5
  have hjl : j < gl.length := (List.getElem?_eq_some_iff.1 hj).1
  have hjl' : (j : Int) < gl.length := by omega
  have hkid : KidsIn w0 (.mk op text num lo hi kids) (.slice A kids.length c) := h.kids _ (List.mem_of_getElem? hj)
  have HKID := Lib.hid hkid
  have HR := Lib.hid (kids_row hkid)
  have HCH := Lib.hid hch
  have HJ := Lib.hid hj
  have HI2 := Lib.hid (h.enter (ogOf ⟨1, .mk op text num lo hi kids, .slice A kids.length c, nx, fr⟩) (opOf (.mk op text num lo hi kids) (.slice A kids.length c)) nx)
  have hbel := h.below.size
  clear h hblk hkid hch hj
  go_enter Try.func71, Try.ntmps71
  go_wp2_with fail
  clear s0 s1 s2 s3 s4 s5 q0 q1 q2 q3 q4 q5 q6 q7 q8 fs2
  -- region 7: 19 operations, the last [15, 16, 17, 18]
  refine wpU_begin [15, 16, 17, 18] [0] (by kernel_rfl) (fun w3 hw3 => ?_)
  have HI3 := Lib.hid (HI2.out.later (drew_later hw3))
  clear hw3
  refine wpU_pure 0 (some 36) (v := ?_) rfl rfl (by kernel_rfl) (fun _ _ _ h => h) rfl (fun x => ?_) ?_
  rotate_left 1
  · go_simp; first | done | with_reducible rfl | rw [if_neg (by omega)] | rw [if_pos (by omega)]
  simp only [Act.put, List.setIfInBounds_toArray, List.set_cons_zero, List.set_cons_succ]
  refine wpU_take 1 (some 37) (v := ?_) rfl rfl (by kernel_rfl) (fun _ _ _ h => h) rfl (fun x hx => ?_) ?_
  rotate_left 1
  · go_simp; first | done | with_reducible rfl | rw [if_neg (by omega)] | rw [if_pos (by omega)]
  simp only [Act.put, List.setIfInBounds_toArray, List.set_cons_zero, List.set_cons_succ]
  refine wpU_take 2 (some 38) (v := ?_) rfl rfl (by kernel_rfl) (fun _ _ _ h => h) rfl (fun x hx => ?_) ?_
  rotate_left 1
  · go_simp; first | done | with_reducible rfl | rw [if_neg (by omega)] | rw [if_pos (by omega)]
  simp only [Act.put, List.setIfInBounds_toArray, List.set_cons_zero, List.set_cons_succ]
  refine wpU_take 3 (some 39) (v := ?_) rfl rfl (by kernel_rfl) (fun _ _ _ h => h) rfl (fun x hx => ?_) ?_
  rotate_left 1
  · go_simp; first | done | with_reducible rfl | rw [if_neg (by omega)] | rw [if_pos (by omega)]
  simp only [Act.put, List.setIfInBounds_toArray, List.set_cons_zero, List.set_cons_succ]
  refine wpU_take 4 (some 40) (v := ?_) rfl rfl (by kernel_rfl) (fun _ _ _ h => h) rfl (fun x hx => ?_) ?_
  rotate_left 1
  · obtain ⟨s0, s1, s2, s3, s4, s5⟩ := cells_s (hx.has HI3.out.blk); obtain ⟨p0, p1, p2, p3, p4, p5⟩ := cells_p (hx.has (HI3.out.foreign _ List.mem_cons_self).blk); obtain ⟨q0, q1, q2, q3, q4, q5, q6, q7, q8⟩ := cells_q (hx.has (HI3.out.foreign _ (List.mem_cons_of_mem _ List.mem_cons_self)).blk); simp only [Pat.op, Pat.text, Pat.num, Pat.lo, Pat.hi] at *; go_simp; first | done | with_reducible rfl | rw [if_neg (by omega)] | rw [if_pos (by omega)]
  simp only [Act.put, List.setIfInBounds_toArray, List.set_cons_zero, List.set_cons_succ]
  refine wpU_take 5 (some 41) (v := ?_) rfl rfl (by kernel_rfl) (fun _ _ _ h => h) rfl (fun x hx => ?_) ?_
  rotate_left 1
  · go_simp; first | done | with_reducible rfl | rw [if_neg (by omega)] | rw [if_pos (by omega)]
  simp only [Act.put, List.setIfInBounds_toArray, List.set_cons_zero, List.set_cons_succ]
  refine wpU_take 6 (some 42) (v := ?_) rfl rfl (by kernel_rfl) (fun _ _ _ h => h) rfl (fun x hx => ?_) ?_
  rotate_left 1
  · obtain ⟨s0, s1, s2, s3, s4, s5⟩ := cells_s (hx.has HI3.out.blk); obtain ⟨p0, p1, p2, p3, p4, p5⟩ := cells_p (hx.has (HI3.out.foreign _ List.mem_cons_self).blk); obtain ⟨q0, q1, q2, q3, q4, q5, q6, q7, q8⟩ := cells_q (hx.has (HI3.out.foreign _ (List.mem_cons_of_mem _ List.mem_cons_self)).blk); simp only [Pat.op, Pat.text, Pat.num, Pat.lo, Pat.hi] at *; go_simp; first | done | with_reducible rfl | rw [if_neg (by omega)] | rw [if_pos (by omega)]
  simp only [Act.put, List.setIfInBounds_toArray, List.set_cons_zero, List.set_cons_succ]
  refine wpU_take 7 (some 43) (v := ?_) rfl rfl (by kernel_rfl) (fun _ _ _ h => h) rfl (fun x hx => ?_) ?_
  rotate_left 1
  · go_simp; first | done | with_reducible rfl | rw [if_neg (by omega)] | rw [if_pos (by omega)]
  simp only [Act.put, List.setIfInBounds_toArray, List.set_cons_zero, List.set_cons_succ]
  refine wpU_take 8 (some 44) (v := ?_) rfl rfl (by kernel_rfl) (fun _ _ _ h => h) rfl (fun x hx => ?_) ?_
  rotate_left 1
  · obtain ⟨s0, s1, s2, s3, s4, s5⟩ := cells_s (hx.has HI3.out.blk); obtain ⟨p0, p1, p2, p3, p4, p5⟩ := cells_p (hx.has (HI3.out.foreign _ List.mem_cons_self).blk); obtain ⟨q0, q1, q2, q3, q4, q5, q6, q7, q8⟩ := cells_q (hx.has (HI3.out.foreign _ (List.mem_cons_of_mem _ List.mem_cons_self)).blk); simp only [Pat.op, Pat.text, Pat.num, Pat.lo, Pat.hi] at *; go_simp; first | done | with_reducible rfl | rw [if_neg (by omega)] | rw [if_pos (by omega)]
  simp only [Act.put, List.setIfInBounds_toArray, List.set_cons_zero, List.set_cons_succ]
  refine wpU_take 9 (some 45) (v := ?_) rfl rfl (by kernel_rfl) (fun _ _ _ h => h) rfl (fun x hx => ?_) ?_
  rotate_left 1
  · go_simp; first | done | with_reducible rfl | rw [if_neg (by omega)] | rw [if_pos (by omega)]
  simp only [Act.put, List.setIfInBounds_toArray, List.set_cons_zero, List.set_cons_succ]
  refine wpU_take 10 (some 46) (v := ?_) rfl rfl (by kernel_rfl) (fun _ _ _ h => h) rfl (fun x hx => ?_) ?_
  rotate_left 1
  · go_simp; first | done | with_reducible rfl | rw [if_neg (by omega)] | rw [if_pos (by omega)]
  simp only [Act.put, List.setIfInBounds_toArray, List.set_cons_zero, List.set_cons_succ]
  refine wpU_take 11 (some 47) (v := ?_) rfl rfl (by kernel_rfl) (fun _ _ _ h => h) rfl (fun x hx => ?_) ?_
  rotate_left 1
  · go_simp; first | done | with_reducible rfl | rw [if_neg (by omega)] | rw [if_pos (by omega)]
  simp only [Act.put, List.setIfInBounds_toArray, List.set_cons_zero, List.set_cons_succ]
  refine wpU_take 12 (some 48) (v := ?_) rfl rfl (by kernel_rfl) (fun _ _ _ h => h) rfl (fun x hx => ?_) ?_
  rotate_left 1
  · obtain ⟨s0, s1, s2, s3, s4, s5⟩ := cells_s (hx.has HI3.out.blk); obtain ⟨p0, p1, p2, p3, p4, p5⟩ := cells_p (hx.has (HI3.out.foreign _ List.mem_cons_self).blk); obtain ⟨q0, q1, q2, q3, q4, q5, q6, q7, q8⟩ := cells_q (hx.has (HI3.out.foreign _ (List.mem_cons_of_mem _ List.mem_cons_self)).blk); simp only [Pat.op, Pat.text, Pat.num, Pat.lo, Pat.hi] at *; go_simp; first | done | with_reducible rfl | rw [if_neg (by omega)] | rw [if_pos (by omega)]
  simp only [Act.put, List.setIfInBounds_toArray, List.set_cons_zero, List.set_cons_succ]
  refine wpU_take 13 (some 49) (v := ?_) rfl rfl (by kernel_rfl) (fun _ _ _ h => h) rfl (fun x hx => ?_) ?_
  rotate_left 1
  · go_simp; first | done | with_reducible rfl | rw [if_neg (by omega)] | rw [if_pos (by omega)]
  simp only [Act.put, List.setIfInBounds_toArray, List.set_cons_zero, List.set_cons_succ]
  refine wpU_step 14 (by kernel_rfl) rfl rfl ?_  -- buildSlice 
  go_wp2_with fail
  refine ⟨(Later.refl _).alloc _, ?_⟩
  refine wpU_last [_, _, _, _] (by kernel_rfl) rfl rfl ?_
  simp only [List.getElem_toArray, List.getElem_cons_succ, List.getElem_cons_zero]
  obtain ⟨i, hi, hz0, hz1, hz2⟩ := info_parts infoK
  refine wpList_append_has _ rfl _ _ _ rfl w0.heap.size TK i _ 3 24 Try.underlying31 hi hz0 hz1 hz2 rfl _ m.caps.length (capCells m.caps) rfl ((HI3.out.later ((Later.refl _).alloc _)).caps) _ 1 1 [.int .i64 num, .int .i64 fr, .int .i64 m.at_] rfl rfl ?_ ?_ (by omega) ?_ ?_ ?_ ?_
  · exact cells_three _ _ _ _ _
  · intro u hu
    simp only [List.mem_cons, List.not_mem_nil, or_false] at hu
    rcases hu with rfl | rfl | rfl <;> rfl
  · simp only [maxLen]; omega
  · omega
  · exact (HI3.out.later ((Later.refl w3).alloc _)).below.size
  · intro v' w' hrow hgrow hblock
    obtain ⟨vA, vc, rfl, _, _⟩ := hrow.form
    obtain ⟨hM', hI'⟩ := (HI3.out.later ((Later.refl w3).alloc _)).grownC (c := ⟨num, fr, m.at_⟩) hrow hgrow hblock
    have HI' := Lib.hid hI'
    obtain ⟨s0, s1, s2, s3, s4, s5⟩ := cells_s hM'
    have fF := frozen_of_row w' M 4 _ _ hM'
    clear hM' hI' hrow hgrow hblock
    go_wp2_with fail
    go_ret
    exact sdid_go (m' := m.cap ⟨num, fr, m.at_⟩) HI'.out HCH.out (by omega)

set_option maxRecDepth 100000 in
set_option maxHeartbeats 1000000 in
theorem sstep_event {w0 w : World} {M : Nat} {m : Mst} {gl : List SG} {gv hv cv ev : Value} {hs : List Value} {text : ByteArray} {num lo hi : Int} {kids : List Pat} {A : Option Addr} {c : Nat} {fr nx : Int} {gs : List Goal} {j : Nat} {s : ByteArray} {dv : Value} {op : Int}
    (h : SpecAt w0 w [] M m gl (j : Int) m.at_ gv hv cv ev hs) (hj : gl[j]? = some ⟨2, .mk op text num lo hi kids, .slice A kids.length c, nx, fr⟩) (hch : Chain gl nx gs) (hlen : gl.length ≤ 90000) (hne : m.events.length ≤ 5000) :
    Calls Try.prog 71 #[.pointer (some ⟨M, 0, none⟩), dv, .string s] w (SDid w0 M m gl.length (.go gs (m.event ⟨num, fr, m.at_⟩))) := by
  have hblk := h.blk
  obtain ⟨g0, gc, rfl⟩ := goal_row h hj
  obtain ⟨hA, hc, rfl, _, _⟩ := h.chs.form
  obtain ⟨cA, cc, rfl, _, _⟩ := h.caps.form
  obtain ⟨eA, ec, rfl, _, _⟩ := h.evs.form
  obtain ⟨s0, s1, s2, s3, s4, s5⟩ := cells_s hblk
  have fs2 := frozen_of_row w M 2 _ _ hblk
  have hMlt := has_lt hblk
  obtain ⟨q0, q1, q2, q3, q4, q5, q6, q7, q8⟩ := goal_cells h hj
  simp only [Pat.op, Pat.text, Pat.num, Pat.lo, Pat.hi] at q1 q2 q3 q4 q5
  have hjl : j < gl.length := (List.getElem?_eq_some_iff.1 hj).1
  have hjl' : (j : Int) < gl.length := by omega
  have hkid : KidsIn w0 (.mk op text num lo hi kids) (.slice A kids.length c) := h.kids _ (List.mem_of_getElem? hj)
  have HKID := Lib.hid hkid
  have HR := Lib.hid (kids_row hkid)
  have HCH := Lib.hid hch
  have HJ := Lib.hid hj
  have HI2 := Lib.hid (h.enter (ogOf ⟨2, .mk op text num lo hi kids, .slice A kids.length c, nx, fr⟩) (opOf (.mk op text num lo hi kids) (.slice A kids.length c)) nx)
  have hbel := h.below.size
  clear h hblk hkid hch hj
  go_enter Try.func71, Try.ntmps71
  go_wp2_with fail
  clear s0 s1 s2 s3 s4 s5 q0 q1 q2 q3 q4 q5 q6 q7 q8 fs2
  -- region 10: 19 operations, the last [15, 16, 17, 18]
  refine wpU_begin [15, 16, 17, 18] [0] (by kernel_rfl) (fun w3 hw3 => ?_)
  have HI3 := Lib.hid (HI2.out.later (drew_later hw3))
  clear hw3
  refine wpU_pure 0 (some 56) (v := ?_) rfl rfl (by kernel_rfl) (fun _ _ _ h => h) rfl (fun x => ?_) ?_
  rotate_left 1
  · go_simp; first | done | with_reducible rfl | rw [if_neg (by omega)] | rw [if_pos (by omega)]
  simp only [Act.put, List.setIfInBounds_toArray, List.set_cons_zero, List.set_cons_succ]
  refine wpU_take 1 (some 57) (v := ?_) rfl rfl (by kernel_rfl) (fun _ _ _ h => h) rfl (fun x hx => ?_) ?_
  rotate_left 1
  · go_simp; first | done | with_reducible rfl | rw [if_neg (by omega)] | rw [if_pos (by omega)]
  simp only [Act.put, List.setIfInBounds_toArray, List.set_cons_zero, List.set_cons_succ]
  refine wpU_take 2 (some 58) (v := ?_) rfl rfl (by kernel_rfl) (fun _ _ _ h => h) rfl (fun x hx => ?_) ?_
  rotate_left 1
  · go_simp; first | done | with_reducible rfl | rw [if_neg (by omega)] | rw [if_pos (by omega)]
  simp only [Act.put, List.setIfInBounds_toArray, List.set_cons_zero, List.set_cons_succ]
  refine wpU_take 3 (some 59) (v := ?_) rfl rfl (by kernel_rfl) (fun _ _ _ h => h) rfl (fun x hx => ?_) ?_
  rotate_left 1
  · go_simp; first | done | with_reducible rfl | rw [if_neg (by omega)] | rw [if_pos (by omega)]
  simp only [Act.put, List.setIfInBounds_toArray, List.set_cons_zero, List.set_cons_succ]
  refine wpU_take 4 (some 60) (v := ?_) rfl rfl (by kernel_rfl) (fun _ _ _ h => h) rfl (fun x hx => ?_) ?_
  rotate_left 1
  · obtain ⟨s0, s1, s2, s3, s4, s5⟩ := cells_s (hx.has HI3.out.blk); obtain ⟨p0, p1, p2, p3, p4, p5⟩ := cells_p (hx.has (HI3.out.foreign _ List.mem_cons_self).blk); obtain ⟨q0, q1, q2, q3, q4, q5, q6, q7, q8⟩ := cells_q (hx.has (HI3.out.foreign _ (List.mem_cons_of_mem _ List.mem_cons_self)).blk); simp only [Pat.op, Pat.text, Pat.num, Pat.lo, Pat.hi] at *; go_simp; first | done | with_reducible rfl | rw [if_neg (by omega)] | rw [if_pos (by omega)]
  simp only [Act.put, List.setIfInBounds_toArray, List.set_cons_zero, List.set_cons_succ]
  refine wpU_take 5 (some 61) (v := ?_) rfl rfl (by kernel_rfl) (fun _ _ _ h => h) rfl (fun x hx => ?_) ?_
  rotate_left 1
  · go_simp; first | done | with_reducible rfl | rw [if_neg (by omega)] | rw [if_pos (by omega)]
  simp only [Act.put, List.setIfInBounds_toArray, List.set_cons_zero, List.set_cons_succ]
  refine wpU_take 6 (some 62) (v := ?_) rfl rfl (by kernel_rfl) (fun _ _ _ h => h) rfl (fun x hx => ?_) ?_
  rotate_left 1
  · obtain ⟨s0, s1, s2, s3, s4, s5⟩ := cells_s (hx.has HI3.out.blk); obtain ⟨p0, p1, p2, p3, p4, p5⟩ := cells_p (hx.has (HI3.out.foreign _ List.mem_cons_self).blk); obtain ⟨q0, q1, q2, q3, q4, q5, q6, q7, q8⟩ := cells_q (hx.has (HI3.out.foreign _ (List.mem_cons_of_mem _ List.mem_cons_self)).blk); simp only [Pat.op, Pat.text, Pat.num, Pat.lo, Pat.hi] at *; go_simp; first | done | with_reducible rfl | rw [if_neg (by omega)] | rw [if_pos (by omega)]
  simp only [Act.put, List.setIfInBounds_toArray, List.set_cons_zero, List.set_cons_succ]
  refine wpU_take 7 (some 63) (v := ?_) rfl rfl (by kernel_rfl) (fun _ _ _ h => h) rfl (fun x hx => ?_) ?_
  rotate_left 1
  · go_simp; first | done | with_reducible rfl | rw [if_neg (by omega)] | rw [if_pos (by omega)]
  simp only [Act.put, List.setIfInBounds_toArray, List.set_cons_zero, List.set_cons_succ]
  refine wpU_take 8 (some 64) (v := ?_) rfl rfl (by kernel_rfl) (fun _ _ _ h => h) rfl (fun x hx => ?_) ?_
  rotate_left 1
  · obtain ⟨s0, s1, s2, s3, s4, s5⟩ := cells_s (hx.has HI3.out.blk); obtain ⟨p0, p1, p2, p3, p4, p5⟩ := cells_p (hx.has (HI3.out.foreign _ List.mem_cons_self).blk); obtain ⟨q0, q1, q2, q3, q4, q5, q6, q7, q8⟩ := cells_q (hx.has (HI3.out.foreign _ (List.mem_cons_of_mem _ List.mem_cons_self)).blk); simp only [Pat.op, Pat.text, Pat.num, Pat.lo, Pat.hi] at *; go_simp; first | done | with_reducible rfl | rw [if_neg (by omega)] | rw [if_pos (by omega)]
  simp only [Act.put, List.setIfInBounds_toArray, List.set_cons_zero, List.set_cons_succ]
  refine wpU_take 9 (some 65) (v := ?_) rfl rfl (by kernel_rfl) (fun _ _ _ h => h) rfl (fun x hx => ?_) ?_
  rotate_left 1
  · go_simp; first | done | with_reducible rfl | rw [if_neg (by omega)] | rw [if_pos (by omega)]
  simp only [Act.put, List.setIfInBounds_toArray, List.set_cons_zero, List.set_cons_succ]
  refine wpU_take 10 (some 66) (v := ?_) rfl rfl (by kernel_rfl) (fun _ _ _ h => h) rfl (fun x hx => ?_) ?_
  rotate_left 1
  · go_simp; first | done | with_reducible rfl | rw [if_neg (by omega)] | rw [if_pos (by omega)]
  simp only [Act.put, List.setIfInBounds_toArray, List.set_cons_zero, List.set_cons_succ]
  refine wpU_take 11 (some 67) (v := ?_) rfl rfl (by kernel_rfl) (fun _ _ _ h => h) rfl (fun x hx => ?_) ?_
  rotate_left 1
  · go_simp; first | done | with_reducible rfl | rw [if_neg (by omega)] | rw [if_pos (by omega)]
  simp only [Act.put, List.setIfInBounds_toArray, List.set_cons_zero, List.set_cons_succ]
  refine wpU_take 12 (some 68) (v := ?_) rfl rfl (by kernel_rfl) (fun _ _ _ h => h) rfl (fun x hx => ?_) ?_
  rotate_left 1
  · obtain ⟨s0, s1, s2, s3, s4, s5⟩ := cells_s (hx.has HI3.out.blk); obtain ⟨p0, p1, p2, p3, p4, p5⟩ := cells_p (hx.has (HI3.out.foreign _ List.mem_cons_self).blk); obtain ⟨q0, q1, q2, q3, q4, q5, q6, q7, q8⟩ := cells_q (hx.has (HI3.out.foreign _ (List.mem_cons_of_mem _ List.mem_cons_self)).blk); simp only [Pat.op, Pat.text, Pat.num, Pat.lo, Pat.hi] at *; go_simp; first | done | with_reducible rfl | rw [if_neg (by omega)] | rw [if_pos (by omega)]
  simp only [Act.put, List.setIfInBounds_toArray, List.set_cons_zero, List.set_cons_succ]
  refine wpU_take 13 (some 69) (v := ?_) rfl rfl (by kernel_rfl) (fun _ _ _ h => h) rfl (fun x hx => ?_) ?_
  rotate_left 1
  · go_simp; first | done | with_reducible rfl | rw [if_neg (by omega)] | rw [if_pos (by omega)]
  simp only [Act.put, List.setIfInBounds_toArray, List.set_cons_zero, List.set_cons_succ]
  refine wpU_step 14 (by kernel_rfl) rfl rfl ?_  -- buildSlice 
  go_wp2_with fail
  refine ⟨(Later.refl _).alloc _, ?_⟩
  refine wpU_last [_, _, _, _] (by kernel_rfl) rfl rfl ?_
  simp only [List.getElem_toArray, List.getElem_cons_succ, List.getElem_cons_zero]
  obtain ⟨i, hi, hz0, hz1, hz2⟩ := info_parts infoK
  refine wpList_append_has _ rfl _ _ _ rfl w0.heap.size TK i _ 3 24 Try.underlying31 hi hz0 hz1 hz2 rfl _ m.events.length (capCells m.events) rfl ((HI3.out.later ((Later.refl _).alloc _)).evs) _ 1 1 [.int .i64 num, .int .i64 fr, .int .i64 m.at_] rfl rfl ?_ ?_ (by omega) ?_ ?_ ?_ ?_
  · exact cells_three _ _ _ _ _
  · intro u hu
    simp only [List.mem_cons, List.not_mem_nil, or_false] at hu
    rcases hu with rfl | rfl | rfl <;> rfl
  · simp only [maxLen]; omega
  · omega
  · exact (HI3.out.later ((Later.refl w3).alloc _)).below.size
  · intro v' w' hrow hgrow hblock
    obtain ⟨vA, vc, rfl, _, _⟩ := hrow.form
    obtain ⟨hM', hI'⟩ := (HI3.out.later ((Later.refl w3).alloc _)).grownE (c := ⟨num, fr, m.at_⟩) hrow hgrow hblock
    have HI' := Lib.hid hI'
    obtain ⟨s0, s1, s2, s3, s4, s5⟩ := cells_s hM'
    have fF := frozen_of_row w' M 5 _ _ hM'
    clear hM' hI' hrow hgrow hblock
    go_wp2_with fail
    go_ret
    exact sdid_go (m' := m.event ⟨num, fr, m.at_⟩) HI'.out HCH.out (by omega)

set_option maxRecDepth 100000 in
set_option maxHeartbeats 1000000 in
theorem sstep_cursor {w0 w : World} {M : Nat} {m : Mst} {gl : List SG} {gv hv cv ev : Value} {hs : List Value} {text : ByteArray} {num lo hi : Int} {kids : List Pat} {A : Option Addr} {c : Nat} {fr nx : Int} {gs : List Goal} {j : Nat} {s : ByteArray} {dv : Value} 
    (h : SpecAt w0 w [] M m gl (j : Int) m.at_ gv hv cv ev hs) (hj : gl[j]? = some ⟨0, .mk 18 text num lo hi kids, .slice A kids.length c, nx, fr⟩) (hch : Chain gl nx gs) (hlen : gl.length ≤ 90000) (hne : m.events.length ≤ 5000) :
    Calls Try.prog 71 #[.pointer (some ⟨M, 0, none⟩), dv, .string s] w (SDid w0 M m gl.length (.go gs (m.event ⟨num, m.at_, -1⟩))) := by
  have hblk := h.blk
  obtain ⟨g0, gc, rfl⟩ := goal_row h hj
  obtain ⟨hA, hc, rfl, _, _⟩ := h.chs.form
  obtain ⟨cA, cc, rfl, _, _⟩ := h.caps.form
  obtain ⟨eA, ec, rfl, _, _⟩ := h.evs.form
  obtain ⟨s0, s1, s2, s3, s4, s5⟩ := cells_s hblk
  have fs2 := frozen_of_row w M 2 _ _ hblk
  have hMlt := has_lt hblk
  obtain ⟨q0, q1, q2, q3, q4, q5, q6, q7, q8⟩ := goal_cells h hj
  simp only [Pat.op, Pat.text, Pat.num, Pat.lo, Pat.hi] at q1 q2 q3 q4 q5
  have hjl : j < gl.length := (List.getElem?_eq_some_iff.1 hj).1
  have hjl' : (j : Int) < gl.length := by omega
  have hkid : KidsIn w0 (.mk 18 text num lo hi kids) (.slice A kids.length c) := h.kids _ (List.mem_of_getElem? hj)
  have HKID := Lib.hid hkid
  have HR := Lib.hid (kids_row hkid)
  have HCH := Lib.hid hch
  have HJ := Lib.hid hj
  have HI2 := Lib.hid (h.enter (ogOf ⟨0, .mk 18 text num lo hi kids, .slice A kids.length c, nx, fr⟩) (opOf (.mk 18 text num lo hi kids) (.slice A kids.length c)) nx)
  have hbel := h.below.size
  clear h hblk hkid hch hj
  go_enter Try.func71, Try.ntmps71
  go_wp2_with fail
  clear s0 s1 s2 s3 s4 s5 q0 q1 q2 q3 q4 q5 q6 q7 q8 fs2
  -- region 41: 17 operations, the last [13, 14, 15, 16]
  refine wpU_begin [13, 14, 15, 16] [0] (by kernel_rfl) (fun w3 hw3 => ?_)
  have HI3 := Lib.hid (HI2.out.later (drew_later hw3))
  clear hw3
  refine wpU_pure 0 (some 228) (v := ?_) rfl rfl (by kernel_rfl) (fun _ _ _ h => h) rfl (fun x => ?_) ?_
  rotate_left 1
  · go_simp; first | done | with_reducible rfl | rw [if_neg (by omega)] | rw [if_pos (by omega)]
  simp only [Act.put, List.setIfInBounds_toArray, List.set_cons_zero, List.set_cons_succ]
  refine wpU_take 1 (some 229) (v := ?_) rfl rfl (by kernel_rfl) (fun _ _ _ h => h) rfl (fun x hx => ?_) ?_
  rotate_left 1
  · go_simp; first | done | with_reducible rfl | rw [if_neg (by omega)] | rw [if_pos (by omega)]
  simp only [Act.put, List.setIfInBounds_toArray, List.set_cons_zero, List.set_cons_succ]
  refine wpU_take 2 (some 230) (v := ?_) rfl rfl (by kernel_rfl) (fun _ _ _ h => h) rfl (fun x hx => ?_) ?_
  rotate_left 1
  · go_simp; first | done | with_reducible rfl | rw [if_neg (by omega)] | rw [if_pos (by omega)]
  simp only [Act.put, List.setIfInBounds_toArray, List.set_cons_zero, List.set_cons_succ]
  refine wpU_take 3 (some 231) (v := ?_) rfl rfl (by kernel_rfl) (fun _ _ _ h => h) rfl (fun x hx => ?_) ?_
  rotate_left 1
  · go_simp; first | done | with_reducible rfl | rw [if_neg (by omega)] | rw [if_pos (by omega)]
  simp only [Act.put, List.setIfInBounds_toArray, List.set_cons_zero, List.set_cons_succ]
  refine wpU_take 4 (some 232) (v := ?_) rfl rfl (by kernel_rfl) (fun _ _ _ h => h) rfl (fun x hx => ?_) ?_
  rotate_left 1
  · obtain ⟨s0, s1, s2, s3, s4, s5⟩ := cells_s (hx.has HI3.out.blk); obtain ⟨p0, p1, p2, p3, p4, p5⟩ := cells_p (hx.has (HI3.out.foreign _ List.mem_cons_self).blk); obtain ⟨q0, q1, q2, q3, q4, q5, q6, q7, q8⟩ := cells_q (hx.has (HI3.out.foreign _ (List.mem_cons_of_mem _ List.mem_cons_self)).blk); simp only [Pat.op, Pat.text, Pat.num, Pat.lo, Pat.hi] at *; go_simp; first | done | with_reducible rfl | rw [if_neg (by omega)] | rw [if_pos (by omega)]
  simp only [Act.put, List.setIfInBounds_toArray, List.set_cons_zero, List.set_cons_succ]
  refine wpU_take 5 (some 233) (v := ?_) rfl rfl (by kernel_rfl) (fun _ _ _ h => h) rfl (fun x hx => ?_) ?_
  rotate_left 1
  · go_simp; first | done | with_reducible rfl | rw [if_neg (by omega)] | rw [if_pos (by omega)]
  simp only [Act.put, List.setIfInBounds_toArray, List.set_cons_zero, List.set_cons_succ]
  refine wpU_take 6 (some 234) (v := ?_) rfl rfl (by kernel_rfl) (fun _ _ _ h => h) rfl (fun x hx => ?_) ?_
  rotate_left 1
  · obtain ⟨s0, s1, s2, s3, s4, s5⟩ := cells_s (hx.has HI3.out.blk); obtain ⟨p0, p1, p2, p3, p4, p5⟩ := cells_p (hx.has (HI3.out.foreign _ List.mem_cons_self).blk); obtain ⟨q0, q1, q2, q3, q4, q5, q6, q7, q8⟩ := cells_q (hx.has (HI3.out.foreign _ (List.mem_cons_of_mem _ List.mem_cons_self)).blk); simp only [Pat.op, Pat.text, Pat.num, Pat.lo, Pat.hi] at *; go_simp; first | done | with_reducible rfl | rw [if_neg (by omega)] | rw [if_pos (by omega)]
  simp only [Act.put, List.setIfInBounds_toArray, List.set_cons_zero, List.set_cons_succ]
  refine wpU_take 7 (some 235) (v := ?_) rfl rfl (by kernel_rfl) (fun _ _ _ h => h) rfl (fun x hx => ?_) ?_
  rotate_left 1
  · go_simp; first | done | with_reducible rfl | rw [if_neg (by omega)] | rw [if_pos (by omega)]
  simp only [Act.put, List.setIfInBounds_toArray, List.set_cons_zero, List.set_cons_succ]
  refine wpU_take 8 (some 236) (v := ?_) rfl rfl (by kernel_rfl) (fun _ _ _ h => h) rfl (fun x hx => ?_) ?_
  rotate_left 1
  · go_simp; first | done | with_reducible rfl | rw [if_neg (by omega)] | rw [if_pos (by omega)]
  simp only [Act.put, List.setIfInBounds_toArray, List.set_cons_zero, List.set_cons_succ]
  refine wpU_take 9 (some 237) (v := ?_) rfl rfl (by kernel_rfl) (fun _ _ _ h => h) rfl (fun x hx => ?_) ?_
  rotate_left 1
  · go_simp; first | done | with_reducible rfl | rw [if_neg (by omega)] | rw [if_pos (by omega)]
  simp only [Act.put, List.setIfInBounds_toArray, List.set_cons_zero, List.set_cons_succ]
  refine wpU_take 10 (some 238) (v := ?_) rfl rfl (by kernel_rfl) (fun _ _ _ h => h) rfl (fun x hx => ?_) ?_
  rotate_left 1
  · obtain ⟨s0, s1, s2, s3, s4, s5⟩ := cells_s (hx.has HI3.out.blk); obtain ⟨p0, p1, p2, p3, p4, p5⟩ := cells_p (hx.has (HI3.out.foreign _ List.mem_cons_self).blk); obtain ⟨q0, q1, q2, q3, q4, q5, q6, q7, q8⟩ := cells_q (hx.has (HI3.out.foreign _ (List.mem_cons_of_mem _ List.mem_cons_self)).blk); simp only [Pat.op, Pat.text, Pat.num, Pat.lo, Pat.hi] at *; go_simp; first | done | with_reducible rfl | rw [if_neg (by omega)] | rw [if_pos (by omega)]
  simp only [Act.put, List.setIfInBounds_toArray, List.set_cons_zero, List.set_cons_succ]
  refine wpU_take 11 (some 239) (v := ?_) rfl rfl (by kernel_rfl) (fun _ _ _ h => h) rfl (fun x hx => ?_) ?_
  rotate_left 1
  · go_simp; first | done | with_reducible rfl | rw [if_neg (by omega)] | rw [if_pos (by omega)]
  simp only [Act.put, List.setIfInBounds_toArray, List.set_cons_zero, List.set_cons_succ]
  refine wpU_step 12 (by kernel_rfl) rfl rfl ?_  -- buildSlice 
  go_wp2_with fail
  refine ⟨(Later.refl _).alloc _, ?_⟩
  refine wpU_last [_, _, _, _] (by kernel_rfl) rfl rfl ?_
  simp only [List.getElem_toArray, List.getElem_cons_succ, List.getElem_cons_zero]
  obtain ⟨i, hi, hz0, hz1, hz2⟩ := info_parts infoK
  refine wpList_append_has _ rfl _ _ _ rfl w0.heap.size TK i _ 3 24 Try.underlying31 hi hz0 hz1 hz2 rfl _ m.events.length (capCells m.events) rfl ((HI3.out.later ((Later.refl _).alloc _)).evs) _ 1 1 [.int .i64 num, .int .i64 m.at_, .int .i64 (-1)] rfl rfl ?_ ?_ (by omega) ?_ ?_ ?_ ?_
  · exact cells_three _ _ _ _ _
  · intro u hu
    simp only [List.mem_cons, List.not_mem_nil, or_false] at hu
    rcases hu with rfl | rfl | rfl <;> rfl
  · simp only [maxLen]; omega
  · omega
  · exact (HI3.out.later ((Later.refl w3).alloc _)).below.size
  · intro v' w' hrow hgrow hblock
    obtain ⟨vA, vc, rfl, _, _⟩ := hrow.form
    obtain ⟨hM', hI'⟩ := (HI3.out.later ((Later.refl w3).alloc _)).grownE (c := ⟨num, m.at_, -1⟩) hrow hgrow hblock
    have HI' := Lib.hid hI'
    obtain ⟨s0, s1, s2, s3, s4, s5⟩ := cells_s hM'
    have fF := frozen_of_row w' M 5 _ _ hM'
    clear hM' hI' hrow hgrow hblock
    go_wp2_with fail
    go_ret
    exact sdid_go (m' := m.event ⟨num, m.at_, -1⟩) HI'.out HCH.out (by omega)

end Go.Proofs.Ytndefbecoahfhaa

/- spec's l20Step. Printed by gen_sstep.py. -/
namespace Go.Proofs.Ytndefbecoahfhaa
open Go.RowKit

set_option maxRecDepth 100000 in
set_option maxHeartbeats 1000000 in
theorem sstep_extend {w0 w : World} {M : Nat} {m : Mst} {gl : List SG} {gv hv cv ev : Value} {hs : List Value} {text : ByteArray} {num lo hi : Int} {k0 : Pat} {A : Option Addr} {c : Nat} {fr nx : Int} {gs : List Goal} {j : Nat} {s : ByteArray} {dv : Value} {op : Int}
    (h : SpecAt w0 w [] M m gl (j : Int) m.at_ gv hv cv ev hs) (hj : gl[j]? = some ⟨3, .mk op text num lo hi [k0], .slice A 1 c, nx, fr⟩) (hch : Chain gl nx gs) (hlen : gl.length ≤ 90000) :
    Calls Try.prog 71 #[.pointer (some ⟨M, 0, none⟩), dv, .string s] w (SDid w0 M m gl.length (.go (⟨0, k0, 0⟩ :: ⟨4, .mk op text num lo hi [k0], m.at_⟩ :: gs) m)) := by
  have hblk := h.blk
  obtain ⟨g0, gc, rfl⟩ := goal_row h hj
  obtain ⟨hA, hc, rfl, _, _⟩ := h.chs.form
  obtain ⟨cA, cc, rfl, _, _⟩ := h.caps.form
  obtain ⟨eA, ec, rfl, _, _⟩ := h.evs.form
  obtain ⟨s0, s1, s2, s3, s4, s5⟩ := cells_s hblk
  have fs2 := frozen_of_row w M 2 _ _ hblk
  have hMlt := has_lt hblk
  obtain ⟨q0, q1, q2, q3, q4, q5, q6, q7, q8⟩ := goal_cells h hj
  simp only [Pat.op, Pat.text, Pat.num, Pat.lo, Pat.hi] at q1 q2 q3 q4 q5
  have hjl : j < gl.length := (List.getElem?_eq_some_iff.1 hj).1
  have hjl' : (j : Int) < gl.length := by omega
  have hkid : KidsIn w0 (.mk op text num lo hi [k0]) (.slice A 1 c) := h.kids _ (List.mem_of_getElem? hj)
  have HKID := Lib.hid hkid
  have HR := Lib.hid (kids_row hkid)
  have HCH := Lib.hid hch
  have HJ := Lib.hid hj
  have HI2 := Lib.hid (h.enter (ogOf ⟨3, .mk op text num lo hi [k0], .slice A 1 c, nx, fr⟩) (opOf (.mk op text num lo hi [k0]) (.slice A 1 c)) nx)
  have hbel := h.below.size
  clear h hblk hkid hch hj
  go_enter Try.func71, Try.ntmps71
  go_wp2_with fail
  clear s0 s1 s2 s3 s4 s5 q0 q1 q2 q3 q4 q5 q6 q7 q8 fs2
  -- region 13: 11 operations, the last [9, 10]
  refine wpU_begin [9, 10] [] (by kernel_rfl) (fun w3 hw3 => ?_)
  have HI3 := Lib.hid (HI2.out.later (drew_later hw3))
  clear hw3
  refine wpU_take 0 (some 76) (v := ?_) rfl rfl (by kernel_rfl) (fun _ _ _ h => h) rfl (fun x hx => ?_) ?_
  rotate_left 1
  · go_simp; first | done | with_reducible rfl | rw [if_neg (by omega)] | rw [if_pos (by omega)]
  simp only [Act.put, List.setIfInBounds_toArray, List.set_cons_zero, List.set_cons_succ]
  refine wpU_take 1 (some 77) (v := ?_) rfl rfl (by kernel_rfl) (fun _ _ _ h => h) rfl (fun x hx => ?_) ?_
  rotate_left 1
  · obtain ⟨s0, s1, s2, s3, s4, s5⟩ := cells_s (hx.has HI3.out.blk); obtain ⟨p0, p1, p2, p3, p4, p5⟩ := cells_p (hx.has (HI3.out.foreign _ List.mem_cons_self).blk); obtain ⟨q0, q1, q2, q3, q4, q5, q6, q7, q8⟩ := cells_q (hx.has (HI3.out.foreign _ (List.mem_cons_of_mem _ List.mem_cons_self)).blk); simp only [Pat.op, Pat.text, Pat.num, Pat.lo, Pat.hi] at *; go_simp; first | done | with_reducible rfl | rw [if_neg (by omega)] | rw [if_pos (by omega)]
  simp only [Act.put, List.setIfInBounds_toArray, List.set_cons_zero, List.set_cons_succ]
  refine wpU_take 2 (some 78) (v := ?_) rfl rfl (by kernel_rfl) (fun _ _ _ h => h) rfl (fun x hx => ?_) ?_
  rotate_left 1
  · go_simp; first | done | with_reducible rfl | rw [if_neg (by omega)] | rw [if_pos (by omega)]
  simp only [Act.put, List.setIfInBounds_toArray, List.set_cons_zero, List.set_cons_succ]
  refine wpU_take 3 (some 79) (v := ?_) rfl rfl (by kernel_rfl) (fun _ _ _ h => h) rfl (fun x hx => ?_) ?_
  rotate_left 1
  · obtain ⟨s0, s1, s2, s3, s4, s5⟩ := cells_s (hx.has HI3.out.blk); obtain ⟨p0, p1, p2, p3, p4, p5⟩ := cells_p (hx.has (HI3.out.foreign _ List.mem_cons_self).blk); obtain ⟨q0, q1, q2, q3, q4, q5, q6, q7, q8⟩ := cells_q (hx.has (HI3.out.foreign _ (List.mem_cons_of_mem _ List.mem_cons_self)).blk); simp only [Pat.op, Pat.text, Pat.num, Pat.lo, Pat.hi] at *; go_simp; first | done | with_reducible rfl | rw [if_neg (by omega)] | rw [if_pos (by omega)]
  simp only [Act.put, List.setIfInBounds_toArray, List.set_cons_zero, List.set_cons_succ]
  refine wpU_take 4 (some 80) (v := ?_) rfl rfl (by kernel_rfl) (fun _ _ _ h => h) rfl (fun x hx => ?_) ?_
  rotate_left 1
  · go_simp; first | done | with_reducible rfl | rw [if_neg (by omega)] | rw [if_pos (by omega)]
  simp only [Act.put, List.setIfInBounds_toArray, List.set_cons_zero, List.set_cons_succ]
  refine wpU_take 5 (some 81) (v := ?_) rfl rfl (by kernel_rfl) (fun _ _ _ h => h) rfl (fun x hx => ?_) ?_
  rotate_left 1
  · go_simp; first | done | with_reducible rfl | rw [if_neg (by omega)] | rw [if_pos (by omega)]
  simp only [Act.put, List.setIfInBounds_toArray, List.set_cons_zero, List.set_cons_succ]
  refine wpU_take 6 (some 82) (v := ?_) rfl rfl (by kernel_rfl) (fun _ _ _ h => h) rfl (fun x hx => ?_) ?_
  rotate_left 1
  · go_simp; first | done | with_reducible rfl | rw [if_neg (by omega)] | rw [if_pos (by omega)]
  simp only [Act.put, List.setIfInBounds_toArray, List.set_cons_zero, List.set_cons_succ]
  refine wpU_take 7 (some 83) (v := ?_) rfl rfl (by kernel_rfl) (fun _ _ _ h => h) rfl (fun x hx => ?_) ?_
  rotate_left 1
  · obtain ⟨s0, s1, s2, s3, s4, s5⟩ := cells_s (hx.has HI3.out.blk); obtain ⟨p0, p1, p2, p3, p4, p5⟩ := cells_p (hx.has (HI3.out.foreign _ List.mem_cons_self).blk); obtain ⟨q0, q1, q2, q3, q4, q5, q6, q7, q8⟩ := cells_q (hx.has (HI3.out.foreign _ (List.mem_cons_of_mem _ List.mem_cons_self)).blk); simp only [Pat.op, Pat.text, Pat.num, Pat.lo, Pat.hi] at *; go_simp; first | done | with_reducible rfl | rw [if_neg (by omega)] | rw [if_pos (by omega)]
  simp only [Act.put, List.setIfInBounds_toArray, List.set_cons_zero, List.set_cons_succ]
  refine wpU_take 8 (some 84) (v := ?_) rfl rfl (by kernel_rfl) (fun _ _ _ h => h) rfl (fun x hx => ?_) ?_
  rotate_left 1
  · go_simp; first | done | with_reducible rfl | rw [if_neg (by omega)] | rw [if_pos (by omega)]
  simp only [Act.put, List.setIfInBounds_toArray, List.set_cons_zero, List.set_cons_succ]
  refine wpU_last [_, _] (by kernel_rfl) rfl rfl ?_
  simp only [List.getElem_toArray, List.getElem_cons_succ, List.getElem_cons_zero]
  go_wp2_with fail
  refine (push_at HI3.out 4 (.mk op text num lo hi [k0]) A c nx m.at_ HKID.out (by omega) _ rfl).mono ?_
  rintro e w4 ⟨rfl, gv4, hI4⟩
  obtain ⟨gA4, gc4, rfl, _, _⟩ := hI4.goals.form
  have HI4 := Lib.hid hI4
  clear hI4
  obtain ⟨g0k, kA0, kc0, hA0, hk0, he0⟩ := kid_cells HR.out (j := 0) (by simp) HI4.out.below
  simp only [List.getElem_cons_zero] at hk0 he0
  have HK0 := Lib.hid hk0
  have HE0 := Lib.hid he0
  clear hk0 he0
  subst hA0
  obtain ⟨s0, s1, s2, s3, s4, s5⟩ := cells_s HI4.out.blk
  obtain ⟨p0, p1, p2, p3, p4, p5⟩ := cells_p (HI4.out.foreign _ List.mem_cons_self).blk
  obtain ⟨q0, q1, q2, q3, q4, q5, q6, q7, q8⟩ := cells_q (HI4.out.foreign _ (List.mem_cons_of_mem _ List.mem_cons_self)).blk
  obtain ⟨e00, e01, e02, e03, e04, e05⟩ := HE0.out
  simp only [Nat.zero_mul, Nat.zero_add] at e00 e01 e02 e03 e04 e05
  go_wp2_with fail
  refine (push_at HI4.out 0 k0 kA0 kc0 gl.length 0 HK0.out (by simp; omega) _ rfl).mono ?_
  clear s0 s1 s2 s3 s4 s5 p0 p1 p2 p3 p4 p5 q0 q1 q2 q3 q4 q5 q6 q7 q8
  rintro e w5 ⟨rfl, gv5, hI5⟩
  obtain ⟨gA5, gc5, rfl, _, _⟩ := hI5.goals.form
  have HI5 := Lib.hid hI5
  clear hI5
  obtain ⟨s0, s1, s2, s3, s4, s5⟩ := cells_s HI5.out.blk
  have f2 := frozen_of_row w5 M 2 _ _ HI5.out.blk
  have hint : ((gl.length : Int) + 1) ≤ 90001 := by omega
  go_wp2_with fail
  go_ret
  exact sdid_go (HI5.out.setGoal ((gl.length : Int) + 1)) (Chain.push2 ⟨4, .mk op text num lo hi [k0], _, nx, m.at_⟩ ⟨0, k0, _, gl.length, 0⟩ ⟨4, .mk op text num lo hi [k0], m.at_⟩ ⟨0, k0, 0⟩ HCH.out rfl rfl rfl rfl rfl rfl rfl) (by simp)

set_option maxRecDepth 100000 in
set_option maxHeartbeats 1000000 in
theorem sstep_check_go {w0 w : World} {M : Nat} {m : Mst} {gl : List SG} {gv hv cv ev : Value} {hs : List Value} {text : ByteArray} {num lo hi : Int} {kids : List Pat} {A : Option Addr} {c : Nat} {fr nx : Int} {gs : List Goal} {j : Nat} {s : ByteArray} {dv : Value} {op : Int}
    (h : SpecAt w0 w [] M m gl (j : Int) m.at_ gv hv cv ev hs) (hj : gl[j]? = some ⟨4, .mk op text num lo hi kids, .slice A kids.length c, nx, fr⟩) (hch : Chain gl nx gs) (hlen : gl.length ≤ 90000) (hne : ((m.at_ : Int) != fr) = true) :
    Calls Try.prog 71 #[.pointer (some ⟨M, 0, none⟩), dv, .string s] w (SDid w0 M m gl.length (.go (⟨0, .mk op text num lo hi kids, 0⟩ :: gs) m)) := by
  have hblk := h.blk
  obtain ⟨g0, gc, rfl⟩ := goal_row h hj
  obtain ⟨hA, hc, rfl, _, _⟩ := h.chs.form
  obtain ⟨cA, cc, rfl, _, _⟩ := h.caps.form
  obtain ⟨eA, ec, rfl, _, _⟩ := h.evs.form
  obtain ⟨s0, s1, s2, s3, s4, s5⟩ := cells_s hblk
  have fs2 := frozen_of_row w M 2 _ _ hblk
  have hMlt := has_lt hblk
  obtain ⟨q0, q1, q2, q3, q4, q5, q6, q7, q8⟩ := goal_cells h hj
  simp only [Pat.op, Pat.text, Pat.num, Pat.lo, Pat.hi] at q1 q2 q3 q4 q5
  have hjl : j < gl.length := (List.getElem?_eq_some_iff.1 hj).1
  have hjl' : (j : Int) < gl.length := by omega
  have hkid : KidsIn w0 (.mk op text num lo hi kids) (.slice A kids.length c) := h.kids _ (List.mem_of_getElem? hj)
  have HKID := Lib.hid hkid
  have HR := Lib.hid (kids_row hkid)
  have HCH := Lib.hid hch
  have HJ := Lib.hid hj
  have HI2 := Lib.hid (h.enter (ogOf ⟨4, .mk op text num lo hi kids, .slice A kids.length c, nx, fr⟩) (opOf (.mk op text num lo hi kids) (.slice A kids.length c)) nx)
  have hbel := h.below.size
  clear h hblk hkid hch hj
  go_enter Try.func71, Try.ntmps71
  go_wp2_with fail
  clear s0 s1 s2 s3 s4 s5 q0 q1 q2 q3 q4 q5 q6 q7 q8 fs2
  refine (push_at HI2.out 0 (.mk op text num lo hi kids) A c nx 0 HKID.out (by omega) _ rfl).mono ?_
  rintro e w4 ⟨rfl, gv4, hI4⟩
  obtain ⟨gA4, gc4, rfl, _, _⟩ := hI4.goals.form
  have HI4 := Lib.hid hI4
  clear hI4
  obtain ⟨s0, s1, s2, s3, s4, s5⟩ := cells_s HI4.out.blk
  obtain ⟨p0, p1, p2, p3, p4, p5⟩ := cells_p (HI4.out.foreign _ List.mem_cons_self).blk
  obtain ⟨q0, q1, q2, q3, q4, q5, q6, q7, q8⟩ := cells_q (HI4.out.foreign _ (List.mem_cons_of_mem _ List.mem_cons_self)).blk
  simp only [Pat.op, Pat.text, Pat.num, Pat.lo, Pat.hi] at p0 p1 p2 p3 p4 q1 q2 q3 q4 q5
  have f2 := frozen_of_row w4 M 2 _ _ HI4.out.blk
  go_wp2_with fail
  clear f2
  clear s0 s1 s2 s3 s4 s5 p0 p1 p2 p3 p4 p5 q0 q1 q2 q3 q4 q5 q6 q7 q8
  -- region 18: 8 operations, the last []
  refine wpU_begin [] [] (by kernel_rfl) (fun w5 hw5 => ?_)
  have HI5 := Lib.hid ((HI4.out.setGoal gl.length).later (drew_later hw5))
  clear hw5
  refine wpU_take 0 (some 108) (v := ?_) rfl rfl (by kernel_rfl) (fun _ _ _ h => h) rfl (fun x hx => ?_) ?_
  rotate_left 1
  · go_simp; first | done | with_reducible rfl | rw [if_neg (by omega)] | rw [if_pos (by omega)]
  simp only [Act.put, List.setIfInBounds_toArray, List.set_cons_zero, List.set_cons_succ]
  refine wpU_take 1 (some 109) (v := ?_) rfl rfl (by kernel_rfl) (fun _ _ _ h => h) rfl (fun x hx => ?_) ?_
  rotate_left 1
  · go_simp; first | done | with_reducible rfl | rw [if_neg (by omega)] | rw [if_pos (by omega)]
  simp only [Act.put, List.setIfInBounds_toArray, List.set_cons_zero, List.set_cons_succ]
  refine wpU_take 2 (some 110) (v := ?_) rfl rfl (by kernel_rfl) (fun _ _ _ h => h) rfl (fun x hx => ?_) ?_
  rotate_left 1
  · go_simp; first | done | with_reducible rfl | rw [if_neg (by omega)] | rw [if_pos (by omega)]
  simp only [Act.put, List.setIfInBounds_toArray, List.set_cons_zero, List.set_cons_succ]
  refine wpU_take 3 (some 111) (v := ?_) rfl rfl (by kernel_rfl) (fun _ _ _ h => h) rfl (fun x hx => ?_) ?_
  rotate_left 1
  · obtain ⟨s0, s1, s2, s3, s4, s5⟩ := cells_s (hx.has HI5.out.blk); obtain ⟨p0, p1, p2, p3, p4, p5⟩ := cells_p (hx.has (HI5.out.foreign _ List.mem_cons_self).blk); obtain ⟨q0, q1, q2, q3, q4, q5, q6, q7, q8⟩ := cells_q (hx.has (HI5.out.foreign _ (List.mem_cons_of_mem _ List.mem_cons_self)).blk); simp only [Pat.op, Pat.text, Pat.num, Pat.lo, Pat.hi] at *; go_simp; first | done | with_reducible rfl | rw [if_neg (by omega)] | rw [if_pos (by omega)]
  simp only [Act.put, List.setIfInBounds_toArray, List.set_cons_zero, List.set_cons_succ]
  refine wpU_take 4 (some 112) (v := ?_) rfl rfl (by kernel_rfl) (fun _ _ _ h => h) rfl (fun x hx => ?_) ?_
  rotate_left 1
  · go_simp; first | done | with_reducible rfl | rw [if_neg (by omega)] | rw [if_pos (by omega)]
  simp only [Act.put, List.setIfInBounds_toArray, List.set_cons_zero, List.set_cons_succ]
  refine wpU_take 5 (some 113) (v := ?_) rfl rfl (by kernel_rfl) (fun _ _ _ h => h) rfl (fun x hx => ?_) ?_
  rotate_left 1
  · obtain ⟨s0, s1, s2, s3, s4, s5⟩ := cells_s (hx.has HI5.out.blk); obtain ⟨p0, p1, p2, p3, p4, p5⟩ := cells_p (hx.has (HI5.out.foreign _ List.mem_cons_self).blk); obtain ⟨q0, q1, q2, q3, q4, q5, q6, q7, q8⟩ := cells_q (hx.has (HI5.out.foreign _ (List.mem_cons_of_mem _ List.mem_cons_self)).blk); simp only [Pat.op, Pat.text, Pat.num, Pat.lo, Pat.hi] at *; go_simp; first | done | with_reducible rfl | rw [if_neg (by omega)] | rw [if_pos (by omega)]
  simp only [Act.put, List.setIfInBounds_toArray, List.set_cons_zero, List.set_cons_succ]
  refine wpU_take 6 (some 114) (v := ?_) rfl rfl (by kernel_rfl) (fun _ _ _ h => h) rfl (fun x hx => ?_) ?_
  rotate_left 1
  · go_simp; first | done | with_reducible rfl | rw [if_neg (by omega)] | rw [if_pos (by omega)]
  simp only [Act.put, List.setIfInBounds_toArray, List.set_cons_zero, List.set_cons_succ]
  refine wpU_take 7 (some 6) (v := ?_) rfl rfl (by kernel_rfl) (fun _ _ _ h => h) rfl (fun x hx => ?_) ?_
  rotate_left 1
  · go_simp; first | done | with_reducible rfl | rw [if_neg (by omega)] | rw [if_pos (by omega)]
  simp only [Act.put, List.setIfInBounds_toArray, List.set_cons_zero, List.set_cons_succ]
  refine wpU_last [] (by kernel_rfl) rfl rfl ?_
  go_wp2_with fail
  go_ret
  exact sdid_go HI5.out (Chain.push ⟨0, (.mk op text num lo hi kids), _, nx, 0⟩ ⟨0, (.mk op text num lo hi kids), 0⟩ HCH.out rfl rfl rfl) (by simp)

set_option maxRecDepth 100000 in
set_option maxHeartbeats 1000000 in
theorem sstep_check_fail {w0 w : World} {M : Nat} {m : Mst} {gl : List SG} {gv hv cv ev : Value} {hs : List Value} {text : ByteArray} {num lo hi : Int} {kids : List Pat} {A : Option Addr} {c : Nat} {fr nx : Int} {gs : List Goal} {j : Nat} {s : ByteArray} {dv : Value} {op : Int}
    (h : SpecAt w0 w [] M m gl (j : Int) m.at_ gv hv cv ev hs) (hj : gl[j]? = some ⟨4, .mk op text num lo hi kids, .slice A kids.length c, nx, fr⟩) (hch : Chain gl nx gs) (hlen : gl.length ≤ 90000) (hne : ((m.at_ : Int) != fr) = false) :
    Calls Try.prog 71 #[.pointer (some ⟨M, 0, none⟩), dv, .string s] w (SDid w0 M m gl.length (.fail)) := by
  have hblk := h.blk
  obtain ⟨g0, gc, rfl⟩ := goal_row h hj
  obtain ⟨hA, hc, rfl, _, _⟩ := h.chs.form
  obtain ⟨cA, cc, rfl, _, _⟩ := h.caps.form
  obtain ⟨eA, ec, rfl, _, _⟩ := h.evs.form
  obtain ⟨s0, s1, s2, s3, s4, s5⟩ := cells_s hblk
  have fs2 := frozen_of_row w M 2 _ _ hblk
  have hMlt := has_lt hblk
  obtain ⟨q0, q1, q2, q3, q4, q5, q6, q7, q8⟩ := goal_cells h hj
  simp only [Pat.op, Pat.text, Pat.num, Pat.lo, Pat.hi] at q1 q2 q3 q4 q5
  have hjl : j < gl.length := (List.getElem?_eq_some_iff.1 hj).1
  have hjl' : (j : Int) < gl.length := by omega
  have hkid : KidsIn w0 (.mk op text num lo hi kids) (.slice A kids.length c) := h.kids _ (List.mem_of_getElem? hj)
  have HKID := Lib.hid hkid
  have HR := Lib.hid (kids_row hkid)
  have HCH := Lib.hid hch
  have HJ := Lib.hid hj
  have HI2 := Lib.hid (h.enter (ogOf ⟨4, .mk op text num lo hi kids, .slice A kids.length c, nx, fr⟩) (opOf (.mk op text num lo hi kids) (.slice A kids.length c)) nx)
  have hbel := h.below.size
  clear h hblk hkid hch hj
  go_enter Try.func71, Try.ntmps71
  go_wp2_with fail
  clear s0 s1 s2 s3 s4 s5 q0 q1 q2 q3 q4 q5 q6 q7 q8 fs2
  refine (push_at HI2.out 0 (.mk op text num lo hi kids) A c nx 0 HKID.out (by omega) _ rfl).mono ?_
  rintro e w4 ⟨rfl, gv4, hI4⟩
  obtain ⟨gA4, gc4, rfl, _, _⟩ := hI4.goals.form
  have HI4 := Lib.hid hI4
  clear hI4
  obtain ⟨s0, s1, s2, s3, s4, s5⟩ := cells_s HI4.out.blk
  obtain ⟨p0, p1, p2, p3, p4, p5⟩ := cells_p (HI4.out.foreign _ List.mem_cons_self).blk
  obtain ⟨q0, q1, q2, q3, q4, q5, q6, q7, q8⟩ := cells_q (HI4.out.foreign _ (List.mem_cons_of_mem _ List.mem_cons_self)).blk
  simp only [Pat.op, Pat.text, Pat.num, Pat.lo, Pat.hi] at p0 p1 p2 p3 p4 q1 q2 q3 q4 q5
  have f2 := frozen_of_row w4 M 2 _ _ HI4.out.blk
  go_wp2_with fail
  clear f2
  clear s0 s1 s2 s3 s4 s5 p0 p1 p2 p3 p4 p5 q0 q1 q2 q3 q4 q5 q6 q7 q8
  -- region 18: 8 operations, the last []
  refine wpU_begin [] [] (by kernel_rfl) (fun w5 hw5 => ?_)
  have HI5 := Lib.hid ((HI4.out.setGoal gl.length).later (drew_later hw5))
  clear hw5
  refine wpU_take 0 (some 108) (v := ?_) rfl rfl (by kernel_rfl) (fun _ _ _ h => h) rfl (fun x hx => ?_) ?_
  rotate_left 1
  · go_simp; first | done | with_reducible rfl | rw [if_neg (by omega)] | rw [if_pos (by omega)]
  simp only [Act.put, List.setIfInBounds_toArray, List.set_cons_zero, List.set_cons_succ]
  refine wpU_take 1 (some 109) (v := ?_) rfl rfl (by kernel_rfl) (fun _ _ _ h => h) rfl (fun x hx => ?_) ?_
  rotate_left 1
  · go_simp; first | done | with_reducible rfl | rw [if_neg (by omega)] | rw [if_pos (by omega)]
  simp only [Act.put, List.setIfInBounds_toArray, List.set_cons_zero, List.set_cons_succ]
  refine wpU_take 2 (some 110) (v := ?_) rfl rfl (by kernel_rfl) (fun _ _ _ h => h) rfl (fun x hx => ?_) ?_
  rotate_left 1
  · go_simp; first | done | with_reducible rfl | rw [if_neg (by omega)] | rw [if_pos (by omega)]
  simp only [Act.put, List.setIfInBounds_toArray, List.set_cons_zero, List.set_cons_succ]
  refine wpU_take 3 (some 111) (v := ?_) rfl rfl (by kernel_rfl) (fun _ _ _ h => h) rfl (fun x hx => ?_) ?_
  rotate_left 1
  · obtain ⟨s0, s1, s2, s3, s4, s5⟩ := cells_s (hx.has HI5.out.blk); obtain ⟨p0, p1, p2, p3, p4, p5⟩ := cells_p (hx.has (HI5.out.foreign _ List.mem_cons_self).blk); obtain ⟨q0, q1, q2, q3, q4, q5, q6, q7, q8⟩ := cells_q (hx.has (HI5.out.foreign _ (List.mem_cons_of_mem _ List.mem_cons_self)).blk); simp only [Pat.op, Pat.text, Pat.num, Pat.lo, Pat.hi] at *; go_simp; first | done | with_reducible rfl | rw [if_neg (by omega)] | rw [if_pos (by omega)]
  simp only [Act.put, List.setIfInBounds_toArray, List.set_cons_zero, List.set_cons_succ]
  refine wpU_take 4 (some 112) (v := ?_) rfl rfl (by kernel_rfl) (fun _ _ _ h => h) rfl (fun x hx => ?_) ?_
  rotate_left 1
  · go_simp; first | done | with_reducible rfl | rw [if_neg (by omega)] | rw [if_pos (by omega)]
  simp only [Act.put, List.setIfInBounds_toArray, List.set_cons_zero, List.set_cons_succ]
  refine wpU_take 5 (some 113) (v := ?_) rfl rfl (by kernel_rfl) (fun _ _ _ h => h) rfl (fun x hx => ?_) ?_
  rotate_left 1
  · obtain ⟨s0, s1, s2, s3, s4, s5⟩ := cells_s (hx.has HI5.out.blk); obtain ⟨p0, p1, p2, p3, p4, p5⟩ := cells_p (hx.has (HI5.out.foreign _ List.mem_cons_self).blk); obtain ⟨q0, q1, q2, q3, q4, q5, q6, q7, q8⟩ := cells_q (hx.has (HI5.out.foreign _ (List.mem_cons_of_mem _ List.mem_cons_self)).blk); simp only [Pat.op, Pat.text, Pat.num, Pat.lo, Pat.hi] at *; go_simp; first | done | with_reducible rfl | rw [if_neg (by omega)] | rw [if_pos (by omega)]
  simp only [Act.put, List.setIfInBounds_toArray, List.set_cons_zero, List.set_cons_succ]
  refine wpU_take 6 (some 114) (v := ?_) rfl rfl (by kernel_rfl) (fun _ _ _ h => h) rfl (fun x hx => ?_) ?_
  rotate_left 1
  · go_simp; first | done | with_reducible rfl | rw [if_neg (by omega)] | rw [if_pos (by omega)]
  simp only [Act.put, List.setIfInBounds_toArray, List.set_cons_zero, List.set_cons_succ]
  refine wpU_take 7 (some 6) (v := ?_) rfl rfl (by kernel_rfl) (fun _ _ _ h => h) rfl (fun x hx => ?_) ?_
  rotate_left 1
  · go_simp; first | done | with_reducible rfl | rw [if_neg (by omega)] | rw [if_pos (by omega)]
  simp only [Act.put, List.setIfInBounds_toArray, List.set_cons_zero, List.set_cons_succ]
  refine wpU_last [] (by kernel_rfl) rfl rfl ?_
  go_wp2_with fail
  go_ret
  exact sdid_fail HI5.out (by simp)

end Go.Proofs.Ytndefbecoahfhaa

/- spec's l20Step. Printed by gen_sstep.py. -/
namespace Go.Proofs.Ytndefbecoahfhaa
open Go.RowKit

set_option maxRecDepth 100000 in
set_option maxHeartbeats 1000000 in
theorem sstep_arb_yes {w0 w : World} {M : Nat} {m : Mst} {gl : List SG} {gv hv cv ev : Value} {hs : List Value} {text : ByteArray} {num lo hi : Int} {kids : List Pat} {A : Option Addr} {c : Nat} {fr nx : Int} {gs : List Goal} {j : Nat} {s : ByteArray} {dv : Value} 
    (h : SpecAt w0 w [] M m gl (j : Int) m.at_ gv hv cv ev hs) (hj : gl[j]? = some ⟨0, .mk 11 text num lo hi kids, .slice A kids.length c, nx, 0⟩) (hch : Chain gl nx gs) (hlen : gl.length ≤ 90000) (hlt : m.at_ < s.size) (hss : s.size ≤ 120) (hn : m.choices.length ≤ 5000) :
    Calls Try.prog 71 #[.pointer (some ⟨M, 0, none⟩), dv, .string s] w (SDid w0 M m gl.length (.go gs (m.choose (⟨0, .mk 11 text num lo hi kids, 0⟩ :: gs) (m.at_ + 1)))) := by
  have hblk := h.blk
  obtain ⟨g0, gc, rfl⟩ := goal_row h hj
  obtain ⟨hA, hc, rfl, _, _⟩ := h.chs.form
  obtain ⟨cA, cc, rfl, _, _⟩ := h.caps.form
  obtain ⟨eA, ec, rfl, _, _⟩ := h.evs.form
  obtain ⟨s0, s1, s2, s3, s4, s5⟩ := cells_s hblk
  have fs2 := frozen_of_row w M 2 _ _ hblk
  have hMlt := has_lt hblk
  obtain ⟨q0, q1, q2, q3, q4, q5, q6, q7, q8⟩ := goal_cells h hj
  simp only [Pat.op, Pat.text, Pat.num, Pat.lo, Pat.hi] at q1 q2 q3 q4 q5
  have hjl : j < gl.length := (List.getElem?_eq_some_iff.1 hj).1
  have hjl' : (j : Int) < gl.length := by omega
  have hkid : KidsIn w0 (.mk 11 text num lo hi kids) (.slice A kids.length c) := h.kids _ (List.mem_of_getElem? hj)
  have HKID := Lib.hid hkid
  have HR := Lib.hid (kids_row hkid)
  have HCH := Lib.hid hch
  have HJ := Lib.hid hj
  have HI2 := Lib.hid (h.enter (ogOf ⟨0, .mk 11 text num lo hi kids, .slice A kids.length c, nx, 0⟩) (opOf (.mk 11 text num lo hi kids) (.slice A kids.length c)) nx)
  have hbel := h.below.size
  have hat1 : (m.at_ : Int) + 1 ≤ 121 := by omega
  clear h hblk hkid hch hj
  go_enter Try.func71, Try.ntmps71
  go_wp2_with fail
  clear s0 s1 s2 s3 s4 s5 q0 q1 q2 q3 q4 q5 q6 q7 q8 fs2
  refine (later_any HI2.out ⟨false, ⟨0, .mk 11 text num lo hi kids, 0⟩ :: gs, m.at_ + 1, m.caps.length⟩ j _ (by simp) rfl (.inr ⟨rfl, ⟨j, _, rfl, HJ.out, rfl, rfl, rfl, HCH.out⟩⟩) (by omega)).mono ?_
  rintro e w4 ⟨rfl, hv4, hs4, hI4⟩
  obtain ⟨hA4, hc4, rfl, _, _⟩ := hI4.chs.form
  have HI4 := Lib.hid hI4
  clear hI4
  go_wp2_with fail
  go_ret
  exact sdid_go (m' := m.choose (⟨0, .mk 11 text num lo hi kids, 0⟩ :: gs) (m.at_ + 1)) HI4.out HCH.out (by omega)

set_option maxRecDepth 100000 in
set_option maxHeartbeats 1000000 in
theorem sstep_arb_no {w0 w : World} {M : Nat} {m : Mst} {gl : List SG} {gv hv cv ev : Value} {hs : List Value} {text : ByteArray} {num lo hi : Int} {kids : List Pat} {A : Option Addr} {c : Nat} {fr nx : Int} {gs : List Goal} {j : Nat} {s : ByteArray} {dv : Value} 
    (h : SpecAt w0 w [] M m gl (j : Int) m.at_ gv hv cv ev hs) (hj : gl[j]? = some ⟨0, .mk 11 text num lo hi kids, .slice A kids.length c, nx, fr⟩) (hch : Chain gl nx gs) (hlen : gl.length ≤ 90000) (hlt : ¬ m.at_ < s.size) :
    Calls Try.prog 71 #[.pointer (some ⟨M, 0, none⟩), dv, .string s] w (SDid w0 M m gl.length (.go gs m)) := by
  have hblk := h.blk
  obtain ⟨g0, gc, rfl⟩ := goal_row h hj
  obtain ⟨hA, hc, rfl, _, _⟩ := h.chs.form
  obtain ⟨cA, cc, rfl, _, _⟩ := h.caps.form
  obtain ⟨eA, ec, rfl, _, _⟩ := h.evs.form
  obtain ⟨s0, s1, s2, s3, s4, s5⟩ := cells_s hblk
  have fs2 := frozen_of_row w M 2 _ _ hblk
  have hMlt := has_lt hblk
  obtain ⟨q0, q1, q2, q3, q4, q5, q6, q7, q8⟩ := goal_cells h hj
  simp only [Pat.op, Pat.text, Pat.num, Pat.lo, Pat.hi] at q1 q2 q3 q4 q5
  have hjl : j < gl.length := (List.getElem?_eq_some_iff.1 hj).1
  have hjl' : (j : Int) < gl.length := by omega
  have hkid : KidsIn w0 (.mk 11 text num lo hi kids) (.slice A kids.length c) := h.kids _ (List.mem_of_getElem? hj)
  have HKID := Lib.hid hkid
  have HR := Lib.hid (kids_row hkid)
  have HCH := Lib.hid hch
  have HJ := Lib.hid hj
  have HI2 := Lib.hid (h.enter (ogOf ⟨0, .mk 11 text num lo hi kids, .slice A kids.length c, nx, fr⟩) (opOf (.mk 11 text num lo hi kids) (.slice A kids.length c)) nx)
  have hbel := h.below.size
  clear h hblk hkid hch hj
  go_enter Try.func71, Try.ntmps71
  go_wp2_with fail
  go_ret
  exact sdid_go HI2.out HCH.out (by omega)

set_option maxRecDepth 100000 in
set_option maxHeartbeats 1000000 in
theorem sstep_fence {w0 w : World} {M : Nat} {m : Mst} {gl : List SG} {gv hv cv ev : Value} {hs : List Value} {text : ByteArray} {num lo hi : Int} {kids : List Pat} {A : Option Addr} {c : Nat} {fr nx : Int} {gs : List Goal} {j : Nat} {s : ByteArray} {dv : Value} 
    (h : SpecAt w0 w [] M m gl (j : Int) m.at_ gv hv cv ev hs) (hj : gl[j]? = some ⟨0, .mk 19 text num lo hi kids, .slice A kids.length c, nx, fr⟩) (hch : Chain gl nx gs) (hlen : gl.length ≤ 90000) (hn : m.choices.length ≤ 5000) :
    Calls Try.prog 71 #[.pointer (some ⟨M, 0, none⟩), dv, .string s] w (SDid w0 M m gl.length (.go gs { m with choices := m.choices ++ [⟨true, [], m.at_, m.caps.length⟩] })) := by
  have hblk := h.blk
  obtain ⟨g0, gc, rfl⟩ := goal_row h hj
  obtain ⟨hA, hc, rfl, _, _⟩ := h.chs.form
  obtain ⟨cA, cc, rfl, _, _⟩ := h.caps.form
  obtain ⟨eA, ec, rfl, _, _⟩ := h.evs.form
  obtain ⟨s0, s1, s2, s3, s4, s5⟩ := cells_s hblk
  have fs2 := frozen_of_row w M 2 _ _ hblk
  have hMlt := has_lt hblk
  obtain ⟨q0, q1, q2, q3, q4, q5, q6, q7, q8⟩ := goal_cells h hj
  simp only [Pat.op, Pat.text, Pat.num, Pat.lo, Pat.hi] at q1 q2 q3 q4 q5
  have hjl : j < gl.length := (List.getElem?_eq_some_iff.1 hj).1
  have hjl' : (j : Int) < gl.length := by omega
  have hkid : KidsIn w0 (.mk 19 text num lo hi kids) (.slice A kids.length c) := h.kids _ (List.mem_of_getElem? hj)
  have HKID := Lib.hid hkid
  have HR := Lib.hid (kids_row hkid)
  have HCH := Lib.hid hch
  have HJ := Lib.hid hj
  have HI2 := Lib.hid (h.enter (ogOf ⟨0, .mk 19 text num lo hi kids, .slice A kids.length c, nx, fr⟩) (opOf (.mk 19 text num lo hi kids) (.slice A kids.length c)) nx)
  have hbel := h.below.size
  clear h hblk hkid hch hj
  go_enter Try.func71, Try.ntmps71
  go_wp2_with fail
  clear s0 s1 s2 s3 s4 s5 q0 q1 q2 q3 q4 q5 q6 q7 q8 fs2
  refine (later_any HI2.out ⟨true, [], m.at_, m.caps.length⟩ (-2) _ rfl rfl (.inl ⟨rfl, rfl⟩) (by omega)).mono ?_
  rintro e w4 ⟨rfl, hv4, hs4, hI4⟩
  obtain ⟨hA4, hc4, rfl, _, _⟩ := hI4.chs.form
  have HI4 := Lib.hid hI4
  clear hI4
  go_wp2_with fail
  go_ret
  exact sdid_go (m' := { m with choices := m.choices ++ [⟨true, [], m.at_, m.caps.length⟩] }) HI4.out HCH.out (by omega)

set_option maxRecDepth 100000 in
set_option maxHeartbeats 1000000 in
theorem sstep_abort {w0 w : World} {M : Nat} {m : Mst} {gl : List SG} {gv hv cv ev : Value} {hs : List Value} {text : ByteArray} {num lo hi : Int} {kids : List Pat} {A : Option Addr} {c : Nat} {fr nx : Int} {gs : List Goal} {j : Nat} {s : ByteArray} {dv : Value} 
    (h : SpecAt w0 w [] M m gl (j : Int) m.at_ gv hv cv ev hs) (hj : gl[j]? = some ⟨0, .mk 21 text num lo hi kids, .slice A kids.length c, nx, fr⟩) (hch : Chain gl nx gs) (hlen : gl.length ≤ 90000) :
    Calls Try.prog 71 #[.pointer (some ⟨M, 0, none⟩), dv, .string s] w (SDid w0 M m gl.length (.stop)) := by
  have hblk := h.blk
  obtain ⟨g0, gc, rfl⟩ := goal_row h hj
  obtain ⟨hA, hc, rfl, _, _⟩ := h.chs.form
  obtain ⟨cA, cc, rfl, _, _⟩ := h.caps.form
  obtain ⟨eA, ec, rfl, _, _⟩ := h.evs.form
  obtain ⟨s0, s1, s2, s3, s4, s5⟩ := cells_s hblk
  have fs2 := frozen_of_row w M 2 _ _ hblk
  have hMlt := has_lt hblk
  obtain ⟨q0, q1, q2, q3, q4, q5, q6, q7, q8⟩ := goal_cells h hj
  simp only [Pat.op, Pat.text, Pat.num, Pat.lo, Pat.hi] at q1 q2 q3 q4 q5
  have hjl : j < gl.length := (List.getElem?_eq_some_iff.1 hj).1
  have hjl' : (j : Int) < gl.length := by omega
  have hkid : KidsIn w0 (.mk 21 text num lo hi kids) (.slice A kids.length c) := h.kids _ (List.mem_of_getElem? hj)
  have HKID := Lib.hid hkid
  have HR := Lib.hid (kids_row hkid)
  have HCH := Lib.hid hch
  have HJ := Lib.hid hj
  have HI2 := Lib.hid (h.enter (ogOf ⟨0, .mk 21 text num lo hi kids, .slice A kids.length c, nx, fr⟩) (opOf (.mk 21 text num lo hi kids) (.slice A kids.length c)) nx)
  have hbel := h.below.size
  have fs1 := frozen_of_row w M 1 _ _ hblk
  have HNO := Lib.hid (((h.setGoal nx).noChoices).later (((Later.refl _).alloc (ogOf ⟨0, .mk 21 text num lo hi kids, .slice A kids.length c, nx, fr⟩)).alloc (opOf (.mk 21 text num lo hi kids) (.slice A kids.length c))))
  clear h hblk hkid hch hj
  go_enter Try.func71, Try.ntmps71
  go_wp2_with fail
  clear s0 s1 s2 s3 s4 s5 q0 q1 q2 q3 q4 q5 q6 q7 q8 fs2
  clear fs1
  refine (later_any HNO.out ⟨true, [], m.at_, m.caps.length⟩ (-2) _ rfl rfl (.inl ⟨rfl, rfl⟩) (by simp)).mono ?_
  rintro e w4 ⟨rfl, hv4, hs4, hI4⟩
  obtain ⟨hA4, hc4, rfl, _, _⟩ := hI4.chs.form
  have HI4 := Lib.hid hI4
  clear hI4
  go_wp2_with fail
  go_ret
  exact sdid_stop HI4.out (by omega)

end Go.Proofs.Ytndefbecoahfhaa

/- spec's l20Step. Printed by gen_sstep.py. -/
namespace Go.Proofs.Ytndefbecoahfhaa
open Go.RowKit

set_option maxRecDepth 100000 in
set_option maxHeartbeats 1000000 in
theorem sstep_some {w0 w : World} {M : Nat} {m : Mst} {gl : List SG} {gv hv cv ev : Value} {hs : List Value} {text : ByteArray} {num lo hi : Int} {kids : List Pat} {A : Option Addr} {c : Nat} {fr nx : Int} {gs : List Goal} {j : Nat} {s : ByteArray} {dv : Value} {op : Int} {z : Nat}
    (h : SpecAt w0 w [] M m gl (j : Int) m.at_ gv hv cv ev hs) (hj : gl[j]? = some ⟨0, .mk op text num lo hi kids, .slice A kids.length c, nx, fr⟩) (hch : Chain gl nx gs) (hlen : gl.length ≤ 90000) (hsi : isSimple op) (hok : okWords op text num) (hss : s.size ≤ 120) (hat : m.at_ ≤ s.size) (hz : oneEnd op text num lo hi s m.at_ = some z) :
    Calls Try.prog 71 #[.pointer (some ⟨M, 0, none⟩), dv, .string s] w (SDid w0 M m gl.length (.go gs { m with at_ := z })) := by
  have hblk := h.blk
  obtain ⟨g0, gc, rfl⟩ := goal_row h hj
  obtain ⟨hA, hc, rfl, _, _⟩ := h.chs.form
  obtain ⟨cA, cc, rfl, _, _⟩ := h.caps.form
  obtain ⟨eA, ec, rfl, _, _⟩ := h.evs.form
  obtain ⟨s0, s1, s2, s3, s4, s5⟩ := cells_s hblk
  have fs2 := frozen_of_row w M 2 _ _ hblk
  have hMlt := has_lt hblk
  obtain ⟨q0, q1, q2, q3, q4, q5, q6, q7, q8⟩ := goal_cells h hj
  simp only [Pat.op, Pat.text, Pat.num, Pat.lo, Pat.hi] at q1 q2 q3 q4 q5
  have hjl : j < gl.length := (List.getElem?_eq_some_iff.1 hj).1
  have hjl' : (j : Int) < gl.length := by omega
  have hkid : KidsIn w0 (.mk op text num lo hi kids) (.slice A kids.length c) := h.kids _ (List.mem_of_getElem? hj)
  have HKID := Lib.hid hkid
  have HR := Lib.hid (kids_row hkid)
  have HCH := Lib.hid hch
  have HJ := Lib.hid hj
  have HI2 := Lib.hid (h.enter (ogOf ⟨0, .mk op text num lo hi kids, .slice A kids.length c, nx, fr⟩) (opOf (.mk op text num lo hi kids) (.slice A kids.length c)) nx)
  have hbel := h.below.size
  have HSI := Lib.hid hsi
  have HOK := Lib.hid hok
  have HZ := Lib.hid hz
  have t11 : (op == 11) = false := by unfold isSimple at hsi; simp; omega
  have t13 : (op == 13) = false := by unfold isSimple at hsi; simp; omega
  have t14 : (op == 14) = false := by unfold isSimple at hsi; simp; omega
  have t15 : (op == 15) = false := by unfold isSimple at hsi; simp; omega
  have t16 : (op == 16) = false := by unfold isSimple at hsi; simp; omega
  have t17 : (op == 17) = false := by unfold isSimple at hsi; simp; omega
  have t18 : (op == 18) = false := by unfold isSimple at hsi; simp; omega
  have t19 : (op == 19) = false := by unfold isSimple at hsi; simp; omega
  have t20 : (op == 20) = false := by unfold isSimple at hsi; simp; omega
  have t21 : (op == 21) = false := by unfold isSimple at hsi; simp; omega
  clear hsi hok hz
  clear h hblk hkid hch hj
  go_enter Try.func71, Try.ntmps71
  go_wp2_with fail
  clear s0 s1 s2 s3 s4 s5 q0 q1 q2 q3 q4 q5 q6 q7 q8 fs2
  -- region 53: 8 operations, the last [6, 7]
  refine wpU_begin [6, 7] [] (by kernel_rfl) (fun w3 hw3 => ?_)
  have HI3 := Lib.hid (HI2.out.later (drew_later hw3))
  clear hw3
  refine wpU_take 0 (some 278) (v := ?_) rfl rfl (by kernel_rfl) (fun _ _ _ h => h) rfl (fun x hx => ?_) ?_
  rotate_left 1
  · obtain ⟨s0, s1, s2, s3, s4, s5⟩ := cells_s (hx.has HI3.out.blk); obtain ⟨p0, p1, p2, p3, p4, p5⟩ := cells_p (hx.has (HI3.out.foreign _ List.mem_cons_self).blk); obtain ⟨q0, q1, q2, q3, q4, q5, q6, q7, q8⟩ := cells_q (hx.has (HI3.out.foreign _ (List.mem_cons_of_mem _ List.mem_cons_self)).blk); simp only [Pat.op, Pat.text, Pat.num, Pat.lo, Pat.hi] at *; go_simp; first | done | with_reducible rfl | rw [if_neg (by omega)] | rw [if_pos (by omega)]
  simp only [Act.put, List.setIfInBounds_toArray, List.set_cons_zero, List.set_cons_succ]
  refine wpU_take 1 (some 279) (v := ?_) rfl rfl (by kernel_rfl) (fun _ _ _ h => h) rfl (fun x hx => ?_) ?_
  rotate_left 1
  · go_simp; first | done | with_reducible rfl | rw [if_neg (by omega)] | rw [if_pos (by omega)]
  simp only [Act.put, List.setIfInBounds_toArray, List.set_cons_zero, List.set_cons_succ]
  refine wpU_take 2 (some 280) (v := ?_) rfl rfl (by kernel_rfl) (fun _ _ _ h => h) rfl (fun x hx => ?_) ?_
  rotate_left 1
  · go_simp; first | done | with_reducible rfl | rw [if_neg (by omega)] | rw [if_pos (by omega)]
  simp only [Act.put, List.setIfInBounds_toArray, List.set_cons_zero, List.set_cons_succ]
  refine wpU_take 3 (some 281) (v := ?_) rfl rfl (by kernel_rfl) (fun _ _ _ h => h) rfl (fun x hx => ?_) ?_
  rotate_left 1
  · go_simp; first | done | with_reducible rfl | rw [if_neg (by omega)] | rw [if_pos (by omega)]
  simp only [Act.put, List.setIfInBounds_toArray, List.set_cons_zero, List.set_cons_succ]
  refine wpU_take 4 (some 282) (v := ?_) rfl rfl (by kernel_rfl) (fun _ _ _ h => h) rfl (fun x hx => ?_) ?_
  rotate_left 1
  · go_simp; first | done | with_reducible rfl | rw [if_neg (by omega)] | rw [if_pos (by omega)]
  simp only [Act.put, List.setIfInBounds_toArray, List.set_cons_zero, List.set_cons_succ]
  refine wpU_take 5 (some 283) (v := ?_) rfl rfl (by kernel_rfl) (fun _ _ _ h => h) rfl (fun x hx => ?_) ?_
  rotate_left 1
  · obtain ⟨s0, s1, s2, s3, s4, s5⟩ := cells_s (hx.has HI3.out.blk); obtain ⟨p0, p1, p2, p3, p4, p5⟩ := cells_p (hx.has (HI3.out.foreign _ List.mem_cons_self).blk); obtain ⟨q0, q1, q2, q3, q4, q5, q6, q7, q8⟩ := cells_q (hx.has (HI3.out.foreign _ (List.mem_cons_of_mem _ List.mem_cons_self)).blk); simp only [Pat.op, Pat.text, Pat.num, Pat.lo, Pat.hi] at *; go_simp; first | done | with_reducible rfl | rw [if_neg (by omega)] | rw [if_pos (by omega)]
  simp only [Act.put, List.setIfInBounds_toArray, List.set_cons_zero, List.set_cons_succ]
  refine wpU_last [_, _] (by kernel_rfl) rfl rfl ?_
  simp only [List.getElem_toArray, List.getElem_cons_succ, List.getElem_cons_zero]
  go_wp2_with fail
  refine (one_some HSI.out HOK.out hss hat HZ.out).mono ?_
  rintro e w4 ⟨rfl, hb4⟩
  have HI4 := Lib.hid (HI3.out.later hb4)
  clear hb4
  obtain ⟨s0, s1, s2, s3, s4, s5⟩ := cells_s HI4.out.blk
  have f3 := frozen_of_row w4 M 3 _ _ HI4.out.blk
  have tz : decide (0 ≤ (z : Int)) = true := by simp
  go_wp2_with fail
  go_ret
  exact sdid_go (m' := { m with at_ := z }) ((HI4.out.setAt z).with_at z) HCH.out (by omega)

set_option maxRecDepth 100000 in
set_option maxHeartbeats 1000000 in
theorem sstep_none {w0 w : World} {M : Nat} {m : Mst} {gl : List SG} {gv hv cv ev : Value} {hs : List Value} {text : ByteArray} {num lo hi : Int} {kids : List Pat} {A : Option Addr} {c : Nat} {fr nx : Int} {gs : List Goal} {j : Nat} {s : ByteArray} {dv : Value} {op : Int}
    (h : SpecAt w0 w [] M m gl (j : Int) m.at_ gv hv cv ev hs) (hj : gl[j]? = some ⟨0, .mk op text num lo hi kids, .slice A kids.length c, nx, fr⟩) (hch : Chain gl nx gs) (hlen : gl.length ≤ 90000) (hsi : isSimple op) (hok : okWords op text num) (hss : s.size ≤ 120) (hat : m.at_ ≤ s.size) (hz : oneEnd op text num lo hi s m.at_ = none) :
    Calls Try.prog 71 #[.pointer (some ⟨M, 0, none⟩), dv, .string s] w (SDid w0 M m gl.length (.fail)) := by
  have hblk := h.blk
  obtain ⟨g0, gc, rfl⟩ := goal_row h hj
  obtain ⟨hA, hc, rfl, _, _⟩ := h.chs.form
  obtain ⟨cA, cc, rfl, _, _⟩ := h.caps.form
  obtain ⟨eA, ec, rfl, _, _⟩ := h.evs.form
  obtain ⟨s0, s1, s2, s3, s4, s5⟩ := cells_s hblk
  have fs2 := frozen_of_row w M 2 _ _ hblk
  have hMlt := has_lt hblk
  obtain ⟨q0, q1, q2, q3, q4, q5, q6, q7, q8⟩ := goal_cells h hj
  simp only [Pat.op, Pat.text, Pat.num, Pat.lo, Pat.hi] at q1 q2 q3 q4 q5
  have hjl : j < gl.length := (List.getElem?_eq_some_iff.1 hj).1
  have hjl' : (j : Int) < gl.length := by omega
  have hkid : KidsIn w0 (.mk op text num lo hi kids) (.slice A kids.length c) := h.kids _ (List.mem_of_getElem? hj)
  have HKID := Lib.hid hkid
  have HR := Lib.hid (kids_row hkid)
  have HCH := Lib.hid hch
  have HJ := Lib.hid hj
  have HI2 := Lib.hid (h.enter (ogOf ⟨0, .mk op text num lo hi kids, .slice A kids.length c, nx, fr⟩) (opOf (.mk op text num lo hi kids) (.slice A kids.length c)) nx)
  have hbel := h.below.size
  have HSI := Lib.hid hsi
  have HOK := Lib.hid hok
  have HZ := Lib.hid hz
  have t11 : (op == 11) = false := by unfold isSimple at hsi; simp; omega
  have t13 : (op == 13) = false := by unfold isSimple at hsi; simp; omega
  have t14 : (op == 14) = false := by unfold isSimple at hsi; simp; omega
  have t15 : (op == 15) = false := by unfold isSimple at hsi; simp; omega
  have t16 : (op == 16) = false := by unfold isSimple at hsi; simp; omega
  have t17 : (op == 17) = false := by unfold isSimple at hsi; simp; omega
  have t18 : (op == 18) = false := by unfold isSimple at hsi; simp; omega
  have t19 : (op == 19) = false := by unfold isSimple at hsi; simp; omega
  have t20 : (op == 20) = false := by unfold isSimple at hsi; simp; omega
  have t21 : (op == 21) = false := by unfold isSimple at hsi; simp; omega
  clear hsi hok hz
  clear h hblk hkid hch hj
  go_enter Try.func71, Try.ntmps71
  go_wp2_with fail
  clear s0 s1 s2 s3 s4 s5 q0 q1 q2 q3 q4 q5 q6 q7 q8 fs2
  -- region 53: 8 operations, the last [6, 7]
  refine wpU_begin [6, 7] [] (by kernel_rfl) (fun w3 hw3 => ?_)
  have HI3 := Lib.hid (HI2.out.later (drew_later hw3))
  clear hw3
  refine wpU_take 0 (some 278) (v := ?_) rfl rfl (by kernel_rfl) (fun _ _ _ h => h) rfl (fun x hx => ?_) ?_
  rotate_left 1
  · obtain ⟨s0, s1, s2, s3, s4, s5⟩ := cells_s (hx.has HI3.out.blk); obtain ⟨p0, p1, p2, p3, p4, p5⟩ := cells_p (hx.has (HI3.out.foreign _ List.mem_cons_self).blk); obtain ⟨q0, q1, q2, q3, q4, q5, q6, q7, q8⟩ := cells_q (hx.has (HI3.out.foreign _ (List.mem_cons_of_mem _ List.mem_cons_self)).blk); simp only [Pat.op, Pat.text, Pat.num, Pat.lo, Pat.hi] at *; go_simp; first | done | with_reducible rfl | rw [if_neg (by omega)] | rw [if_pos (by omega)]
  simp only [Act.put, List.setIfInBounds_toArray, List.set_cons_zero, List.set_cons_succ]
  refine wpU_take 1 (some 279) (v := ?_) rfl rfl (by kernel_rfl) (fun _ _ _ h => h) rfl (fun x hx => ?_) ?_
  rotate_left 1
  · go_simp; first | done | with_reducible rfl | rw [if_neg (by omega)] | rw [if_pos (by omega)]
  simp only [Act.put, List.setIfInBounds_toArray, List.set_cons_zero, List.set_cons_succ]
  refine wpU_take 2 (some 280) (v := ?_) rfl rfl (by kernel_rfl) (fun _ _ _ h => h) rfl (fun x hx => ?_) ?_
  rotate_left 1
  · go_simp; first | done | with_reducible rfl | rw [if_neg (by omega)] | rw [if_pos (by omega)]
  simp only [Act.put, List.setIfInBounds_toArray, List.set_cons_zero, List.set_cons_succ]
  refine wpU_take 3 (some 281) (v := ?_) rfl rfl (by kernel_rfl) (fun _ _ _ h => h) rfl (fun x hx => ?_) ?_
  rotate_left 1
  · go_simp; first | done | with_reducible rfl | rw [if_neg (by omega)] | rw [if_pos (by omega)]
  simp only [Act.put, List.setIfInBounds_toArray, List.set_cons_zero, List.set_cons_succ]
  refine wpU_take 4 (some 282) (v := ?_) rfl rfl (by kernel_rfl) (fun _ _ _ h => h) rfl (fun x hx => ?_) ?_
  rotate_left 1
  · go_simp; first | done | with_reducible rfl | rw [if_neg (by omega)] | rw [if_pos (by omega)]
  simp only [Act.put, List.setIfInBounds_toArray, List.set_cons_zero, List.set_cons_succ]
  refine wpU_take 5 (some 283) (v := ?_) rfl rfl (by kernel_rfl) (fun _ _ _ h => h) rfl (fun x hx => ?_) ?_
  rotate_left 1
  · obtain ⟨s0, s1, s2, s3, s4, s5⟩ := cells_s (hx.has HI3.out.blk); obtain ⟨p0, p1, p2, p3, p4, p5⟩ := cells_p (hx.has (HI3.out.foreign _ List.mem_cons_self).blk); obtain ⟨q0, q1, q2, q3, q4, q5, q6, q7, q8⟩ := cells_q (hx.has (HI3.out.foreign _ (List.mem_cons_of_mem _ List.mem_cons_self)).blk); simp only [Pat.op, Pat.text, Pat.num, Pat.lo, Pat.hi] at *; go_simp; first | done | with_reducible rfl | rw [if_neg (by omega)] | rw [if_pos (by omega)]
  simp only [Act.put, List.setIfInBounds_toArray, List.set_cons_zero, List.set_cons_succ]
  refine wpU_last [_, _] (by kernel_rfl) rfl rfl ?_
  simp only [List.getElem_toArray, List.getElem_cons_succ, List.getElem_cons_zero]
  go_wp2_with fail
  refine (one_none HSI.out HOK.out hss hat HZ.out).mono ?_
  rintro e w4 ⟨rfl, hb4⟩
  have HI4 := Lib.hid (HI3.out.later hb4)
  clear hb4
  obtain ⟨s0, s1, s2, s3, s4, s5⟩ := cells_s HI4.out.blk
  have f3 := frozen_of_row w4 M 3 _ _ HI4.out.blk
  go_wp2_with fail
  go_ret
  exact sdid_fail (HI4.out.setAt (-1)) (by omega)

end Go.Proofs.Ytndefbecoahfhaa

/- spec's l20Step. Printed by gen_sstep.py. -/
namespace Go.Proofs.Ytndefbecoahfhaa
open Go.RowKit

set_option maxRecDepth 100000 in
set_option maxHeartbeats 1000000 in
theorem sstep_cat {w0 w : World} {M : Nat} {m : Mst} {gl : List SG} {gv hv cv ev : Value} {hs : List Value} {text : ByteArray} {num lo hi : Int} {k0 k1 : Pat} {A : Option Addr} {c : Nat} {fr nx : Int} {gs : List Goal} {j : Nat} {s : ByteArray} {dv : Value} 
    (h : SpecAt w0 w [] M m gl (j : Int) m.at_ gv hv cv ev hs) (hj : gl[j]? = some ⟨0, .mk 14 text num lo hi [k0, k1], .slice A 2 c, nx, fr⟩) (hch : Chain gl nx gs) (hlen : gl.length ≤ 90000) :
    Calls Try.prog 71 #[.pointer (some ⟨M, 0, none⟩), dv, .string s] w (SDid w0 M m gl.length (.go (⟨0, k0, 0⟩ :: ⟨0, k1, 0⟩ :: gs) m)) := by
  have hblk := h.blk
  obtain ⟨g0, gc, rfl⟩ := goal_row h hj
  obtain ⟨hA, hc, rfl, _, _⟩ := h.chs.form
  obtain ⟨cA, cc, rfl, _, _⟩ := h.caps.form
  obtain ⟨eA, ec, rfl, _, _⟩ := h.evs.form
  obtain ⟨s0, s1, s2, s3, s4, s5⟩ := cells_s hblk
  have fs2 := frozen_of_row w M 2 _ _ hblk
  have hMlt := has_lt hblk
  obtain ⟨q0, q1, q2, q3, q4, q5, q6, q7, q8⟩ := goal_cells h hj
  simp only [Pat.op, Pat.text, Pat.num, Pat.lo, Pat.hi] at q1 q2 q3 q4 q5
  have hjl : j < gl.length := (List.getElem?_eq_some_iff.1 hj).1
  have hjl' : (j : Int) < gl.length := by omega
  have hkid : KidsIn w0 (.mk 14 text num lo hi [k0, k1]) (.slice A 2 c) := h.kids _ (List.mem_of_getElem? hj)
  have HKID := Lib.hid hkid
  have HR := Lib.hid (kids_row hkid)
  have HCH := Lib.hid hch
  have HJ := Lib.hid hj
  have HI2 := Lib.hid (h.enter (ogOf ⟨0, .mk 14 text num lo hi [k0, k1], .slice A 2 c, nx, fr⟩) (opOf (.mk 14 text num lo hi [k0, k1]) (.slice A 2 c)) nx)
  have hbel := h.below.size
  clear h hblk hkid hch hj
  go_enter Try.func71, Try.ntmps71
  go_wp2_with fail
  clear s0 s1 s2 s3 s4 s5 q0 q1 q2 q3 q4 q5 q6 q7 q8 fs2
  -- region 28: 10 operations, the last [8, 9]
  refine wpU_begin [8, 9] [] (by kernel_rfl) (fun w3 hw3 => ?_)
  have HI3 := Lib.hid (HI2.out.later (drew_later hw3))
  clear hw3
  obtain ⟨g1k, kA1, kc1, hA1, hk1, he1⟩ := kid_cells HR.out (j := 1) (by simp) HI3.out.below
  simp only [List.getElem_cons_succ, List.getElem_cons_zero] at hk1 he1
  have HK1 := Lib.hid hk1
  have HE1 := Lib.hid he1
  clear hk1 he1
  subst hA1
  refine wpU_take 0 (some 150) (v := ?_) rfl rfl (by kernel_rfl) (fun _ _ _ h => h) rfl (fun x hx => ?_) ?_
  rotate_left 1
  · go_simp; first | done | with_reducible rfl | rw [if_neg (by omega)] | rw [if_pos (by omega)]
  simp only [Act.put, List.setIfInBounds_toArray, List.set_cons_zero, List.set_cons_succ]
  refine wpU_take 1 (some 151) (v := ?_) rfl rfl (by kernel_rfl) (fun _ _ _ h => h) rfl (fun x hx => ?_) ?_
  rotate_left 1
  · go_simp; first | done | with_reducible rfl | rw [if_neg (by omega)] | rw [if_pos (by omega)]
  simp only [Act.put, List.setIfInBounds_toArray, List.set_cons_zero, List.set_cons_succ]
  refine wpU_take 2 (some 152) (v := ?_) rfl rfl (by kernel_rfl) (fun _ _ _ h => h) rfl (fun x hx => ?_) ?_
  rotate_left 1
  · obtain ⟨s0, s1, s2, s3, s4, s5⟩ := cells_s (hx.has HI3.out.blk); obtain ⟨p0, p1, p2, p3, p4, p5⟩ := cells_p (hx.has (HI3.out.foreign _ List.mem_cons_self).blk); obtain ⟨q0, q1, q2, q3, q4, q5, q6, q7, q8⟩ := cells_q (hx.has (HI3.out.foreign _ (List.mem_cons_of_mem _ List.mem_cons_self)).blk); simp only [Pat.op, Pat.text, Pat.num, Pat.lo, Pat.hi] at *; obtain ⟨e10, e11, e12, e13, e14, e15⟩ := HE1.out.below hx; simp only [Nat.one_mul, Nat.reduceAdd] at e10 e11 e12 e13 e14 e15; go_simp; first | done | with_reducible rfl | rw [if_neg (by omega)] | rw [if_pos (by omega)]
  simp only [Act.put, List.setIfInBounds_toArray, List.set_cons_zero, List.set_cons_succ]
  refine wpU_take 3 (some 153) (v := ?_) rfl rfl (by kernel_rfl) (fun _ _ _ h => h) rfl (fun x hx => ?_) ?_
  rotate_left 1
  · go_simp; first | done | with_reducible rfl | rw [if_neg (by omega)] | rw [if_pos (by omega)]
  simp only [Act.put, List.setIfInBounds_toArray, List.set_cons_zero, List.set_cons_succ]
  refine wpU_take 4 (some 154) (v := ?_) rfl rfl (by kernel_rfl) (fun _ _ _ h => h) rfl (fun x hx => ?_) ?_
  rotate_left 1
  · obtain ⟨s0, s1, s2, s3, s4, s5⟩ := cells_s (hx.has HI3.out.blk); obtain ⟨p0, p1, p2, p3, p4, p5⟩ := cells_p (hx.has (HI3.out.foreign _ List.mem_cons_self).blk); obtain ⟨q0, q1, q2, q3, q4, q5, q6, q7, q8⟩ := cells_q (hx.has (HI3.out.foreign _ (List.mem_cons_of_mem _ List.mem_cons_self)).blk); simp only [Pat.op, Pat.text, Pat.num, Pat.lo, Pat.hi] at *; obtain ⟨e10, e11, e12, e13, e14, e15⟩ := HE1.out.below hx; simp only [Nat.one_mul, Nat.reduceAdd] at e10 e11 e12 e13 e14 e15; go_simp; first | done | with_reducible rfl | rw [if_neg (by omega)] | rw [if_pos (by omega)]
  simp only [Act.put, List.setIfInBounds_toArray, List.set_cons_zero, List.set_cons_succ]
  refine wpU_take 5 (some 155) (v := ?_) rfl rfl (by kernel_rfl) (fun _ _ _ h => h) rfl (fun x hx => ?_) ?_
  rotate_left 1
  · go_simp; first | done | with_reducible rfl | rw [if_neg (by omega)] | rw [if_pos (by omega)]
  simp only [Act.put, List.setIfInBounds_toArray, List.set_cons_zero, List.set_cons_succ]
  refine wpU_take 6 (some 156) (v := ?_) rfl rfl (by kernel_rfl) (fun _ _ _ h => h) rfl (fun x hx => ?_) ?_
  rotate_left 1
  · obtain ⟨s0, s1, s2, s3, s4, s5⟩ := cells_s (hx.has HI3.out.blk); obtain ⟨p0, p1, p2, p3, p4, p5⟩ := cells_p (hx.has (HI3.out.foreign _ List.mem_cons_self).blk); obtain ⟨q0, q1, q2, q3, q4, q5, q6, q7, q8⟩ := cells_q (hx.has (HI3.out.foreign _ (List.mem_cons_of_mem _ List.mem_cons_self)).blk); simp only [Pat.op, Pat.text, Pat.num, Pat.lo, Pat.hi] at *; obtain ⟨e10, e11, e12, e13, e14, e15⟩ := HE1.out.below hx; simp only [Nat.one_mul, Nat.reduceAdd] at e10 e11 e12 e13 e14 e15; go_simp; first | done | with_reducible rfl | rw [if_neg (by omega)] | rw [if_pos (by omega)]
  simp only [Act.put, List.setIfInBounds_toArray, List.set_cons_zero, List.set_cons_succ]
  refine wpU_take 7 (some 157) (v := ?_) rfl rfl (by kernel_rfl) (fun _ _ _ h => h) rfl (fun x hx => ?_) ?_
  rotate_left 1
  · go_simp; first | done | with_reducible rfl | rw [if_neg (by omega)] | rw [if_pos (by omega)]
  simp only [Act.put, List.setIfInBounds_toArray, List.set_cons_zero, List.set_cons_succ]
  refine wpU_last [_, _] (by kernel_rfl) rfl rfl ?_
  simp only [List.getElem_toArray, List.getElem_cons_succ, List.getElem_cons_zero]
  go_wp2_with fail
  refine (push_at HI3.out 0 k1 kA1 kc1 nx 0 HK1.out (by omega) _ rfl).mono ?_
  rintro e w4 ⟨rfl, gv4, hI4⟩
  obtain ⟨gA4, gc4, rfl, _, _⟩ := hI4.goals.form
  have HI4 := Lib.hid hI4
  clear hI4
  obtain ⟨g0k, kA0, kc0, hA0, hk0, he0⟩ := kid_cells HR.out (j := 0) (by simp) HI4.out.below
  simp only [List.getElem_cons_zero] at hk0 he0
  have HK0 := Lib.hid hk0
  have HE0 := Lib.hid he0
  clear hk0 he0
  obtain rfl : g1k = g0k := by cases hA0; rfl
  clear hA0
  obtain ⟨s0, s1, s2, s3, s4, s5⟩ := cells_s HI4.out.blk
  obtain ⟨p0, p1, p2, p3, p4, p5⟩ := cells_p (HI4.out.foreign _ List.mem_cons_self).blk
  obtain ⟨q0, q1, q2, q3, q4, q5, q6, q7, q8⟩ := cells_q (HI4.out.foreign _ (List.mem_cons_of_mem _ List.mem_cons_self)).blk
  simp only [Pat.op, Pat.text, Pat.num, Pat.lo, Pat.hi] at p0 p1 p2 p3 p4 q1 q2 q3 q4 q5
  obtain ⟨e00, e01, e02, e03, e04, e05⟩ := HE0.out
  simp only [Nat.zero_mul, Nat.zero_add] at e00 e01 e02 e03 e04 e05
  go_wp2_with fail
  refine (push_at HI4.out 0 k0 kA0 kc0 gl.length 0 HK0.out (by simp; omega) _ rfl).mono ?_
  clear s0 s1 s2 s3 s4 s5 p0 p1 p2 p3 p4 p5 q0 q1 q2 q3 q4 q5 q6 q7 q8
  rintro e w5 ⟨rfl, gv5, hI5⟩
  obtain ⟨gA5, gc5, rfl, _, _⟩ := hI5.goals.form
  have HI5 := Lib.hid hI5
  clear hI5
  obtain ⟨s0, s1, s2, s3, s4, s5⟩ := cells_s HI5.out.blk
  have f2 := frozen_of_row w5 M 2 _ _ HI5.out.blk
  have hint : ((gl.length : Int) + 1) ≤ 90001 := by omega
  go_wp2_with fail
  go_ret
  exact sdid_go (HI5.out.setGoal ((gl.length : Int) + 1)) (Chain.push2 ⟨0, k1, _, nx, 0⟩ ⟨0, k0, _, gl.length, 0⟩ ⟨0, k1, 0⟩ ⟨0, k0, 0⟩ HCH.out rfl rfl rfl rfl rfl rfl rfl) (by simp)

set_option maxRecDepth 100000 in
set_option maxHeartbeats 1000000 in
theorem sstep_assign {w0 w : World} {M : Nat} {m : Mst} {gl : List SG} {gv hv cv ev : Value} {hs : List Value} {text : ByteArray} {num lo hi : Int} {k0 : Pat} {A : Option Addr} {c : Nat} {fr nx : Int} {gs : List Goal} {j : Nat} {s : ByteArray} {dv : Value} 
    (h : SpecAt w0 w [] M m gl (j : Int) m.at_ gv hv cv ev hs) (hj : gl[j]? = some ⟨0, .mk 16 text num lo hi [k0], .slice A 1 c, nx, fr⟩) (hch : Chain gl nx gs) (hlen : gl.length ≤ 90000) :
    Calls Try.prog 71 #[.pointer (some ⟨M, 0, none⟩), dv, .string s] w (SDid w0 M m gl.length (.go (⟨0, k0, 0⟩ :: ⟨1, (.mk 16 text num lo hi [k0]), m.at_⟩ :: gs) m)) := by
  have hblk := h.blk
  obtain ⟨g0, gc, rfl⟩ := goal_row h hj
  obtain ⟨hA, hc, rfl, _, _⟩ := h.chs.form
  obtain ⟨cA, cc, rfl, _, _⟩ := h.caps.form
  obtain ⟨eA, ec, rfl, _, _⟩ := h.evs.form
  obtain ⟨s0, s1, s2, s3, s4, s5⟩ := cells_s hblk
  have fs2 := frozen_of_row w M 2 _ _ hblk
  have hMlt := has_lt hblk
  obtain ⟨q0, q1, q2, q3, q4, q5, q6, q7, q8⟩ := goal_cells h hj
  simp only [Pat.op, Pat.text, Pat.num, Pat.lo, Pat.hi] at q1 q2 q3 q4 q5
  have hjl : j < gl.length := (List.getElem?_eq_some_iff.1 hj).1
  have hjl' : (j : Int) < gl.length := by omega
  have hkid : KidsIn w0 (.mk 16 text num lo hi [k0]) (.slice A 1 c) := h.kids _ (List.mem_of_getElem? hj)
  have HKID := Lib.hid hkid
  have HR := Lib.hid (kids_row hkid)
  have HCH := Lib.hid hch
  have HJ := Lib.hid hj
  have HI2 := Lib.hid (h.enter (ogOf ⟨0, .mk 16 text num lo hi [k0], .slice A 1 c, nx, fr⟩) (opOf (.mk 16 text num lo hi [k0]) (.slice A 1 c)) nx)
  have hbel := h.below.size
  clear h hblk hkid hch hj
  go_enter Try.func71, Try.ntmps71
  go_wp2_with fail
  clear s0 s1 s2 s3 s4 s5 q0 q1 q2 q3 q4 q5 q6 q7 q8 fs2
  -- region 37: 14 operations, the last [12, 13]
  refine wpU_begin [12, 13] [] (by kernel_rfl) (fun w3 hw3 => ?_)
  have HI3 := Lib.hid (HI2.out.later (drew_later hw3))
  clear hw3
  refine wpU_take 0 (some 202) (v := ?_) rfl rfl (by kernel_rfl) (fun _ _ _ h => h) rfl (fun x hx => ?_) ?_
  rotate_left 1
  · go_simp; first | done | with_reducible rfl | rw [if_neg (by omega)] | rw [if_pos (by omega)]
  simp only [Act.put, List.setIfInBounds_toArray, List.set_cons_zero, List.set_cons_succ]
  refine wpU_take 1 (some 203) (v := ?_) rfl rfl (by kernel_rfl) (fun _ _ _ h => h) rfl (fun x hx => ?_) ?_
  rotate_left 1
  · go_simp; first | done | with_reducible rfl | rw [if_neg (by omega)] | rw [if_pos (by omega)]
  simp only [Act.put, List.setIfInBounds_toArray, List.set_cons_zero, List.set_cons_succ]
  refine wpU_take 2 (some 204) (v := ?_) rfl rfl (by kernel_rfl) (fun _ _ _ h => h) rfl (fun x hx => ?_) ?_
  rotate_left 1
  · obtain ⟨s0, s1, s2, s3, s4, s5⟩ := cells_s (hx.has HI3.out.blk); obtain ⟨p0, p1, p2, p3, p4, p5⟩ := cells_p (hx.has (HI3.out.foreign _ List.mem_cons_self).blk); obtain ⟨q0, q1, q2, q3, q4, q5, q6, q7, q8⟩ := cells_q (hx.has (HI3.out.foreign _ (List.mem_cons_of_mem _ List.mem_cons_self)).blk); simp only [Pat.op, Pat.text, Pat.num, Pat.lo, Pat.hi] at *; go_simp; first | done | with_reducible rfl | rw [if_neg (by omega)] | rw [if_pos (by omega)]
  simp only [Act.put, List.setIfInBounds_toArray, List.set_cons_zero, List.set_cons_succ]
  refine wpU_take 3 (some 205) (v := ?_) rfl rfl (by kernel_rfl) (fun _ _ _ h => h) rfl (fun x hx => ?_) ?_
  rotate_left 1
  · go_simp; first | done | with_reducible rfl | rw [if_neg (by omega)] | rw [if_pos (by omega)]
  simp only [Act.put, List.setIfInBounds_toArray, List.set_cons_zero, List.set_cons_succ]
  refine wpU_take 4 (some 206) (v := ?_) rfl rfl (by kernel_rfl) (fun _ _ _ h => h) rfl (fun x hx => ?_) ?_
  rotate_left 1
  · obtain ⟨s0, s1, s2, s3, s4, s5⟩ := cells_s (hx.has HI3.out.blk); obtain ⟨p0, p1, p2, p3, p4, p5⟩ := cells_p (hx.has (HI3.out.foreign _ List.mem_cons_self).blk); obtain ⟨q0, q1, q2, q3, q4, q5, q6, q7, q8⟩ := cells_q (hx.has (HI3.out.foreign _ (List.mem_cons_of_mem _ List.mem_cons_self)).blk); simp only [Pat.op, Pat.text, Pat.num, Pat.lo, Pat.hi] at *; go_simp; first | done | with_reducible rfl | rw [if_neg (by omega)] | rw [if_pos (by omega)]
  simp only [Act.put, List.setIfInBounds_toArray, List.set_cons_zero, List.set_cons_succ]
  refine wpU_take 5 (some 207) (v := ?_) rfl rfl (by kernel_rfl) (fun _ _ _ h => h) rfl (fun x hx => ?_) ?_
  rotate_left 1
  · go_simp; first | done | with_reducible rfl | rw [if_neg (by omega)] | rw [if_pos (by omega)]
  simp only [Act.put, List.setIfInBounds_toArray, List.set_cons_zero, List.set_cons_succ]
  refine wpU_take 6 (some 208) (v := ?_) rfl rfl (by kernel_rfl) (fun _ _ _ h => h) rfl (fun x hx => ?_) ?_
  rotate_left 1
  · obtain ⟨s0, s1, s2, s3, s4, s5⟩ := cells_s (hx.has HI3.out.blk); obtain ⟨p0, p1, p2, p3, p4, p5⟩ := cells_p (hx.has (HI3.out.foreign _ List.mem_cons_self).blk); obtain ⟨q0, q1, q2, q3, q4, q5, q6, q7, q8⟩ := cells_q (hx.has (HI3.out.foreign _ (List.mem_cons_of_mem _ List.mem_cons_self)).blk); simp only [Pat.op, Pat.text, Pat.num, Pat.lo, Pat.hi] at *; go_simp; first | done | with_reducible rfl | rw [if_neg (by omega)] | rw [if_pos (by omega)]
  simp only [Act.put, List.setIfInBounds_toArray, List.set_cons_zero, List.set_cons_succ]
  refine wpU_take 7 (some 209) (v := ?_) rfl rfl (by kernel_rfl) (fun _ _ _ h => h) rfl (fun x hx => ?_) ?_
  rotate_left 1
  · go_simp; first | done | with_reducible rfl | rw [if_neg (by omega)] | rw [if_pos (by omega)]
  simp only [Act.put, List.setIfInBounds_toArray, List.set_cons_zero, List.set_cons_succ]
  refine wpU_take 8 (some 210) (v := ?_) rfl rfl (by kernel_rfl) (fun _ _ _ h => h) rfl (fun x hx => ?_) ?_
  rotate_left 1
  · go_simp; first | done | with_reducible rfl | rw [if_neg (by omega)] | rw [if_pos (by omega)]
  simp only [Act.put, List.setIfInBounds_toArray, List.set_cons_zero, List.set_cons_succ]
  refine wpU_take 9 (some 211) (v := ?_) rfl rfl (by kernel_rfl) (fun _ _ _ h => h) rfl (fun x hx => ?_) ?_
  rotate_left 1
  · go_simp; first | done | with_reducible rfl | rw [if_neg (by omega)] | rw [if_pos (by omega)]
  simp only [Act.put, List.setIfInBounds_toArray, List.set_cons_zero, List.set_cons_succ]
  refine wpU_take 10 (some 212) (v := ?_) rfl rfl (by kernel_rfl) (fun _ _ _ h => h) rfl (fun x hx => ?_) ?_
  rotate_left 1
  · obtain ⟨s0, s1, s2, s3, s4, s5⟩ := cells_s (hx.has HI3.out.blk); obtain ⟨p0, p1, p2, p3, p4, p5⟩ := cells_p (hx.has (HI3.out.foreign _ List.mem_cons_self).blk); obtain ⟨q0, q1, q2, q3, q4, q5, q6, q7, q8⟩ := cells_q (hx.has (HI3.out.foreign _ (List.mem_cons_of_mem _ List.mem_cons_self)).blk); simp only [Pat.op, Pat.text, Pat.num, Pat.lo, Pat.hi] at *; go_simp; first | done | with_reducible rfl | rw [if_neg (by omega)] | rw [if_pos (by omega)]
  simp only [Act.put, List.setIfInBounds_toArray, List.set_cons_zero, List.set_cons_succ]
  refine wpU_take 11 (some 213) (v := ?_) rfl rfl (by kernel_rfl) (fun _ _ _ h => h) rfl (fun x hx => ?_) ?_
  rotate_left 1
  · go_simp; first | done | with_reducible rfl | rw [if_neg (by omega)] | rw [if_pos (by omega)]
  simp only [Act.put, List.setIfInBounds_toArray, List.set_cons_zero, List.set_cons_succ]
  refine wpU_last [_, _] (by kernel_rfl) rfl rfl ?_
  simp only [List.getElem_toArray, List.getElem_cons_succ, List.getElem_cons_zero]
  go_wp2_with fail
  refine (push_at HI3.out 1 (.mk 16 text num lo hi [k0]) A c nx m.at_ HKID.out (by omega) _ rfl).mono ?_
  rintro e w4 ⟨rfl, gv4, hI4⟩
  obtain ⟨gA4, gc4, rfl, _, _⟩ := hI4.goals.form
  have HI4 := Lib.hid hI4
  clear hI4
  obtain ⟨g0k, kA0, kc0, hA0, hk0, he0⟩ := kid_cells HR.out (j := 0) (by simp) HI4.out.below
  simp only [List.getElem_cons_zero] at hk0 he0
  have HK0 := Lib.hid hk0
  have HE0 := Lib.hid he0
  clear hk0 he0
  subst hA0
  obtain ⟨s0, s1, s2, s3, s4, s5⟩ := cells_s HI4.out.blk
  obtain ⟨p0, p1, p2, p3, p4, p5⟩ := cells_p (HI4.out.foreign _ List.mem_cons_self).blk
  obtain ⟨q0, q1, q2, q3, q4, q5, q6, q7, q8⟩ := cells_q (HI4.out.foreign _ (List.mem_cons_of_mem _ List.mem_cons_self)).blk
  simp only [Pat.op, Pat.text, Pat.num, Pat.lo, Pat.hi] at p0 p1 p2 p3 p4 q1 q2 q3 q4 q5
  obtain ⟨e00, e01, e02, e03, e04, e05⟩ := HE0.out
  simp only [Nat.zero_mul, Nat.zero_add] at e00 e01 e02 e03 e04 e05
  go_wp2_with fail
  refine (push_at HI4.out 0 k0 kA0 kc0 gl.length 0 HK0.out (by simp; omega) _ rfl).mono ?_
  clear s0 s1 s2 s3 s4 s5 p0 p1 p2 p3 p4 p5 q0 q1 q2 q3 q4 q5 q6 q7 q8
  rintro e w5 ⟨rfl, gv5, hI5⟩
  obtain ⟨gA5, gc5, rfl, _, _⟩ := hI5.goals.form
  have HI5 := Lib.hid hI5
  clear hI5
  obtain ⟨s0, s1, s2, s3, s4, s5⟩ := cells_s HI5.out.blk
  have f2 := frozen_of_row w5 M 2 _ _ HI5.out.blk
  have hint : ((gl.length : Int) + 1) ≤ 90001 := by omega
  go_wp2_with fail
  go_ret
  exact sdid_go (HI5.out.setGoal ((gl.length : Int) + 1)) (Chain.push2 ⟨1, (.mk 16 text num lo hi [k0]), _, nx, m.at_⟩ ⟨0, k0, _, gl.length, 0⟩ ⟨1, (.mk 16 text num lo hi [k0]), m.at_⟩ ⟨0, k0, 0⟩ HCH.out rfl rfl rfl rfl rfl rfl rfl) (by simp)

set_option maxRecDepth 100000 in
set_option maxHeartbeats 1000000 in
theorem sstep_immediate {w0 w : World} {M : Nat} {m : Mst} {gl : List SG} {gv hv cv ev : Value} {hs : List Value} {text : ByteArray} {num lo hi : Int} {k0 : Pat} {A : Option Addr} {c : Nat} {fr nx : Int} {gs : List Goal} {j : Nat} {s : ByteArray} {dv : Value} 
    (h : SpecAt w0 w [] M m gl (j : Int) m.at_ gv hv cv ev hs) (hj : gl[j]? = some ⟨0, .mk 17 text num lo hi [k0], .slice A 1 c, nx, fr⟩) (hch : Chain gl nx gs) (hlen : gl.length ≤ 90000) :
    Calls Try.prog 71 #[.pointer (some ⟨M, 0, none⟩), dv, .string s] w (SDid w0 M m gl.length (.go (⟨0, k0, 0⟩ :: ⟨2, (.mk 17 text num lo hi [k0]), m.at_⟩ :: gs) m)) := by
  have hblk := h.blk
  obtain ⟨g0, gc, rfl⟩ := goal_row h hj
  obtain ⟨hA, hc, rfl, _, _⟩ := h.chs.form
  obtain ⟨cA, cc, rfl, _, _⟩ := h.caps.form
  obtain ⟨eA, ec, rfl, _, _⟩ := h.evs.form
  obtain ⟨s0, s1, s2, s3, s4, s5⟩ := cells_s hblk
  have fs2 := frozen_of_row w M 2 _ _ hblk
  have hMlt := has_lt hblk
  obtain ⟨q0, q1, q2, q3, q4, q5, q6, q7, q8⟩ := goal_cells h hj
  simp only [Pat.op, Pat.text, Pat.num, Pat.lo, Pat.hi] at q1 q2 q3 q4 q5
  have hjl : j < gl.length := (List.getElem?_eq_some_iff.1 hj).1
  have hjl' : (j : Int) < gl.length := by omega
  have hkid : KidsIn w0 (.mk 17 text num lo hi [k0]) (.slice A 1 c) := h.kids _ (List.mem_of_getElem? hj)
  have HKID := Lib.hid hkid
  have HR := Lib.hid (kids_row hkid)
  have HCH := Lib.hid hch
  have HJ := Lib.hid hj
  have HI2 := Lib.hid (h.enter (ogOf ⟨0, .mk 17 text num lo hi [k0], .slice A 1 c, nx, fr⟩) (opOf (.mk 17 text num lo hi [k0]) (.slice A 1 c)) nx)
  have hbel := h.below.size
  clear h hblk hkid hch hj
  go_enter Try.func71, Try.ntmps71
  go_wp2_with fail
  clear s0 s1 s2 s3 s4 s5 q0 q1 q2 q3 q4 q5 q6 q7 q8 fs2
  -- region 37: 14 operations, the last [12, 13]
  refine wpU_begin [12, 13] [] (by kernel_rfl) (fun w3 hw3 => ?_)
  have HI3 := Lib.hid (HI2.out.later (drew_later hw3))
  clear hw3
  refine wpU_take 0 (some 202) (v := ?_) rfl rfl (by kernel_rfl) (fun _ _ _ h => h) rfl (fun x hx => ?_) ?_
  rotate_left 1
  · go_simp; first | done | with_reducible rfl | rw [if_neg (by omega)] | rw [if_pos (by omega)]
  simp only [Act.put, List.setIfInBounds_toArray, List.set_cons_zero, List.set_cons_succ]
  refine wpU_take 1 (some 203) (v := ?_) rfl rfl (by kernel_rfl) (fun _ _ _ h => h) rfl (fun x hx => ?_) ?_
  rotate_left 1
  · go_simp; first | done | with_reducible rfl | rw [if_neg (by omega)] | rw [if_pos (by omega)]
  simp only [Act.put, List.setIfInBounds_toArray, List.set_cons_zero, List.set_cons_succ]
  refine wpU_take 2 (some 204) (v := ?_) rfl rfl (by kernel_rfl) (fun _ _ _ h => h) rfl (fun x hx => ?_) ?_
  rotate_left 1
  · obtain ⟨s0, s1, s2, s3, s4, s5⟩ := cells_s (hx.has HI3.out.blk); obtain ⟨p0, p1, p2, p3, p4, p5⟩ := cells_p (hx.has (HI3.out.foreign _ List.mem_cons_self).blk); obtain ⟨q0, q1, q2, q3, q4, q5, q6, q7, q8⟩ := cells_q (hx.has (HI3.out.foreign _ (List.mem_cons_of_mem _ List.mem_cons_self)).blk); simp only [Pat.op, Pat.text, Pat.num, Pat.lo, Pat.hi] at *; go_simp; first | done | with_reducible rfl | rw [if_neg (by omega)] | rw [if_pos (by omega)]
  simp only [Act.put, List.setIfInBounds_toArray, List.set_cons_zero, List.set_cons_succ]
  refine wpU_take 3 (some 205) (v := ?_) rfl rfl (by kernel_rfl) (fun _ _ _ h => h) rfl (fun x hx => ?_) ?_
  rotate_left 1
  · go_simp; first | done | with_reducible rfl | rw [if_neg (by omega)] | rw [if_pos (by omega)]
  simp only [Act.put, List.setIfInBounds_toArray, List.set_cons_zero, List.set_cons_succ]
  refine wpU_take 4 (some 206) (v := ?_) rfl rfl (by kernel_rfl) (fun _ _ _ h => h) rfl (fun x hx => ?_) ?_
  rotate_left 1
  · obtain ⟨s0, s1, s2, s3, s4, s5⟩ := cells_s (hx.has HI3.out.blk); obtain ⟨p0, p1, p2, p3, p4, p5⟩ := cells_p (hx.has (HI3.out.foreign _ List.mem_cons_self).blk); obtain ⟨q0, q1, q2, q3, q4, q5, q6, q7, q8⟩ := cells_q (hx.has (HI3.out.foreign _ (List.mem_cons_of_mem _ List.mem_cons_self)).blk); simp only [Pat.op, Pat.text, Pat.num, Pat.lo, Pat.hi] at *; go_simp; first | done | with_reducible rfl | rw [if_neg (by omega)] | rw [if_pos (by omega)]
  simp only [Act.put, List.setIfInBounds_toArray, List.set_cons_zero, List.set_cons_succ]
  refine wpU_take 5 (some 207) (v := ?_) rfl rfl (by kernel_rfl) (fun _ _ _ h => h) rfl (fun x hx => ?_) ?_
  rotate_left 1
  · go_simp; first | done | with_reducible rfl | rw [if_neg (by omega)] | rw [if_pos (by omega)]
  simp only [Act.put, List.setIfInBounds_toArray, List.set_cons_zero, List.set_cons_succ]
  refine wpU_take 6 (some 208) (v := ?_) rfl rfl (by kernel_rfl) (fun _ _ _ h => h) rfl (fun x hx => ?_) ?_
  rotate_left 1
  · obtain ⟨s0, s1, s2, s3, s4, s5⟩ := cells_s (hx.has HI3.out.blk); obtain ⟨p0, p1, p2, p3, p4, p5⟩ := cells_p (hx.has (HI3.out.foreign _ List.mem_cons_self).blk); obtain ⟨q0, q1, q2, q3, q4, q5, q6, q7, q8⟩ := cells_q (hx.has (HI3.out.foreign _ (List.mem_cons_of_mem _ List.mem_cons_self)).blk); simp only [Pat.op, Pat.text, Pat.num, Pat.lo, Pat.hi] at *; go_simp; first | done | with_reducible rfl | rw [if_neg (by omega)] | rw [if_pos (by omega)]
  simp only [Act.put, List.setIfInBounds_toArray, List.set_cons_zero, List.set_cons_succ]
  refine wpU_take 7 (some 209) (v := ?_) rfl rfl (by kernel_rfl) (fun _ _ _ h => h) rfl (fun x hx => ?_) ?_
  rotate_left 1
  · go_simp; first | done | with_reducible rfl | rw [if_neg (by omega)] | rw [if_pos (by omega)]
  simp only [Act.put, List.setIfInBounds_toArray, List.set_cons_zero, List.set_cons_succ]
  refine wpU_take 8 (some 210) (v := ?_) rfl rfl (by kernel_rfl) (fun _ _ _ h => h) rfl (fun x hx => ?_) ?_
  rotate_left 1
  · go_simp; first | done | with_reducible rfl | rw [if_neg (by omega)] | rw [if_pos (by omega)]
  simp only [Act.put, List.setIfInBounds_toArray, List.set_cons_zero, List.set_cons_succ]
  refine wpU_take 9 (some 211) (v := ?_) rfl rfl (by kernel_rfl) (fun _ _ _ h => h) rfl (fun x hx => ?_) ?_
  rotate_left 1
  · go_simp; first | done | with_reducible rfl | rw [if_neg (by omega)] | rw [if_pos (by omega)]
  simp only [Act.put, List.setIfInBounds_toArray, List.set_cons_zero, List.set_cons_succ]
  refine wpU_take 10 (some 212) (v := ?_) rfl rfl (by kernel_rfl) (fun _ _ _ h => h) rfl (fun x hx => ?_) ?_
  rotate_left 1
  · obtain ⟨s0, s1, s2, s3, s4, s5⟩ := cells_s (hx.has HI3.out.blk); obtain ⟨p0, p1, p2, p3, p4, p5⟩ := cells_p (hx.has (HI3.out.foreign _ List.mem_cons_self).blk); obtain ⟨q0, q1, q2, q3, q4, q5, q6, q7, q8⟩ := cells_q (hx.has (HI3.out.foreign _ (List.mem_cons_of_mem _ List.mem_cons_self)).blk); simp only [Pat.op, Pat.text, Pat.num, Pat.lo, Pat.hi] at *; go_simp; first | done | with_reducible rfl | rw [if_neg (by omega)] | rw [if_pos (by omega)]
  simp only [Act.put, List.setIfInBounds_toArray, List.set_cons_zero, List.set_cons_succ]
  refine wpU_take 11 (some 213) (v := ?_) rfl rfl (by kernel_rfl) (fun _ _ _ h => h) rfl (fun x hx => ?_) ?_
  rotate_left 1
  · go_simp; first | done | with_reducible rfl | rw [if_neg (by omega)] | rw [if_pos (by omega)]
  simp only [Act.put, List.setIfInBounds_toArray, List.set_cons_zero, List.set_cons_succ]
  refine wpU_last [_, _] (by kernel_rfl) rfl rfl ?_
  simp only [List.getElem_toArray, List.getElem_cons_succ, List.getElem_cons_zero]
  go_wp2_with fail
  refine (push_at HI3.out 2 (.mk 17 text num lo hi [k0]) A c nx m.at_ HKID.out (by omega) _ rfl).mono ?_
  rintro e w4 ⟨rfl, gv4, hI4⟩
  obtain ⟨gA4, gc4, rfl, _, _⟩ := hI4.goals.form
  have HI4 := Lib.hid hI4
  clear hI4
  obtain ⟨g0k, kA0, kc0, hA0, hk0, he0⟩ := kid_cells HR.out (j := 0) (by simp) HI4.out.below
  simp only [List.getElem_cons_zero] at hk0 he0
  have HK0 := Lib.hid hk0
  have HE0 := Lib.hid he0
  clear hk0 he0
  subst hA0
  obtain ⟨s0, s1, s2, s3, s4, s5⟩ := cells_s HI4.out.blk
  obtain ⟨p0, p1, p2, p3, p4, p5⟩ := cells_p (HI4.out.foreign _ List.mem_cons_self).blk
  obtain ⟨q0, q1, q2, q3, q4, q5, q6, q7, q8⟩ := cells_q (HI4.out.foreign _ (List.mem_cons_of_mem _ List.mem_cons_self)).blk
  simp only [Pat.op, Pat.text, Pat.num, Pat.lo, Pat.hi] at p0 p1 p2 p3 p4 q1 q2 q3 q4 q5
  obtain ⟨e00, e01, e02, e03, e04, e05⟩ := HE0.out
  simp only [Nat.zero_mul, Nat.zero_add] at e00 e01 e02 e03 e04 e05
  go_wp2_with fail
  refine (push_at HI4.out 0 k0 kA0 kc0 gl.length 0 HK0.out (by simp; omega) _ rfl).mono ?_
  clear s0 s1 s2 s3 s4 s5 p0 p1 p2 p3 p4 p5 q0 q1 q2 q3 q4 q5 q6 q7 q8
  rintro e w5 ⟨rfl, gv5, hI5⟩
  obtain ⟨gA5, gc5, rfl, _, _⟩ := hI5.goals.form
  have HI5 := Lib.hid hI5
  clear hI5
  obtain ⟨s0, s1, s2, s3, s4, s5⟩ := cells_s HI5.out.blk
  have f2 := frozen_of_row w5 M 2 _ _ HI5.out.blk
  have hint : ((gl.length : Int) + 1) ≤ 90001 := by omega
  go_wp2_with fail
  go_ret
  exact sdid_go (HI5.out.setGoal ((gl.length : Int) + 1)) (Chain.push2 ⟨2, (.mk 17 text num lo hi [k0]), _, nx, m.at_⟩ ⟨0, k0, _, gl.length, 0⟩ ⟨2, (.mk 17 text num lo hi [k0]), m.at_⟩ ⟨0, k0, 0⟩ HCH.out rfl rfl rfl rfl rfl rfl rfl) (by simp)

end Go.Proofs.Ytndefbecoahfhaa

/- spec's l20Step. Printed by gen_sstep.py. -/
namespace Go.Proofs.Ytndefbecoahfhaa
open Go.RowKit

set_option maxRecDepth 100000 in
set_option maxHeartbeats 1000000 in
theorem sstep_arbno {w0 w : World} {M : Nat} {m : Mst} {gl : List SG} {gv hv cv ev : Value} {hs : List Value} {text : ByteArray} {num lo hi : Int} {k0 : Pat} {A : Option Addr} {c : Nat} {fr nx : Int} {gs : List Goal} {j : Nat} {s : ByteArray} {dv : Value} 
    (h : SpecAt w0 w [] M m gl (j : Int) m.at_ gv hv cv ev hs) (hj : gl[j]? = some ⟨0, .mk 13 text num lo hi [k0], .slice A 1 c, nx, fr⟩) (hch : Chain gl nx gs) (hlen : gl.length ≤ 90000) (hn : m.choices.length ≤ 5000) :
    Calls Try.prog 71 #[.pointer (some ⟨M, 0, none⟩), dv, .string s] w (SDid w0 M m gl.length (.go gs (m.choose (⟨3, (.mk 13 text num lo hi [k0]), 0⟩ :: gs) m.at_))) := by
  have hblk := h.blk
  obtain ⟨g0, gc, rfl⟩ := goal_row h hj
  obtain ⟨hA, hc, rfl, _, _⟩ := h.chs.form
  obtain ⟨cA, cc, rfl, _, _⟩ := h.caps.form
  obtain ⟨eA, ec, rfl, _, _⟩ := h.evs.form
  obtain ⟨s0, s1, s2, s3, s4, s5⟩ := cells_s hblk
  have fs2 := frozen_of_row w M 2 _ _ hblk
  have hMlt := has_lt hblk
  obtain ⟨q0, q1, q2, q3, q4, q5, q6, q7, q8⟩ := goal_cells h hj
  simp only [Pat.op, Pat.text, Pat.num, Pat.lo, Pat.hi] at q1 q2 q3 q4 q5
  have hjl : j < gl.length := (List.getElem?_eq_some_iff.1 hj).1
  have hjl' : (j : Int) < gl.length := by omega
  have hkid : KidsIn w0 (.mk 13 text num lo hi [k0]) (.slice A 1 c) := h.kids _ (List.mem_of_getElem? hj)
  have HKID := Lib.hid hkid
  have HR := Lib.hid (kids_row hkid)
  have HCH := Lib.hid hch
  have HJ := Lib.hid hj
  have HI2 := Lib.hid (h.enter (ogOf ⟨0, .mk 13 text num lo hi [k0], .slice A 1 c, nx, fr⟩) (opOf (.mk 13 text num lo hi [k0]) (.slice A 1 c)) nx)
  have hbel := h.below.size
  clear h hblk hkid hch hj
  go_enter Try.func71, Try.ntmps71
  go_wp2_with fail
  clear s0 s1 s2 s3 s4 s5 q0 q1 q2 q3 q4 q5 q6 q7 q8 fs2
  -- region 25: 12 operations, the last [11]
  refine wpV_begin [11] [] (fun x => x.cell? ⟨M, 3, none⟩ = some (.int .i64 m.at_) ∧ x.heap[w.heap.size + 1]? = some (opOf (.mk 13 text num lo hi [k0]) (.slice A 1 c) ) ∧ x.heap[w.heap.size]? = some (ogOf ⟨0, (.mk 13 text num lo hi [k0]), .slice A 1 c, nx, fr⟩) ∧ Below w0.heap.size w0 x) (by kernel_rfl) (fun w3 hw3 => ?_)
  have HI3 := Lib.hid (HI2.out.later (drew_later hw3))
  clear hw3
  have HS : Hid ((fun x => x.cell? ⟨M, 3, none⟩ = some (.int .i64 m.at_) ∧ x.heap[w.heap.size + 1]? = some (opOf (.mk 13 text num lo hi [k0]) (.slice A 1 c) ) ∧ x.heap[w.heap.size]? = some (ogOf ⟨0, (.mk 13 text num lo hi [k0]), .slice A 1 c, nx, fr⟩) ∧ Below w0.heap.size w0 x) w3) := Lib.hid ⟨(cells_s HI3.out.blk).2.2.2.1, (HI3.out.foreign _ List.mem_cons_self).blk, (HI3.out.foreign _ (List.mem_cons_of_mem _ List.mem_cons_self)).blk, HI3.out.below⟩
  refine wpV_take 0 (some 136) (v := ?_) rfl rfl (by kernel_rfl) (fun _ _ _ h => h) rfl HS.out (fun x hx => ?_) ?_
  rotate_left 1
  · go_simp; first | done | with_reducible rfl | rw [if_neg (by omega)] | rw [if_pos (by omega)]
  simp only [Act.put, List.setIfInBounds_toArray, List.set_cons_zero, List.set_cons_succ]
  refine wpV_take 1 (some 137) (v := ?_) rfl rfl (by kernel_rfl) (fun _ _ _ h => h) rfl HS.out (fun x hx => ?_) ?_
  rotate_left 1
  · go_simp; first | done | with_reducible rfl | rw [if_neg (by omega)] | rw [if_pos (by omega)]
  simp only [Act.put, List.setIfInBounds_toArray, List.set_cons_zero, List.set_cons_succ]
  refine wpV_take 2 (some 138) (v := ?_) rfl rfl (by kernel_rfl) (fun _ _ _ h => h) rfl HS.out (fun x hx => ?_) ?_
  rotate_left 1
  · have s3 := hx.1; obtain ⟨p0, p1, p2, p3, p4, p5⟩ := cells_p hx.2.1; obtain ⟨q0, q1, q2, q3, q4, q5, q6, q7, q8⟩ := cells_q hx.2.2.1; simp only [Pat.op, Pat.text, Pat.num, Pat.lo, Pat.hi] at *; go_simp; first | done | with_reducible rfl | rw [if_neg (by omega)] | rw [if_pos (by omega)]
  simp only [Act.put, List.setIfInBounds_toArray, List.set_cons_zero, List.set_cons_succ]
  refine wpV_take 3 (some 139) (v := ?_) rfl rfl (by kernel_rfl) (fun _ _ _ h => h) rfl HS.out (fun x hx => ?_) ?_
  rotate_left 1
  · go_simp; first | done | with_reducible rfl | rw [if_neg (by omega)] | rw [if_pos (by omega)]
  simp only [Act.put, List.setIfInBounds_toArray, List.set_cons_zero, List.set_cons_succ]
  refine wpV_take 4 (some 140) (v := ?_) rfl rfl (by kernel_rfl) (fun _ _ _ h => h) rfl HS.out (fun x hx => ?_) ?_
  rotate_left 1
  · have s3 := hx.1; obtain ⟨p0, p1, p2, p3, p4, p5⟩ := cells_p hx.2.1; obtain ⟨q0, q1, q2, q3, q4, q5, q6, q7, q8⟩ := cells_q hx.2.2.1; simp only [Pat.op, Pat.text, Pat.num, Pat.lo, Pat.hi] at *; go_simp; first | done | with_reducible rfl | rw [if_neg (by omega)] | rw [if_pos (by omega)]
  simp only [Act.put, List.setIfInBounds_toArray, List.set_cons_zero, List.set_cons_succ]
  refine wpV_take 5 (some 141) (v := ?_) rfl rfl (by kernel_rfl) (fun _ _ _ h => h) rfl HS.out (fun x hx => ?_) ?_
  rotate_left 1
  · go_simp; first | done | with_reducible rfl | rw [if_neg (by omega)] | rw [if_pos (by omega)]
  simp only [Act.put, List.setIfInBounds_toArray, List.set_cons_zero, List.set_cons_succ]
  refine wpV_take 7 (some 143) (v := ?_) rfl rfl (by kernel_rfl) (fun _ _ _ h => h) rfl HS.out (fun x hx => ?_) ?_
  rotate_left 1
  · go_simp; first | done | with_reducible rfl | rw [if_neg (by omega)] | rw [if_pos (by omega)]
  simp only [Act.put, List.setIfInBounds_toArray, List.set_cons_zero, List.set_cons_succ]
  refine wpV_take 8 (some 144) (v := ?_) rfl rfl (by kernel_rfl) (fun _ _ _ h => h) rfl HS.out (fun x hx => ?_) ?_
  rotate_left 1
  · go_simp; first | done | with_reducible rfl | rw [if_neg (by omega)] | rw [if_pos (by omega)]
  simp only [Act.put, List.setIfInBounds_toArray, List.set_cons_zero, List.set_cons_succ]
  refine wpV_take 9 (some 145) (v := ?_) rfl rfl (by kernel_rfl) (fun _ _ _ h => h) rfl HS.out (fun x hx => ?_) ?_
  rotate_left 1
  · go_simp; first | done | with_reducible rfl | rw [if_neg (by omega)] | rw [if_pos (by omega)]
  simp only [Act.put, List.setIfInBounds_toArray, List.set_cons_zero, List.set_cons_succ]
  refine wpV_take 10 (some 146) (v := ?_) rfl rfl (by kernel_rfl) (fun _ _ _ h => h) rfl HS.out (fun x hx => ?_) ?_
  rotate_left 1
  · have s3 := hx.1; obtain ⟨p0, p1, p2, p3, p4, p5⟩ := cells_p hx.2.1; obtain ⟨q0, q1, q2, q3, q4, q5, q6, q7, q8⟩ := cells_q hx.2.2.1; simp only [Pat.op, Pat.text, Pat.num, Pat.lo, Pat.hi] at *; go_simp; first | done | with_reducible rfl | rw [if_neg (by omega)] | rw [if_pos (by omega)]
  simp only [Act.put, List.setIfInBounds_toArray, List.set_cons_zero, List.set_cons_succ]
  refine wpV_step 6 (by kernel_rfl) rfl rfl ?_  -- call value (Go.Operand.func 70)
  go_wp2_with fail
  refine (push_at HI3.out 3 (.mk 13 text num lo hi [k0]) A c nx 0 HKID.out (by omega) _ rfl).mono ?_
  rintro e w4 ⟨rfl, gv4, hI4⟩
  obtain ⟨gA4, gc4, rfl, _, _⟩ := hI4.goals.form
  have HI4 := Lib.hid hI4
  clear hI4
  go_wp2_with fail
  clear HS
  have HS : Hid ((fun x => x.cell? ⟨M, 3, none⟩ = some (.int .i64 m.at_) ∧ x.heap[w.heap.size + 1]? = some (opOf (.mk 13 text num lo hi [k0]) (.slice A 1 c) ) ∧ x.heap[w.heap.size]? = some (ogOf ⟨0, (.mk 13 text num lo hi [k0]), .slice A 1 c, nx, fr⟩) ∧ Below w0.heap.size w0 x) w4) := Lib.hid ⟨(cells_s HI4.out.blk).2.2.2.1, (HI4.out.foreign _ List.mem_cons_self).blk, (HI4.out.foreign _ (List.mem_cons_of_mem _ List.mem_cons_self)).blk, HI4.out.below⟩
  refine ⟨HS.out, ?_⟩
  refine wpV_last [_] (by kernel_rfl) rfl rfl ?_
  simp only [List.getElem_toArray, List.getElem_cons_succ, List.getElem_cons_zero]
  go_wp2_with fail
  refine (later_any HI4.out ⟨false, ⟨3, (.mk 13 text num lo hi [k0]), 0⟩ :: gs, m.at_, m.caps.length⟩ gl.length _ rfl rfl (.inr ⟨rfl, Chain.push ⟨3, (.mk 13 text num lo hi [k0]), _, nx, 0⟩ ⟨3, (.mk 13 text num lo hi [k0]), 0⟩ HCH.out rfl rfl rfl⟩) (by omega)).mono ?_
  rintro e w5 ⟨rfl, hv5, hs5, hI5⟩
  obtain ⟨hA5, hc5, rfl, _, _⟩ := hI5.chs.form
  have HI5 := Lib.hid hI5
  clear hI5
  go_wp2_with fail
  go_ret
  exact sdid_go (m' := m.choose (⟨3, (.mk 13 text num lo hi [k0]), 0⟩ :: gs) m.at_) HI5.out (HCH.out.more _ _ _) (by simp)

set_option maxRecDepth 100000 in
set_option maxHeartbeats 1000000 in
theorem sstep_defer {w0 w : World} {M : Nat} {m : Mst} {gl : List SG} {gv hv cv ev : Value} {hs : List Value} {text : ByteArray} {num lo hi : Int} {kids : List Pat} {A : Option Addr} {c : Nat} {fr nx : Int} {gs : List Goal} {j : Nat} {s : ByteArray} {dv : Value} {defs : List Pat} {dA : Option Addr} {dc : Nat} {i : Nat}
    (h : SpecAt w0 w [] M m gl (j : Int) m.at_ gv hv cv ev hs) (hj : gl[j]? = some ⟨0, .mk 20 text num lo hi kids, .slice A kids.length c, nx, fr⟩) (hch : Chain gl nx gs) (hlen : gl.length ≤ 90000) (hnum : num = (i : Int)) (hil : i < defs.length) (hdv : dv = .slice dA defs.length dc) (hdefs : RowIn w0 dA 0 defs) :
    Calls Try.prog 71 #[.pointer (some ⟨M, 0, none⟩), dv, .string s] w (SDid w0 M m gl.length (.go (⟨0, defs[i], 0⟩ :: gs) m)) := by
  have hblk := h.blk
  obtain ⟨g0, gc, rfl⟩ := goal_row h hj
  obtain ⟨hA, hc, rfl, _, _⟩ := h.chs.form
  obtain ⟨cA, cc, rfl, _, _⟩ := h.caps.form
  obtain ⟨eA, ec, rfl, _, _⟩ := h.evs.form
  obtain ⟨s0, s1, s2, s3, s4, s5⟩ := cells_s hblk
  have fs2 := frozen_of_row w M 2 _ _ hblk
  have hMlt := has_lt hblk
  obtain ⟨q0, q1, q2, q3, q4, q5, q6, q7, q8⟩ := goal_cells h hj
  simp only [Pat.op, Pat.text, Pat.num, Pat.lo, Pat.hi] at q1 q2 q3 q4 q5
  have hjl : j < gl.length := (List.getElem?_eq_some_iff.1 hj).1
  have hjl' : (j : Int) < gl.length := by omega
  have hkid : KidsIn w0 (.mk 20 text i lo hi kids) (.slice A kids.length c) := h.kids _ (List.mem_of_getElem? hj)
  have HKID := Lib.hid hkid
  have HR := Lib.hid (kids_row hkid)
  have HCH := Lib.hid hch
  have HJ := Lib.hid hj
  have HI2 := Lib.hid (h.enter (ogOf ⟨0, .mk 20 text i lo hi kids, .slice A kids.length c, nx, fr⟩) (opOf (.mk 20 text i lo hi kids) (.slice A kids.length c)) nx)
  have hbel := h.below.size
  subst hdv hnum
  have HD := Lib.hid hdefs
  have hil' : (i : Int) < defs.length := by omega
  clear hdefs
  clear h hblk hkid hch hj
  go_enter Try.func71, Try.ntmps71
  go_wp2_with fail
  clear s0 s1 s2 s3 s4 s5 q0 q1 q2 q3 q4 q5 q6 q7 q8 fs2
  -- region 47: 14 operations, the last [10, 11, 12, 13]
  refine wpU_begin [10, 11, 12, 13] [0] (by kernel_rfl) (fun w3 hw3 => ?_)
  have HI3 := Lib.hid (HI2.out.later (drew_later hw3))
  clear hw3
  obtain ⟨g0k, kA0, kc0, hA0, hk0, he0⟩ := kid_cells HD.out hil HI3.out.below
  have HK0 := Lib.hid hk0
  have HE0 := Lib.hid he0
  clear hk0 he0
  subst hA0
  refine wpU_pure 0 (some 254) (v := ?_) rfl rfl (by kernel_rfl) (fun _ _ _ h => h) rfl (fun x => ?_) ?_
  rotate_left 1
  · go_simp; first | done | with_reducible rfl | rw [if_neg (by omega)] | rw [if_pos (by omega)]
  simp only [Act.put, List.setIfInBounds_toArray, List.set_cons_zero, List.set_cons_succ]
  refine wpU_take 1 (some 255) (v := ?_) rfl rfl (by kernel_rfl) (fun _ _ _ h => h) rfl (fun x hx => ?_) ?_
  rotate_left 1
  · go_simp; first | done | with_reducible rfl | rw [if_neg (by omega)] | rw [if_pos (by omega)]
  simp only [Act.put, List.setIfInBounds_toArray, List.set_cons_zero, List.set_cons_succ]
  refine wpU_take 2 (some 256) (v := ?_) rfl rfl (by kernel_rfl) (fun _ _ _ h => h) rfl (fun x hx => ?_) ?_
  rotate_left 1
  · go_simp; first | done | with_reducible rfl | rw [if_neg (by omega)] | rw [if_pos (by omega)]
  simp only [Act.put, List.setIfInBounds_toArray, List.set_cons_zero, List.set_cons_succ]
  refine wpU_take 3 (some 257) (v := ?_) rfl rfl (by kernel_rfl) (fun _ _ _ h => h) rfl (fun x hx => ?_) ?_
  rotate_left 1
  · go_simp; first | done | with_reducible rfl | rw [if_neg (by omega)] | rw [if_pos (by omega)]
  simp only [Act.put, List.setIfInBounds_toArray, List.set_cons_zero, List.set_cons_succ]
  refine wpU_take 4 (some 258) (v := ?_) rfl rfl (by kernel_rfl) (fun _ _ _ h => h) rfl (fun x hx => ?_) ?_
  rotate_left 1
  · obtain ⟨s0, s1, s2, s3, s4, s5⟩ := cells_s (hx.has HI3.out.blk); obtain ⟨p0, p1, p2, p3, p4, p5⟩ := cells_p (hx.has (HI3.out.foreign _ List.mem_cons_self).blk); obtain ⟨q0, q1, q2, q3, q4, q5, q6, q7, q8⟩ := cells_q (hx.has (HI3.out.foreign _ (List.mem_cons_of_mem _ List.mem_cons_self)).blk); simp only [Pat.op, Pat.text, Pat.num, Pat.lo, Pat.hi] at *; obtain ⟨e00, e01, e02, e03, e04, e05⟩ := HE0.out.below hx; go_simp; first | done | with_reducible rfl | rw [if_neg (by omega)] | rw [if_pos (by omega)]
  simp only [Act.put, List.setIfInBounds_toArray, List.set_cons_zero, List.set_cons_succ]
  refine wpU_take 5 (some 259) (v := ?_) rfl rfl (by kernel_rfl) (fun _ _ _ h => h) rfl (fun x hx => ?_) ?_
  rotate_left 1
  · go_simp; first | done | with_reducible rfl | rw [if_neg (by omega)] | rw [if_pos (by omega)]
  simp only [Act.put, List.setIfInBounds_toArray, List.set_cons_zero, List.set_cons_succ]
  refine wpU_take 6 (some 260) (v := ?_) rfl rfl (by kernel_rfl) (fun _ _ _ h => h) rfl (fun x hx => ?_) ?_
  rotate_left 1
  · obtain ⟨s0, s1, s2, s3, s4, s5⟩ := cells_s (hx.has HI3.out.blk); obtain ⟨p0, p1, p2, p3, p4, p5⟩ := cells_p (hx.has (HI3.out.foreign _ List.mem_cons_self).blk); obtain ⟨q0, q1, q2, q3, q4, q5, q6, q7, q8⟩ := cells_q (hx.has (HI3.out.foreign _ (List.mem_cons_of_mem _ List.mem_cons_self)).blk); simp only [Pat.op, Pat.text, Pat.num, Pat.lo, Pat.hi] at *; obtain ⟨e00, e01, e02, e03, e04, e05⟩ := HE0.out.below hx; go_simp; first | done | with_reducible rfl | rw [if_neg (by omega)] | rw [if_pos (by omega)]
  simp only [Act.put, List.setIfInBounds_toArray, List.set_cons_zero, List.set_cons_succ]
  refine wpU_take 7 (some 261) (v := ?_) rfl rfl (by kernel_rfl) (fun _ _ _ h => h) rfl (fun x hx => ?_) ?_
  rotate_left 1
  · go_simp; first | done | with_reducible rfl | rw [if_neg (by omega)] | rw [if_pos (by omega)]
  simp only [Act.put, List.setIfInBounds_toArray, List.set_cons_zero, List.set_cons_succ]
  refine wpU_take 8 (some 262) (v := ?_) rfl rfl (by kernel_rfl) (fun _ _ _ h => h) rfl (fun x hx => ?_) ?_
  rotate_left 1
  · obtain ⟨s0, s1, s2, s3, s4, s5⟩ := cells_s (hx.has HI3.out.blk); obtain ⟨p0, p1, p2, p3, p4, p5⟩ := cells_p (hx.has (HI3.out.foreign _ List.mem_cons_self).blk); obtain ⟨q0, q1, q2, q3, q4, q5, q6, q7, q8⟩ := cells_q (hx.has (HI3.out.foreign _ (List.mem_cons_of_mem _ List.mem_cons_self)).blk); simp only [Pat.op, Pat.text, Pat.num, Pat.lo, Pat.hi] at *; obtain ⟨e00, e01, e02, e03, e04, e05⟩ := HE0.out.below hx; go_simp; first | done | with_reducible rfl | rw [if_neg (by omega)] | rw [if_pos (by omega)]
  simp only [Act.put, List.setIfInBounds_toArray, List.set_cons_zero, List.set_cons_succ]
  refine wpU_take 9 (some 263) (v := ?_) rfl rfl (by kernel_rfl) (fun _ _ _ h => h) rfl (fun x hx => ?_) ?_
  rotate_left 1
  · go_simp; first | done | with_reducible rfl | rw [if_neg (by omega)] | rw [if_pos (by omega)]
  simp only [Act.put, List.setIfInBounds_toArray, List.set_cons_zero, List.set_cons_succ]
  refine wpU_last [_, _, _, _] (by kernel_rfl) rfl rfl ?_
  simp only [List.getElem_toArray, List.getElem_cons_succ, List.getElem_cons_zero]
  go_wp2_with fail
  refine (push_at HI3.out 0 defs[i] kA0 kc0 nx 0 HK0.out (by omega) _ rfl).mono ?_
  rintro e w4 ⟨rfl, gv4, hI4⟩
  obtain ⟨gA4, gc4, rfl, _, _⟩ := hI4.goals.form
  have HI4 := Lib.hid hI4
  clear hI4
  obtain ⟨s0, s1, s2, s3, s4, s5⟩ := cells_s HI4.out.blk
  have f2 := frozen_of_row w4 M 2 _ _ HI4.out.blk
  go_wp2_with fail
  go_ret
  exact sdid_go (HI4.out.setGoal gl.length) (Chain.push ⟨0, defs[i], _, nx, 0⟩ ⟨0, defs[i], 0⟩ HCH.out rfl rfl rfl) (by simp)

end Go.Proofs.Ytndefbecoahfhaa

/- spec's l20Step. Printed by gen_sstep.py. -/
namespace Go.Proofs.Ytndefbecoahfhaa
open Go.RowKit

set_option maxRecDepth 100000 in
set_option maxHeartbeats 1000000 in
theorem sstep_alt {w0 w : World} {M : Nat} {m : Mst} {gl : List SG} {gv hv cv ev : Value} {hs : List Value} {text : ByteArray} {num lo hi : Int} {k0 k1 : Pat} {A : Option Addr} {c : Nat} {fr nx : Int} {gs : List Goal} {j : Nat} {s : ByteArray} {dv : Value} 
    (h : SpecAt w0 w [] M m gl (j : Int) m.at_ gv hv cv ev hs) (hj : gl[j]? = some ⟨0, .mk 15 text num lo hi [k0, k1], .slice A 2 c, nx, fr⟩) (hch : Chain gl nx gs) (hlen : gl.length ≤ 90000) (hn : m.choices.length ≤ 5000) :
    Calls Try.prog 71 #[.pointer (some ⟨M, 0, none⟩), dv, .string s] w (SDid w0 M m gl.length (.go (⟨0, k0, 0⟩ :: gs) (m.choose (⟨0, k1, 0⟩ :: gs) m.at_))) := by
  have hblk := h.blk
  obtain ⟨g0, gc, rfl⟩ := goal_row h hj
  obtain ⟨hA, hc, rfl, _, _⟩ := h.chs.form
  obtain ⟨cA, cc, rfl, _, _⟩ := h.caps.form
  obtain ⟨eA, ec, rfl, _, _⟩ := h.evs.form
  obtain ⟨s0, s1, s2, s3, s4, s5⟩ := cells_s hblk
  have fs2 := frozen_of_row w M 2 _ _ hblk
  have hMlt := has_lt hblk
  obtain ⟨q0, q1, q2, q3, q4, q5, q6, q7, q8⟩ := goal_cells h hj
  simp only [Pat.op, Pat.text, Pat.num, Pat.lo, Pat.hi] at q1 q2 q3 q4 q5
  have hjl : j < gl.length := (List.getElem?_eq_some_iff.1 hj).1
  have hjl' : (j : Int) < gl.length := by omega
  have hkid : KidsIn w0 (.mk 15 text num lo hi [k0, k1]) (.slice A 2 c) := h.kids _ (List.mem_of_getElem? hj)
  have HKID := Lib.hid hkid
  have HR := Lib.hid (kids_row hkid)
  have HCH := Lib.hid hch
  have HJ := Lib.hid hj
  have HI2 := Lib.hid (h.enter (ogOf ⟨0, .mk 15 text num lo hi [k0, k1], .slice A 2 c, nx, fr⟩) (opOf (.mk 15 text num lo hi [k0, k1]) (.slice A 2 c)) nx)
  have hbel := h.below.size
  clear h hblk hkid hch hj
  go_enter Try.func71, Try.ntmps71
  go_wp2_with fail
  clear s0 s1 s2 s3 s4 s5 q0 q1 q2 q3 q4 q5 q6 q7 q8 fs2
  obtain ⟨g1k, kv1, hA1, hg1, he1, hk1⟩ := rowOf w0 [k0, k1] HR.out (j := 1) (by simp)
  obtain ⟨kA1, kc1, rfl, _, _⟩ := hk1.form
  simp only [List.getElem_cons_succ, List.getElem_cons_zero] at hk1 he1
  have HK1 := Lib.hid hk1
  have HE1 := Lib.hid he1
  have HG1 := Lib.hid hg1
  subst hA1
  clear hk1 he1 hg1
  -- region 32: 15 operations, the last [14]
  refine wpV_begin [14] [] (fun x => x.cell? ⟨M, 3, none⟩ = some (.int .i64 m.at_) ∧ x.heap[w.heap.size + 1]? = some (opOf (.mk 15 text num lo hi [k0, k1]) (.slice (some ⟨g1k, 0, none⟩) 2 c) ) ∧ x.heap[w.heap.size]? = some (ogOf ⟨0, (.mk 15 text num lo hi [k0, k1]), .slice (some ⟨g1k, 0, none⟩) 2 c, nx, fr⟩) ∧ Below w0.heap.size w0 x ∧ ElemAt x g1k 1 k1 (.slice kA1 k1.kids.length kc1)) (by kernel_rfl) (fun w3 hw3 => ?_)
  have HI3 := Lib.hid (HI2.out.later (drew_later hw3))
  clear hw3
  have HS : Hid ((fun x => x.cell? ⟨M, 3, none⟩ = some (.int .i64 m.at_) ∧ x.heap[w.heap.size + 1]? = some (opOf (.mk 15 text num lo hi [k0, k1]) (.slice (some ⟨g1k, 0, none⟩) 2 c) ) ∧ x.heap[w.heap.size]? = some (ogOf ⟨0, (.mk 15 text num lo hi [k0, k1]), .slice (some ⟨g1k, 0, none⟩) 2 c, nx, fr⟩) ∧ Below w0.heap.size w0 x ∧ ElemAt x g1k 1 k1 (.slice kA1 k1.kids.length kc1)) w3) := Lib.hid ⟨(cells_s HI3.out.blk).2.2.2.1, (HI3.out.foreign _ List.mem_cons_self).blk, (HI3.out.foreign _ (List.mem_cons_of_mem _ List.mem_cons_self)).blk, HI3.out.below, HE1.out.later HG1.out (Below.mono (HI3.out.below) (Nat.le_refl _))⟩
  refine wpV_take 0 (some 172) (v := ?_) rfl rfl (by kernel_rfl) (fun _ _ _ h => h) rfl HS.out (fun x hx => ?_) ?_
  rotate_left 1
  · go_simp; first | done | with_reducible rfl | rw [if_neg (by omega)] | rw [if_pos (by omega)]
  simp only [Act.put, List.setIfInBounds_toArray, List.set_cons_zero, List.set_cons_succ]
  refine wpV_take 1 (some 173) (v := ?_) rfl rfl (by kernel_rfl) (fun _ _ _ h => h) rfl HS.out (fun x hx => ?_) ?_
  rotate_left 1
  · go_simp; first | done | with_reducible rfl | rw [if_neg (by omega)] | rw [if_pos (by omega)]
  simp only [Act.put, List.setIfInBounds_toArray, List.set_cons_zero, List.set_cons_succ]
  refine wpV_take 2 (some 174) (v := ?_) rfl rfl (by kernel_rfl) (fun _ _ _ h => h) rfl HS.out (fun x hx => ?_) ?_
  rotate_left 1
  · go_simp; first | done | with_reducible rfl | rw [if_neg (by omega)] | rw [if_pos (by omega)]
  simp only [Act.put, List.setIfInBounds_toArray, List.set_cons_zero, List.set_cons_succ]
  refine wpV_take 3 (some 175) (v := ?_) rfl rfl (by kernel_rfl) (fun _ _ _ h => h) rfl HS.out (fun x hx => ?_) ?_
  rotate_left 1
  · have s3 := hx.1; obtain ⟨p0, p1, p2, p3, p4, p5⟩ := cells_p hx.2.1; obtain ⟨q0, q1, q2, q3, q4, q5, q6, q7, q8⟩ := cells_q hx.2.2.1; simp only [Pat.op, Pat.text, Pat.num, Pat.lo, Pat.hi] at *; obtain ⟨e10, e11, e12, e13, e14, e15⟩ := hx.2.2.2.2; simp only [Nat.one_mul, Nat.reduceAdd] at e10 e11 e12 e13 e14 e15; go_simp; first | done | with_reducible rfl | rw [if_neg (by omega)] | rw [if_pos (by omega)]
  simp only [Act.put, List.setIfInBounds_toArray, List.set_cons_zero, List.set_cons_succ]
  refine wpV_take 4 (some 176) (v := ?_) rfl rfl (by kernel_rfl) (fun _ _ _ h => h) rfl HS.out (fun x hx => ?_) ?_
  rotate_left 1
  · go_simp; first | done | with_reducible rfl | rw [if_neg (by omega)] | rw [if_pos (by omega)]
  simp only [Act.put, List.setIfInBounds_toArray, List.set_cons_zero, List.set_cons_succ]
  refine wpV_take 5 (some 177) (v := ?_) rfl rfl (by kernel_rfl) (fun _ _ _ h => h) rfl HS.out (fun x hx => ?_) ?_
  rotate_left 1
  · have s3 := hx.1; obtain ⟨p0, p1, p2, p3, p4, p5⟩ := cells_p hx.2.1; obtain ⟨q0, q1, q2, q3, q4, q5, q6, q7, q8⟩ := cells_q hx.2.2.1; simp only [Pat.op, Pat.text, Pat.num, Pat.lo, Pat.hi] at *; obtain ⟨e10, e11, e12, e13, e14, e15⟩ := hx.2.2.2.2; simp only [Nat.one_mul, Nat.reduceAdd] at e10 e11 e12 e13 e14 e15; go_simp; first | done | with_reducible rfl | rw [if_neg (by omega)] | rw [if_pos (by omega)]
  simp only [Act.put, List.setIfInBounds_toArray, List.set_cons_zero, List.set_cons_succ]
  refine wpV_take 6 (some 178) (v := ?_) rfl rfl (by kernel_rfl) (fun _ _ _ h => h) rfl HS.out (fun x hx => ?_) ?_
  rotate_left 1
  · go_simp; first | done | with_reducible rfl | rw [if_neg (by omega)] | rw [if_pos (by omega)]
  simp only [Act.put, List.setIfInBounds_toArray, List.set_cons_zero, List.set_cons_succ]
  refine wpV_take 7 (some 179) (v := ?_) rfl rfl (by kernel_rfl) (fun _ _ _ h => h) rfl HS.out (fun x hx => ?_) ?_
  rotate_left 1
  · have s3 := hx.1; obtain ⟨p0, p1, p2, p3, p4, p5⟩ := cells_p hx.2.1; obtain ⟨q0, q1, q2, q3, q4, q5, q6, q7, q8⟩ := cells_q hx.2.2.1; simp only [Pat.op, Pat.text, Pat.num, Pat.lo, Pat.hi] at *; obtain ⟨e10, e11, e12, e13, e14, e15⟩ := hx.2.2.2.2; simp only [Nat.one_mul, Nat.reduceAdd] at e10 e11 e12 e13 e14 e15; go_simp; first | done | with_reducible rfl | rw [if_neg (by omega)] | rw [if_pos (by omega)]
  simp only [Act.put, List.setIfInBounds_toArray, List.set_cons_zero, List.set_cons_succ]
  refine wpV_take 8 (some 180) (v := ?_) rfl rfl (by kernel_rfl) (fun _ _ _ h => h) rfl HS.out (fun x hx => ?_) ?_
  rotate_left 1
  · go_simp; first | done | with_reducible rfl | rw [if_neg (by omega)] | rw [if_pos (by omega)]
  simp only [Act.put, List.setIfInBounds_toArray, List.set_cons_zero, List.set_cons_succ]
  refine wpV_take 10 (some 182) (v := ?_) rfl rfl (by kernel_rfl) (fun _ _ _ h => h) rfl HS.out (fun x hx => ?_) ?_
  rotate_left 1
  · go_simp; first | done | with_reducible rfl | rw [if_neg (by omega)] | rw [if_pos (by omega)]
  simp only [Act.put, List.setIfInBounds_toArray, List.set_cons_zero, List.set_cons_succ]
  refine wpV_take 11 (some 183) (v := ?_) rfl rfl (by kernel_rfl) (fun _ _ _ h => h) rfl HS.out (fun x hx => ?_) ?_
  rotate_left 1
  · go_simp; first | done | with_reducible rfl | rw [if_neg (by omega)] | rw [if_pos (by omega)]
  simp only [Act.put, List.setIfInBounds_toArray, List.set_cons_zero, List.set_cons_succ]
  refine wpV_take 12 (some 184) (v := ?_) rfl rfl (by kernel_rfl) (fun _ _ _ h => h) rfl HS.out (fun x hx => ?_) ?_
  rotate_left 1
  · go_simp; first | done | with_reducible rfl | rw [if_neg (by omega)] | rw [if_pos (by omega)]
  simp only [Act.put, List.setIfInBounds_toArray, List.set_cons_zero, List.set_cons_succ]
  refine wpV_take 13 (some 185) (v := ?_) rfl rfl (by kernel_rfl) (fun _ _ _ h => h) rfl HS.out (fun x hx => ?_) ?_
  rotate_left 1
  · have s3 := hx.1; obtain ⟨p0, p1, p2, p3, p4, p5⟩ := cells_p hx.2.1; obtain ⟨q0, q1, q2, q3, q4, q5, q6, q7, q8⟩ := cells_q hx.2.2.1; simp only [Pat.op, Pat.text, Pat.num, Pat.lo, Pat.hi] at *; obtain ⟨e10, e11, e12, e13, e14, e15⟩ := hx.2.2.2.2; simp only [Nat.one_mul, Nat.reduceAdd] at e10 e11 e12 e13 e14 e15; go_simp; first | done | with_reducible rfl | rw [if_neg (by omega)] | rw [if_pos (by omega)]
  simp only [Act.put, List.setIfInBounds_toArray, List.set_cons_zero, List.set_cons_succ]
  refine wpV_step 9 (by kernel_rfl) rfl rfl ?_  -- call value (Go.Operand.func 70)
  go_wp2_with fail
  refine (push_at HI3.out 0 k1 kA1 kc1 nx 0 HK1.out (by omega) _ rfl).mono ?_
  rintro e w4 ⟨rfl, gv4, hI4⟩
  obtain ⟨gA4, gc4, rfl, _, _⟩ := hI4.goals.form
  have HI4 := Lib.hid hI4
  clear hI4
  go_wp2_with fail
  clear HS
  have HS : Hid ((fun x => x.cell? ⟨M, 3, none⟩ = some (.int .i64 m.at_) ∧ x.heap[w.heap.size + 1]? = some (opOf (.mk 15 text num lo hi [k0, k1]) (.slice (some ⟨g1k, 0, none⟩) 2 c) ) ∧ x.heap[w.heap.size]? = some (ogOf ⟨0, (.mk 15 text num lo hi [k0, k1]), .slice (some ⟨g1k, 0, none⟩) 2 c, nx, fr⟩) ∧ Below w0.heap.size w0 x ∧ ElemAt x g1k 1 k1 (.slice kA1 k1.kids.length kc1)) w4) := Lib.hid ⟨(cells_s HI4.out.blk).2.2.2.1, (HI4.out.foreign _ List.mem_cons_self).blk, (HI4.out.foreign _ (List.mem_cons_of_mem _ List.mem_cons_self)).blk, HI4.out.below, HE1.out.later HG1.out (Below.mono (HI4.out.below) (Nat.le_refl _))⟩
  refine ⟨HS.out, ?_⟩
  refine wpV_last [_] (by kernel_rfl) rfl rfl ?_
  simp only [List.getElem_toArray, List.getElem_cons_succ, List.getElem_cons_zero]
  go_wp2_with fail
  refine (later_any HI4.out ⟨false, ⟨0, k1, 0⟩ :: gs, m.at_, m.caps.length⟩ gl.length _ rfl rfl (.inr ⟨rfl, Chain.push ⟨0, k1, _, nx, 0⟩ ⟨0, k1, 0⟩ HCH.out rfl rfl rfl⟩) (by omega)).mono ?_
  clear HS
  rintro e w5 ⟨rfl, hv5, hs5, hI5⟩
  obtain ⟨hA5, hc5, rfl, _, _⟩ := hI5.chs.form
  have HI5 := Lib.hid hI5
  clear hI5
  go_wp2_with fail
  -- region 33: 13 operations, the last [9, 10, 11, 12]
  refine wpU_begin [9, 10, 11, 12] [0] (by kernel_rfl) (fun w6 hw6 => ?_)
  have HI6 := Lib.hid (HI5.out.later (drew_later hw6))
  clear hw6
  obtain ⟨g0k, kA0, kc0, hA0, hk0, he0⟩ := kid_cells HR.out (j := 0) (by simp) HI6.out.below
  simp only [List.getElem_cons_zero] at hk0 he0
  have HK0 := Lib.hid hk0
  have HE0 := Lib.hid he0
  clear hk0 he0
  obtain rfl : g1k = g0k := by cases hA0; rfl
  clear hA0
  refine wpU_pure 0 (some 187) (v := ?_) rfl rfl (by kernel_rfl) (fun _ _ _ h => h) rfl (fun x => ?_) ?_
  rotate_left 1
  · go_simp; first | done | with_reducible rfl | rw [if_neg (by omega)] | rw [if_pos (by omega)]
  simp only [Act.put, List.setIfInBounds_toArray, List.set_cons_zero, List.set_cons_succ]
  refine wpU_take 1 (some 188) (v := ?_) rfl rfl (by kernel_rfl) (fun _ _ _ h => h) rfl (fun x hx => ?_) ?_
  rotate_left 1
  · go_simp; first | done | with_reducible rfl | rw [if_neg (by omega)] | rw [if_pos (by omega)]
  simp only [Act.put, List.setIfInBounds_toArray, List.set_cons_zero, List.set_cons_succ]
  refine wpU_take 2 (some 189) (v := ?_) rfl rfl (by kernel_rfl) (fun _ _ _ h => h) rfl (fun x hx => ?_) ?_
  rotate_left 1
  · go_simp; first | done | with_reducible rfl | rw [if_neg (by omega)] | rw [if_pos (by omega)]
  simp only [Act.put, List.setIfInBounds_toArray, List.set_cons_zero, List.set_cons_succ]
  refine wpU_take 3 (some 190) (v := ?_) rfl rfl (by kernel_rfl) (fun _ _ _ h => h) rfl (fun x hx => ?_) ?_
  rotate_left 1
  · obtain ⟨s0, s1, s2, s3, s4, s5⟩ := cells_s (hx.has HI6.out.blk); obtain ⟨p0, p1, p2, p3, p4, p5⟩ := cells_p (hx.has (HI6.out.foreign _ List.mem_cons_self).blk); obtain ⟨q0, q1, q2, q3, q4, q5, q6, q7, q8⟩ := cells_q (hx.has (HI6.out.foreign _ (List.mem_cons_of_mem _ List.mem_cons_self)).blk); simp only [Pat.op, Pat.text, Pat.num, Pat.lo, Pat.hi] at *; obtain ⟨e00, e01, e02, e03, e04, e05⟩ := HE0.out.below hx; simp only [Nat.zero_mul, Nat.zero_add] at e00 e01 e02 e03 e04 e05; go_simp; first | done | with_reducible rfl | rw [if_neg (by omega)] | rw [if_pos (by omega)]
  simp only [Act.put, List.setIfInBounds_toArray, List.set_cons_zero, List.set_cons_succ]
  refine wpU_take 4 (some 191) (v := ?_) rfl rfl (by kernel_rfl) (fun _ _ _ h => h) rfl (fun x hx => ?_) ?_
  rotate_left 1
  · go_simp; first | done | with_reducible rfl | rw [if_neg (by omega)] | rw [if_pos (by omega)]
  simp only [Act.put, List.setIfInBounds_toArray, List.set_cons_zero, List.set_cons_succ]
  refine wpU_take 5 (some 192) (v := ?_) rfl rfl (by kernel_rfl) (fun _ _ _ h => h) rfl (fun x hx => ?_) ?_
  rotate_left 1
  · obtain ⟨s0, s1, s2, s3, s4, s5⟩ := cells_s (hx.has HI6.out.blk); obtain ⟨p0, p1, p2, p3, p4, p5⟩ := cells_p (hx.has (HI6.out.foreign _ List.mem_cons_self).blk); obtain ⟨q0, q1, q2, q3, q4, q5, q6, q7, q8⟩ := cells_q (hx.has (HI6.out.foreign _ (List.mem_cons_of_mem _ List.mem_cons_self)).blk); simp only [Pat.op, Pat.text, Pat.num, Pat.lo, Pat.hi] at *; obtain ⟨e00, e01, e02, e03, e04, e05⟩ := HE0.out.below hx; simp only [Nat.zero_mul, Nat.zero_add] at e00 e01 e02 e03 e04 e05; go_simp; first | done | with_reducible rfl | rw [if_neg (by omega)] | rw [if_pos (by omega)]
  simp only [Act.put, List.setIfInBounds_toArray, List.set_cons_zero, List.set_cons_succ]
  refine wpU_take 6 (some 193) (v := ?_) rfl rfl (by kernel_rfl) (fun _ _ _ h => h) rfl (fun x hx => ?_) ?_
  rotate_left 1
  · go_simp; first | done | with_reducible rfl | rw [if_neg (by omega)] | rw [if_pos (by omega)]
  simp only [Act.put, List.setIfInBounds_toArray, List.set_cons_zero, List.set_cons_succ]
  refine wpU_take 7 (some 194) (v := ?_) rfl rfl (by kernel_rfl) (fun _ _ _ h => h) rfl (fun x hx => ?_) ?_
  rotate_left 1
  · obtain ⟨s0, s1, s2, s3, s4, s5⟩ := cells_s (hx.has HI6.out.blk); obtain ⟨p0, p1, p2, p3, p4, p5⟩ := cells_p (hx.has (HI6.out.foreign _ List.mem_cons_self).blk); obtain ⟨q0, q1, q2, q3, q4, q5, q6, q7, q8⟩ := cells_q (hx.has (HI6.out.foreign _ (List.mem_cons_of_mem _ List.mem_cons_self)).blk); simp only [Pat.op, Pat.text, Pat.num, Pat.lo, Pat.hi] at *; obtain ⟨e00, e01, e02, e03, e04, e05⟩ := HE0.out.below hx; simp only [Nat.zero_mul, Nat.zero_add] at e00 e01 e02 e03 e04 e05; go_simp; first | done | with_reducible rfl | rw [if_neg (by omega)] | rw [if_pos (by omega)]
  simp only [Act.put, List.setIfInBounds_toArray, List.set_cons_zero, List.set_cons_succ]
  refine wpU_take 8 (some 195) (v := ?_) rfl rfl (by kernel_rfl) (fun _ _ _ h => h) rfl (fun x hx => ?_) ?_
  rotate_left 1
  · go_simp; first | done | with_reducible rfl | rw [if_neg (by omega)] | rw [if_pos (by omega)]
  simp only [Act.put, List.setIfInBounds_toArray, List.set_cons_zero, List.set_cons_succ]
  refine wpU_last [_, _, _, _] (by kernel_rfl) rfl rfl ?_
  simp only [List.getElem_toArray, List.getElem_cons_succ, List.getElem_cons_zero]
  go_wp2_with fail
  refine (push_at HI6.out 0 k0 kA0 kc0 nx 0 HK0.out (by simp; omega) _ rfl).mono ?_
  rintro e w7 ⟨rfl, gv7, hI7⟩
  obtain ⟨gA7, gc7, rfl, _, _⟩ := hI7.goals.form
  have HI7 := Lib.hid hI7
  clear hI7
  obtain ⟨s0, s1, s2, s3, s4, s5⟩ := cells_s HI7.out.blk
  have f2 := frozen_of_row w7 M 2 _ _ HI7.out.blk
  have hint : ((gl.length : Int) + 1) ≤ 90001 := by omega
  go_wp2_with fail
  go_ret
  refine sdid_go (m' := m.choose (⟨0, k1, 0⟩ :: gs) m.at_) (HI7.out.setGoal ((gl.length : Int) + 1)) ?_ (by simp)
  have hc := Chain.push ⟨0, k0, .slice kA0 k0.kids.length kc0, nx, 0⟩ ⟨0, k0, 0⟩ (HCH.out.more [⟨0, k1, .slice kA1 k1.kids.length kc1, nx, 0⟩] gs nx) rfl rfl rfl
  rw [show (((gl ++ [(⟨0, k1, .slice kA1 k1.kids.length kc1, nx, 0⟩ : SG)]).length : Nat) : Int) = (gl.length : Int) + 1 by simp] at hc
  exact hc

end Go.Proofs.Ytndefbecoahfhaa
