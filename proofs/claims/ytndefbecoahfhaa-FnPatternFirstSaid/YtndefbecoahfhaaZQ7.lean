/- Part of the walks that the claim stands on. -/
import Derived.Test.YtndefbecoahfhaaZQ6

/- spec's l20Step. Printed by gen_sstep.py. -/
namespace Go.Proofs.Ytndefbecoahfhaa
open Go.RowKit

set_option maxRecDepth 100000 in
set_option maxHeartbeats 1000000 in
theorem sstep_cat {w0 w : World} {M : Nat} {m : Mst} {gl : List SG} {gv hv cv ev : Value} {hs : List Value} {text : ByteArray} {num lo hi : Int} {k0 k1 : Pat} {A : Option Addr} {c : Nat} {fr nx : Int} {gs : List Goal} {j : Nat} {s : ByteArray} {dv : Value} 
    (h : SpecAt w0 w [] M m gl (j : Int) m.at_ gv hv cv ev hs) (hj : gl[j]? = some ⟨0, .mk 14 text num lo hi [k0, k1], .slice A 2 c, nx, fr⟩) (hch : Chain gl nx gs) (hlen : gl.length ≤ 90000) :
    Calls Try.prog 71 #[.pointer (some ⟨M, 0, none⟩), dv, .string s] w (SDid w0 M m gl.length (.go (⟨0, k0, 0⟩ :: ⟨0, k1, 0⟩ :: gs) m)) := by
  have hblk := h.blk
  obtain ⟨g0, gc, rfl⟩ := goal_row h hj
  obtain ⟨hA, hc, rfl, _, _⟩ := h.chs.form
  obtain ⟨cA, cc, rfl, _, _⟩ := h.caps.form
  obtain ⟨eA, ec, rfl, _, _⟩ := h.evs.form
  obtain ⟨s0, s1, s2, s3, s4, s5⟩ := cells_s hblk
  have fs2 := frozen_of_row w M 2 _ _ hblk
  have hMlt := has_lt hblk
  obtain ⟨q0, q1, q2, q3, q4, q5, q6, q7, q8⟩ := goal_cells h hj
  simp only [Pat.op, Pat.text, Pat.num, Pat.lo, Pat.hi] at q1 q2 q3 q4 q5
  have hjl : j < gl.length := (List.getElem?_eq_some_iff.1 hj).1
  have hjl' : (j : Int) < gl.length := by omega
  have hkid : KidsIn w0 (.mk 14 text num lo hi [k0, k1]) (.slice A 2 c) := h.kids _ (List.mem_of_getElem? hj)
  have HKID := Lib.hid hkid
  have HR := Lib.hid (kids_row hkid)
  have HCH := Lib.hid hch
  have HJ := Lib.hid hj
  have HI2 := Lib.hid (h.enter (ogOf ⟨0, .mk 14 text num lo hi [k0, k1], .slice A 2 c, nx, fr⟩) (opOf (.mk 14 text num lo hi [k0, k1]) (.slice A 2 c)) nx)
  have hbel := h.below.size
  clear h hblk hkid hch hj
  go_enter Try.func71, Try.ntmps71
  go_wp2_with fail
  clear s0 s1 s2 s3 s4 s5 q0 q1 q2 q3 q4 q5 q6 q7 q8 fs2
  -- region 28: 10 operations, the last [8, 9]
  refine wpU_begin [8, 9] [] (by kernel_rfl) (fun w3 hw3 => ?_)
  have HI3 := Lib.hid (HI2.out.later (drew_later hw3))
  clear hw3
  obtain ⟨g1k, kA1, kc1, hA1, hk1, he1⟩ := kid_cells HR.out (j := 1) (by simp) HI3.out.below
  simp only [List.getElem_cons_succ, List.getElem_cons_zero] at hk1 he1
  have HK1 := Lib.hid hk1
  have HE1 := Lib.hid he1
  clear hk1 he1
  subst hA1
  refine wpU_take 0 (some 150) (v := ?_) rfl rfl (by kernel_rfl) (fun _ _ _ h => h) rfl (fun x hx => ?_) ?_
  rotate_left 1
  · go_simp; first | done | with_reducible rfl | rw [if_neg (by omega)] | rw [if_pos (by omega)]
  simp only [Act.put, nA, nB, nC]
  refine wpU_take 1 (some 151) (v := ?_) rfl rfl (by kernel_rfl) (fun _ _ _ h => h) rfl (fun x hx => ?_) ?_
  rotate_left 1
  · go_simp; first | done | with_reducible rfl | rw [if_neg (by omega)] | rw [if_pos (by omega)]
  simp only [Act.put, nA, nB, nC]
  refine wpU_take 2 (some 152) (v := ?_) rfl rfl (by kernel_rfl) (fun _ _ _ h => h) rfl (fun x hx => ?_) ?_
  rotate_left 1
  · obtain ⟨s0, s1, s2, s3, s4, s5⟩ := cells_s (hx.has HI3.out.blk); obtain ⟨p0, p1, p2, p3, p4, p5⟩ := cells_p (hx.has (HI3.out.foreign _ List.mem_cons_self).blk); obtain ⟨q0, q1, q2, q3, q4, q5, q6, q7, q8⟩ := cells_q (hx.has (HI3.out.foreign _ (List.mem_cons_of_mem _ List.mem_cons_self)).blk); simp only [Pat.op, Pat.text, Pat.num, Pat.lo, Pat.hi] at *; obtain ⟨e10, e11, e12, e13, e14, e15⟩ := HE1.out.below hx; simp only [Nat.one_mul, Nat.reduceAdd] at e10 e11 e12 e13 e14 e15; go_simp; first | done | with_reducible rfl | rw [if_neg (by omega)] | rw [if_pos (by omega)]
  simp only [Act.put, nA, nB, nC]
  refine wpU_take 3 (some 153) (v := ?_) rfl rfl (by kernel_rfl) (fun _ _ _ h => h) rfl (fun x hx => ?_) ?_
  rotate_left 1
  · go_simp; first | done | with_reducible rfl | rw [if_neg (by omega)] | rw [if_pos (by omega)]
  simp only [Act.put, nA, nB, nC]
  refine wpU_take 4 (some 154) (v := ?_) rfl rfl (by kernel_rfl) (fun _ _ _ h => h) rfl (fun x hx => ?_) ?_
  rotate_left 1
  · obtain ⟨s0, s1, s2, s3, s4, s5⟩ := cells_s (hx.has HI3.out.blk); obtain ⟨p0, p1, p2, p3, p4, p5⟩ := cells_p (hx.has (HI3.out.foreign _ List.mem_cons_self).blk); obtain ⟨q0, q1, q2, q3, q4, q5, q6, q7, q8⟩ := cells_q (hx.has (HI3.out.foreign _ (List.mem_cons_of_mem _ List.mem_cons_self)).blk); simp only [Pat.op, Pat.text, Pat.num, Pat.lo, Pat.hi] at *; obtain ⟨e10, e11, e12, e13, e14, e15⟩ := HE1.out.below hx; simp only [Nat.one_mul, Nat.reduceAdd] at e10 e11 e12 e13 e14 e15; go_simp; first | done | with_reducible rfl | rw [if_neg (by omega)] | rw [if_pos (by omega)]
  simp only [Act.put, nA, nB, nC]
  refine wpU_take 5 (some 155) (v := ?_) rfl rfl (by kernel_rfl) (fun _ _ _ h => h) rfl (fun x hx => ?_) ?_
  rotate_left 1
  · go_simp; first | done | with_reducible rfl | rw [if_neg (by omega)] | rw [if_pos (by omega)]
  simp only [Act.put, nA, nB, nC]
  refine wpU_take 6 (some 156) (v := ?_) rfl rfl (by kernel_rfl) (fun _ _ _ h => h) rfl (fun x hx => ?_) ?_
  rotate_left 1
  · obtain ⟨s0, s1, s2, s3, s4, s5⟩ := cells_s (hx.has HI3.out.blk); obtain ⟨p0, p1, p2, p3, p4, p5⟩ := cells_p (hx.has (HI3.out.foreign _ List.mem_cons_self).blk); obtain ⟨q0, q1, q2, q3, q4, q5, q6, q7, q8⟩ := cells_q (hx.has (HI3.out.foreign _ (List.mem_cons_of_mem _ List.mem_cons_self)).blk); simp only [Pat.op, Pat.text, Pat.num, Pat.lo, Pat.hi] at *; obtain ⟨e10, e11, e12, e13, e14, e15⟩ := HE1.out.below hx; simp only [Nat.one_mul, Nat.reduceAdd] at e10 e11 e12 e13 e14 e15; go_simp; first | done | with_reducible rfl | rw [if_neg (by omega)] | rw [if_pos (by omega)]
  simp only [Act.put, nA, nB, nC]
  refine wpU_take 7 (some 157) (v := ?_) rfl rfl (by kernel_rfl) (fun _ _ _ h => h) rfl (fun x hx => ?_) ?_
  rotate_left 1
  · go_simp; first | done | with_reducible rfl | rw [if_neg (by omega)] | rw [if_pos (by omega)]
  simp only [Act.put, nA, nB, nC]
  refine wpU_last [_, _] (by kernel_rfl) rfl rfl ?_
  simp only [List.getElem_toArray, List.getElem_cons_succ, List.getElem_cons_zero]
  go_wp2_with fail
  refine (push_at HI3.out 0 k1 kA1 kc1 nx 0 HK1.out (by omega) _ rfl).mono ?_
  rintro e w4 ⟨rfl, gv4, hI4⟩
  obtain ⟨gA4, gc4, rfl, _, _⟩ := hI4.goals.form
  have HI4 := Lib.hid hI4
  clear hI4
  obtain ⟨g0k, kA0, kc0, hA0, hk0, he0⟩ := kid_cells HR.out (j := 0) (by simp) HI4.out.below
  simp only [List.getElem_cons_zero] at hk0 he0
  have HK0 := Lib.hid hk0
  have HE0 := Lib.hid he0
  clear hk0 he0
  obtain rfl : g1k = g0k := by cases hA0; rfl
  clear hA0
  obtain ⟨s0, s1, s2, s3, s4, s5⟩ := cells_s HI4.out.blk
  obtain ⟨p0, p1, p2, p3, p4, p5⟩ := cells_p (HI4.out.foreign _ List.mem_cons_self).blk
  obtain ⟨q0, q1, q2, q3, q4, q5, q6, q7, q8⟩ := cells_q (HI4.out.foreign _ (List.mem_cons_of_mem _ List.mem_cons_self)).blk
  simp only [Pat.op, Pat.text, Pat.num, Pat.lo, Pat.hi] at p0 p1 p2 p3 p4 q1 q2 q3 q4 q5
  obtain ⟨e00, e01, e02, e03, e04, e05⟩ := HE0.out
  simp only [Nat.zero_mul, Nat.zero_add] at e00 e01 e02 e03 e04 e05
  go_wp2_with fail
  refine (push_at HI4.out 0 k0 kA0 kc0 gl.length 0 HK0.out (by simp; omega) _ rfl).mono ?_
  clear s0 s1 s2 s3 s4 s5 p0 p1 p2 p3 p4 p5 q0 q1 q2 q3 q4 q5 q6 q7 q8
  rintro e w5 ⟨rfl, gv5, hI5⟩
  obtain ⟨gA5, gc5, rfl, _, _⟩ := hI5.goals.form
  have HI5 := Lib.hid hI5
  clear hI5
  obtain ⟨s0, s1, s2, s3, s4, s5⟩ := cells_s HI5.out.blk
  have f2 := frozen_of_row w5 M 2 _ _ HI5.out.blk
  have hint : ((gl.length : Int) + 1) ≤ 90001 := by omega
  go_wp2_with fail
  go_ret
  exact sdid_go (HI5.out.setGoal ((gl.length : Int) + 1)) (Chain.push2 ⟨0, k1, _, nx, 0⟩ ⟨0, k0, _, gl.length, 0⟩ ⟨0, k1, 0⟩ ⟨0, k0, 0⟩ HCH.out rfl rfl rfl rfl rfl rfl rfl) (by simp)

set_option maxRecDepth 100000 in
set_option maxHeartbeats 1000000 in
theorem sstep_assign {w0 w : World} {M : Nat} {m : Mst} {gl : List SG} {gv hv cv ev : Value} {hs : List Value} {text : ByteArray} {num lo hi : Int} {k0 : Pat} {A : Option Addr} {c : Nat} {fr nx : Int} {gs : List Goal} {j : Nat} {s : ByteArray} {dv : Value} 
    (h : SpecAt w0 w [] M m gl (j : Int) m.at_ gv hv cv ev hs) (hj : gl[j]? = some ⟨0, .mk 16 text num lo hi [k0], .slice A 1 c, nx, fr⟩) (hch : Chain gl nx gs) (hlen : gl.length ≤ 90000) :
    Calls Try.prog 71 #[.pointer (some ⟨M, 0, none⟩), dv, .string s] w (SDid w0 M m gl.length (.go (⟨0, k0, 0⟩ :: ⟨1, (.mk 16 text num lo hi [k0]), m.at_⟩ :: gs) m)) := by
  have hblk := h.blk
  obtain ⟨g0, gc, rfl⟩ := goal_row h hj
  obtain ⟨hA, hc, rfl, _, _⟩ := h.chs.form
  obtain ⟨cA, cc, rfl, _, _⟩ := h.caps.form
  obtain ⟨eA, ec, rfl, _, _⟩ := h.evs.form
  obtain ⟨s0, s1, s2, s3, s4, s5⟩ := cells_s hblk
  have fs2 := frozen_of_row w M 2 _ _ hblk
  have hMlt := has_lt hblk
  obtain ⟨q0, q1, q2, q3, q4, q5, q6, q7, q8⟩ := goal_cells h hj
  simp only [Pat.op, Pat.text, Pat.num, Pat.lo, Pat.hi] at q1 q2 q3 q4 q5
  have hjl : j < gl.length := (List.getElem?_eq_some_iff.1 hj).1
  have hjl' : (j : Int) < gl.length := by omega
  have hkid : KidsIn w0 (.mk 16 text num lo hi [k0]) (.slice A 1 c) := h.kids _ (List.mem_of_getElem? hj)
  have HKID := Lib.hid hkid
  have HR := Lib.hid (kids_row hkid)
  have HCH := Lib.hid hch
  have HJ := Lib.hid hj
  have HI2 := Lib.hid (h.enter (ogOf ⟨0, .mk 16 text num lo hi [k0], .slice A 1 c, nx, fr⟩) (opOf (.mk 16 text num lo hi [k0]) (.slice A 1 c)) nx)
  have hbel := h.below.size
  clear h hblk hkid hch hj
  go_enter Try.func71, Try.ntmps71
  go_wp2_with fail
  clear s0 s1 s2 s3 s4 s5 q0 q1 q2 q3 q4 q5 q6 q7 q8 fs2
  -- region 37: 14 operations, the last [12, 13]
  refine wpU_begin [12, 13] [] (by kernel_rfl) (fun w3 hw3 => ?_)
  have HI3 := Lib.hid (HI2.out.later (drew_later hw3))
  clear hw3
  refine wpU_take 0 (some 202) (v := ?_) rfl rfl (by kernel_rfl) (fun _ _ _ h => h) rfl (fun x hx => ?_) ?_
  rotate_left 1
  · go_simp; first | done | with_reducible rfl | rw [if_neg (by omega)] | rw [if_pos (by omega)]
  simp only [Act.put, nA, nB, nC]
  refine wpU_take 1 (some 203) (v := ?_) rfl rfl (by kernel_rfl) (fun _ _ _ h => h) rfl (fun x hx => ?_) ?_
  rotate_left 1
  · go_simp; first | done | with_reducible rfl | rw [if_neg (by omega)] | rw [if_pos (by omega)]
  simp only [Act.put, nA, nB, nC]
  refine wpU_take 2 (some 204) (v := ?_) rfl rfl (by kernel_rfl) (fun _ _ _ h => h) rfl (fun x hx => ?_) ?_
  rotate_left 1
  · obtain ⟨s0, s1, s2, s3, s4, s5⟩ := cells_s (hx.has HI3.out.blk); obtain ⟨p0, p1, p2, p3, p4, p5⟩ := cells_p (hx.has (HI3.out.foreign _ List.mem_cons_self).blk); obtain ⟨q0, q1, q2, q3, q4, q5, q6, q7, q8⟩ := cells_q (hx.has (HI3.out.foreign _ (List.mem_cons_of_mem _ List.mem_cons_self)).blk); simp only [Pat.op, Pat.text, Pat.num, Pat.lo, Pat.hi] at *; go_simp; first | done | with_reducible rfl | rw [if_neg (by omega)] | rw [if_pos (by omega)]
  simp only [Act.put, nA, nB, nC]
  refine wpU_take 3 (some 205) (v := ?_) rfl rfl (by kernel_rfl) (fun _ _ _ h => h) rfl (fun x hx => ?_) ?_
  rotate_left 1
  · go_simp; first | done | with_reducible rfl | rw [if_neg (by omega)] | rw [if_pos (by omega)]
  simp only [Act.put, nA, nB, nC]
  refine wpU_take 4 (some 206) (v := ?_) rfl rfl (by kernel_rfl) (fun _ _ _ h => h) rfl (fun x hx => ?_) ?_
  rotate_left 1
  · obtain ⟨s0, s1, s2, s3, s4, s5⟩ := cells_s (hx.has HI3.out.blk); obtain ⟨p0, p1, p2, p3, p4, p5⟩ := cells_p (hx.has (HI3.out.foreign _ List.mem_cons_self).blk); obtain ⟨q0, q1, q2, q3, q4, q5, q6, q7, q8⟩ := cells_q (hx.has (HI3.out.foreign _ (List.mem_cons_of_mem _ List.mem_cons_self)).blk); simp only [Pat.op, Pat.text, Pat.num, Pat.lo, Pat.hi] at *; go_simp; first | done | with_reducible rfl | rw [if_neg (by omega)] | rw [if_pos (by omega)]
  simp only [Act.put, nA, nB, nC]
  refine wpU_take 5 (some 207) (v := ?_) rfl rfl (by kernel_rfl) (fun _ _ _ h => h) rfl (fun x hx => ?_) ?_
  rotate_left 1
  · go_simp; first | done | with_reducible rfl | rw [if_neg (by omega)] | rw [if_pos (by omega)]
  simp only [Act.put, nA, nB, nC]
  refine wpU_take 6 (some 208) (v := ?_) rfl rfl (by kernel_rfl) (fun _ _ _ h => h) rfl (fun x hx => ?_) ?_
  rotate_left 1
  · obtain ⟨s0, s1, s2, s3, s4, s5⟩ := cells_s (hx.has HI3.out.blk); obtain ⟨p0, p1, p2, p3, p4, p5⟩ := cells_p (hx.has (HI3.out.foreign _ List.mem_cons_self).blk); obtain ⟨q0, q1, q2, q3, q4, q5, q6, q7, q8⟩ := cells_q (hx.has (HI3.out.foreign _ (List.mem_cons_of_mem _ List.mem_cons_self)).blk); simp only [Pat.op, Pat.text, Pat.num, Pat.lo, Pat.hi] at *; go_simp; first | done | with_reducible rfl | rw [if_neg (by omega)] | rw [if_pos (by omega)]
  simp only [Act.put, nA, nB, nC]
  refine wpU_take 7 (some 209) (v := ?_) rfl rfl (by kernel_rfl) (fun _ _ _ h => h) rfl (fun x hx => ?_) ?_
  rotate_left 1
  · go_simp; first | done | with_reducible rfl | rw [if_neg (by omega)] | rw [if_pos (by omega)]
  simp only [Act.put, nA, nB, nC]
  refine wpU_take 8 (some 210) (v := ?_) rfl rfl (by kernel_rfl) (fun _ _ _ h => h) rfl (fun x hx => ?_) ?_
  rotate_left 1
  · go_simp; first | done | with_reducible rfl | rw [if_neg (by omega)] | rw [if_pos (by omega)]
  simp only [Act.put, nA, nB, nC]
  refine wpU_take 9 (some 211) (v := ?_) rfl rfl (by kernel_rfl) (fun _ _ _ h => h) rfl (fun x hx => ?_) ?_
  rotate_left 1
  · go_simp; first | done | with_reducible rfl | rw [if_neg (by omega)] | rw [if_pos (by omega)]
  simp only [Act.put, nA, nB, nC]
  refine wpU_take 10 (some 212) (v := ?_) rfl rfl (by kernel_rfl) (fun _ _ _ h => h) rfl (fun x hx => ?_) ?_
  rotate_left 1
  · obtain ⟨s0, s1, s2, s3, s4, s5⟩ := cells_s (hx.has HI3.out.blk); obtain ⟨p0, p1, p2, p3, p4, p5⟩ := cells_p (hx.has (HI3.out.foreign _ List.mem_cons_self).blk); obtain ⟨q0, q1, q2, q3, q4, q5, q6, q7, q8⟩ := cells_q (hx.has (HI3.out.foreign _ (List.mem_cons_of_mem _ List.mem_cons_self)).blk); simp only [Pat.op, Pat.text, Pat.num, Pat.lo, Pat.hi] at *; go_simp; first | done | with_reducible rfl | rw [if_neg (by omega)] | rw [if_pos (by omega)]
  simp only [Act.put, nA, nB, nC]
  refine wpU_take 11 (some 213) (v := ?_) rfl rfl (by kernel_rfl) (fun _ _ _ h => h) rfl (fun x hx => ?_) ?_
  rotate_left 1
  · go_simp; first | done | with_reducible rfl | rw [if_neg (by omega)] | rw [if_pos (by omega)]
  simp only [Act.put, nA, nB, nC]
  refine wpU_last [_, _] (by kernel_rfl) rfl rfl ?_
  simp only [List.getElem_toArray, List.getElem_cons_succ, List.getElem_cons_zero]
  go_wp2_with fail
  refine (push_at HI3.out 1 (.mk 16 text num lo hi [k0]) A c nx m.at_ HKID.out (by omega) _ rfl).mono ?_
  rintro e w4 ⟨rfl, gv4, hI4⟩
  obtain ⟨gA4, gc4, rfl, _, _⟩ := hI4.goals.form
  have HI4 := Lib.hid hI4
  clear hI4
  obtain ⟨g0k, kA0, kc0, hA0, hk0, he0⟩ := kid_cells HR.out (j := 0) (by simp) HI4.out.below
  simp only [List.getElem_cons_zero] at hk0 he0
  have HK0 := Lib.hid hk0
  have HE0 := Lib.hid he0
  clear hk0 he0
  subst hA0
  obtain ⟨s0, s1, s2, s3, s4, s5⟩ := cells_s HI4.out.blk
  obtain ⟨p0, p1, p2, p3, p4, p5⟩ := cells_p (HI4.out.foreign _ List.mem_cons_self).blk
  obtain ⟨q0, q1, q2, q3, q4, q5, q6, q7, q8⟩ := cells_q (HI4.out.foreign _ (List.mem_cons_of_mem _ List.mem_cons_self)).blk
  simp only [Pat.op, Pat.text, Pat.num, Pat.lo, Pat.hi] at p0 p1 p2 p3 p4 q1 q2 q3 q4 q5
  obtain ⟨e00, e01, e02, e03, e04, e05⟩ := HE0.out
  simp only [Nat.zero_mul, Nat.zero_add] at e00 e01 e02 e03 e04 e05
  go_wp2_with fail
  refine (push_at HI4.out 0 k0 kA0 kc0 gl.length 0 HK0.out (by simp; omega) _ rfl).mono ?_
  clear s0 s1 s2 s3 s4 s5 p0 p1 p2 p3 p4 p5 q0 q1 q2 q3 q4 q5 q6 q7 q8
  rintro e w5 ⟨rfl, gv5, hI5⟩
  obtain ⟨gA5, gc5, rfl, _, _⟩ := hI5.goals.form
  have HI5 := Lib.hid hI5
  clear hI5
  obtain ⟨s0, s1, s2, s3, s4, s5⟩ := cells_s HI5.out.blk
  have f2 := frozen_of_row w5 M 2 _ _ HI5.out.blk
  have hint : ((gl.length : Int) + 1) ≤ 90001 := by omega
  go_wp2_with fail
  go_ret
  exact sdid_go (HI5.out.setGoal ((gl.length : Int) + 1)) (Chain.push2 ⟨1, (.mk 16 text num lo hi [k0]), _, nx, m.at_⟩ ⟨0, k0, _, gl.length, 0⟩ ⟨1, (.mk 16 text num lo hi [k0]), m.at_⟩ ⟨0, k0, 0⟩ HCH.out rfl rfl rfl rfl rfl rfl rfl) (by simp)

set_option maxRecDepth 100000 in
set_option maxHeartbeats 1000000 in
theorem sstep_immediate {w0 w : World} {M : Nat} {m : Mst} {gl : List SG} {gv hv cv ev : Value} {hs : List Value} {text : ByteArray} {num lo hi : Int} {k0 : Pat} {A : Option Addr} {c : Nat} {fr nx : Int} {gs : List Goal} {j : Nat} {s : ByteArray} {dv : Value} 
    (h : SpecAt w0 w [] M m gl (j : Int) m.at_ gv hv cv ev hs) (hj : gl[j]? = some ⟨0, .mk 17 text num lo hi [k0], .slice A 1 c, nx, fr⟩) (hch : Chain gl nx gs) (hlen : gl.length ≤ 90000) :
    Calls Try.prog 71 #[.pointer (some ⟨M, 0, none⟩), dv, .string s] w (SDid w0 M m gl.length (.go (⟨0, k0, 0⟩ :: ⟨2, (.mk 17 text num lo hi [k0]), m.at_⟩ :: gs) m)) := by
  have hblk := h.blk
  obtain ⟨g0, gc, rfl⟩ := goal_row h hj
  obtain ⟨hA, hc, rfl, _, _⟩ := h.chs.form
  obtain ⟨cA, cc, rfl, _, _⟩ := h.caps.form
  obtain ⟨eA, ec, rfl, _, _⟩ := h.evs.form
  obtain ⟨s0, s1, s2, s3, s4, s5⟩ := cells_s hblk
  have fs2 := frozen_of_row w M 2 _ _ hblk
  have hMlt := has_lt hblk
  obtain ⟨q0, q1, q2, q3, q4, q5, q6, q7, q8⟩ := goal_cells h hj
  simp only [Pat.op, Pat.text, Pat.num, Pat.lo, Pat.hi] at q1 q2 q3 q4 q5
  have hjl : j < gl.length := (List.getElem?_eq_some_iff.1 hj).1
  have hjl' : (j : Int) < gl.length := by omega
  have hkid : KidsIn w0 (.mk 17 text num lo hi [k0]) (.slice A 1 c) := h.kids _ (List.mem_of_getElem? hj)
  have HKID := Lib.hid hkid
  have HR := Lib.hid (kids_row hkid)
  have HCH := Lib.hid hch
  have HJ := Lib.hid hj
  have HI2 := Lib.hid (h.enter (ogOf ⟨0, .mk 17 text num lo hi [k0], .slice A 1 c, nx, fr⟩) (opOf (.mk 17 text num lo hi [k0]) (.slice A 1 c)) nx)
  have hbel := h.below.size
  clear h hblk hkid hch hj
  go_enter Try.func71, Try.ntmps71
  go_wp2_with fail
  clear s0 s1 s2 s3 s4 s5 q0 q1 q2 q3 q4 q5 q6 q7 q8 fs2
  -- region 37: 14 operations, the last [12, 13]
  refine wpU_begin [12, 13] [] (by kernel_rfl) (fun w3 hw3 => ?_)
  have HI3 := Lib.hid (HI2.out.later (drew_later hw3))
  clear hw3
  refine wpU_take 0 (some 202) (v := ?_) rfl rfl (by kernel_rfl) (fun _ _ _ h => h) rfl (fun x hx => ?_) ?_
  rotate_left 1
  · go_simp; first | done | with_reducible rfl | rw [if_neg (by omega)] | rw [if_pos (by omega)]
  simp only [Act.put, nA, nB, nC]
  refine wpU_take 1 (some 203) (v := ?_) rfl rfl (by kernel_rfl) (fun _ _ _ h => h) rfl (fun x hx => ?_) ?_
  rotate_left 1
  · go_simp; first | done | with_reducible rfl | rw [if_neg (by omega)] | rw [if_pos (by omega)]
  simp only [Act.put, nA, nB, nC]
  refine wpU_take 2 (some 204) (v := ?_) rfl rfl (by kernel_rfl) (fun _ _ _ h => h) rfl (fun x hx => ?_) ?_
  rotate_left 1
  · obtain ⟨s0, s1, s2, s3, s4, s5⟩ := cells_s (hx.has HI3.out.blk); obtain ⟨p0, p1, p2, p3, p4, p5⟩ := cells_p (hx.has (HI3.out.foreign _ List.mem_cons_self).blk); obtain ⟨q0, q1, q2, q3, q4, q5, q6, q7, q8⟩ := cells_q (hx.has (HI3.out.foreign _ (List.mem_cons_of_mem _ List.mem_cons_self)).blk); simp only [Pat.op, Pat.text, Pat.num, Pat.lo, Pat.hi] at *; go_simp; first | done | with_reducible rfl | rw [if_neg (by omega)] | rw [if_pos (by omega)]
  simp only [Act.put, nA, nB, nC]
  refine wpU_take 3 (some 205) (v := ?_) rfl rfl (by kernel_rfl) (fun _ _ _ h => h) rfl (fun x hx => ?_) ?_
  rotate_left 1
  · go_simp; first | done | with_reducible rfl | rw [if_neg (by omega)] | rw [if_pos (by omega)]
  simp only [Act.put, nA, nB, nC]
  refine wpU_take 4 (some 206) (v := ?_) rfl rfl (by kernel_rfl) (fun _ _ _ h => h) rfl (fun x hx => ?_) ?_
  rotate_left 1
  · obtain ⟨s0, s1, s2, s3, s4, s5⟩ := cells_s (hx.has HI3.out.blk); obtain ⟨p0, p1, p2, p3, p4, p5⟩ := cells_p (hx.has (HI3.out.foreign _ List.mem_cons_self).blk); obtain ⟨q0, q1, q2, q3, q4, q5, q6, q7, q8⟩ := cells_q (hx.has (HI3.out.foreign _ (List.mem_cons_of_mem _ List.mem_cons_self)).blk); simp only [Pat.op, Pat.text, Pat.num, Pat.lo, Pat.hi] at *; go_simp; first | done | with_reducible rfl | rw [if_neg (by omega)] | rw [if_pos (by omega)]
  simp only [Act.put, nA, nB, nC]
  refine wpU_take 5 (some 207) (v := ?_) rfl rfl (by kernel_rfl) (fun _ _ _ h => h) rfl (fun x hx => ?_) ?_
  rotate_left 1
  · go_simp; first | done | with_reducible rfl | rw [if_neg (by omega)] | rw [if_pos (by omega)]
  simp only [Act.put, nA, nB, nC]
  refine wpU_take 6 (some 208) (v := ?_) rfl rfl (by kernel_rfl) (fun _ _ _ h => h) rfl (fun x hx => ?_) ?_
  rotate_left 1
  · obtain ⟨s0, s1, s2, s3, s4, s5⟩ := cells_s (hx.has HI3.out.blk); obtain ⟨p0, p1, p2, p3, p4, p5⟩ := cells_p (hx.has (HI3.out.foreign _ List.mem_cons_self).blk); obtain ⟨q0, q1, q2, q3, q4, q5, q6, q7, q8⟩ := cells_q (hx.has (HI3.out.foreign _ (List.mem_cons_of_mem _ List.mem_cons_self)).blk); simp only [Pat.op, Pat.text, Pat.num, Pat.lo, Pat.hi] at *; go_simp; first | done | with_reducible rfl | rw [if_neg (by omega)] | rw [if_pos (by omega)]
  simp only [Act.put, nA, nB, nC]
  refine wpU_take 7 (some 209) (v := ?_) rfl rfl (by kernel_rfl) (fun _ _ _ h => h) rfl (fun x hx => ?_) ?_
  rotate_left 1
  · go_simp; first | done | with_reducible rfl | rw [if_neg (by omega)] | rw [if_pos (by omega)]
  simp only [Act.put, nA, nB, nC]
  refine wpU_take 8 (some 210) (v := ?_) rfl rfl (by kernel_rfl) (fun _ _ _ h => h) rfl (fun x hx => ?_) ?_
  rotate_left 1
  · go_simp; first | done | with_reducible rfl | rw [if_neg (by omega)] | rw [if_pos (by omega)]
  simp only [Act.put, nA, nB, nC]
  refine wpU_take 9 (some 211) (v := ?_) rfl rfl (by kernel_rfl) (fun _ _ _ h => h) rfl (fun x hx => ?_) ?_
  rotate_left 1
  · go_simp; first | done | with_reducible rfl | rw [if_neg (by omega)] | rw [if_pos (by omega)]
  simp only [Act.put, nA, nB, nC]
  refine wpU_take 10 (some 212) (v := ?_) rfl rfl (by kernel_rfl) (fun _ _ _ h => h) rfl (fun x hx => ?_) ?_
  rotate_left 1
  · obtain ⟨s0, s1, s2, s3, s4, s5⟩ := cells_s (hx.has HI3.out.blk); obtain ⟨p0, p1, p2, p3, p4, p5⟩ := cells_p (hx.has (HI3.out.foreign _ List.mem_cons_self).blk); obtain ⟨q0, q1, q2, q3, q4, q5, q6, q7, q8⟩ := cells_q (hx.has (HI3.out.foreign _ (List.mem_cons_of_mem _ List.mem_cons_self)).blk); simp only [Pat.op, Pat.text, Pat.num, Pat.lo, Pat.hi] at *; go_simp; first | done | with_reducible rfl | rw [if_neg (by omega)] | rw [if_pos (by omega)]
  simp only [Act.put, nA, nB, nC]
  refine wpU_take 11 (some 213) (v := ?_) rfl rfl (by kernel_rfl) (fun _ _ _ h => h) rfl (fun x hx => ?_) ?_
  rotate_left 1
  · go_simp; first | done | with_reducible rfl | rw [if_neg (by omega)] | rw [if_pos (by omega)]
  simp only [Act.put, nA, nB, nC]
  refine wpU_last [_, _] (by kernel_rfl) rfl rfl ?_
  simp only [List.getElem_toArray, List.getElem_cons_succ, List.getElem_cons_zero]
  go_wp2_with fail
  refine (push_at HI3.out 2 (.mk 17 text num lo hi [k0]) A c nx m.at_ HKID.out (by omega) _ rfl).mono ?_
  rintro e w4 ⟨rfl, gv4, hI4⟩
  obtain ⟨gA4, gc4, rfl, _, _⟩ := hI4.goals.form
  have HI4 := Lib.hid hI4
  clear hI4
  obtain ⟨g0k, kA0, kc0, hA0, hk0, he0⟩ := kid_cells HR.out (j := 0) (by simp) HI4.out.below
  simp only [List.getElem_cons_zero] at hk0 he0
  have HK0 := Lib.hid hk0
  have HE0 := Lib.hid he0
  clear hk0 he0
  subst hA0
  obtain ⟨s0, s1, s2, s3, s4, s5⟩ := cells_s HI4.out.blk
  obtain ⟨p0, p1, p2, p3, p4, p5⟩ := cells_p (HI4.out.foreign _ List.mem_cons_self).blk
  obtain ⟨q0, q1, q2, q3, q4, q5, q6, q7, q8⟩ := cells_q (HI4.out.foreign _ (List.mem_cons_of_mem _ List.mem_cons_self)).blk
  simp only [Pat.op, Pat.text, Pat.num, Pat.lo, Pat.hi] at p0 p1 p2 p3 p4 q1 q2 q3 q4 q5
  obtain ⟨e00, e01, e02, e03, e04, e05⟩ := HE0.out
  simp only [Nat.zero_mul, Nat.zero_add] at e00 e01 e02 e03 e04 e05
  go_wp2_with fail
  refine (push_at HI4.out 0 k0 kA0 kc0 gl.length 0 HK0.out (by simp; omega) _ rfl).mono ?_
  clear s0 s1 s2 s3 s4 s5 p0 p1 p2 p3 p4 p5 q0 q1 q2 q3 q4 q5 q6 q7 q8
  rintro e w5 ⟨rfl, gv5, hI5⟩
  obtain ⟨gA5, gc5, rfl, _, _⟩ := hI5.goals.form
  have HI5 := Lib.hid hI5
  clear hI5
  obtain ⟨s0, s1, s2, s3, s4, s5⟩ := cells_s HI5.out.blk
  have f2 := frozen_of_row w5 M 2 _ _ HI5.out.blk
  have hint : ((gl.length : Int) + 1) ≤ 90001 := by omega
  go_wp2_with fail
  go_ret
  exact sdid_go (HI5.out.setGoal ((gl.length : Int) + 1)) (Chain.push2 ⟨2, (.mk 17 text num lo hi [k0]), _, nx, m.at_⟩ ⟨0, k0, _, gl.length, 0⟩ ⟨2, (.mk 17 text num lo hi [k0]), m.at_⟩ ⟨0, k0, 0⟩ HCH.out rfl rfl rfl rfl rfl rfl rfl) (by simp)

end Go.Proofs.Ytndefbecoahfhaa

/- spec's l20Step. Printed by gen_sstep.py. -/
namespace Go.Proofs.Ytndefbecoahfhaa
open Go.RowKit

set_option maxRecDepth 100000 in
set_option maxHeartbeats 1000000 in
theorem sstep_arbno {w0 w : World} {M : Nat} {m : Mst} {gl : List SG} {gv hv cv ev : Value} {hs : List Value} {text : ByteArray} {num lo hi : Int} {k0 : Pat} {A : Option Addr} {c : Nat} {fr nx : Int} {gs : List Goal} {j : Nat} {s : ByteArray} {dv : Value} 
    (h : SpecAt w0 w [] M m gl (j : Int) m.at_ gv hv cv ev hs) (hj : gl[j]? = some ⟨0, .mk 13 text num lo hi [k0], .slice A 1 c, nx, fr⟩) (hch : Chain gl nx gs) (hlen : gl.length ≤ 90000) (hn : m.choices.length ≤ 5000) :
    Calls Try.prog 71 #[.pointer (some ⟨M, 0, none⟩), dv, .string s] w (SDid w0 M m gl.length (.go gs (m.choose (⟨3, (.mk 13 text num lo hi [k0]), 0⟩ :: gs) m.at_))) := by
  have hblk := h.blk
  obtain ⟨g0, gc, rfl⟩ := goal_row h hj
  obtain ⟨hA, hc, rfl, _, _⟩ := h.chs.form
  obtain ⟨cA, cc, rfl, _, _⟩ := h.caps.form
  obtain ⟨eA, ec, rfl, _, _⟩ := h.evs.form
  obtain ⟨s0, s1, s2, s3, s4, s5⟩ := cells_s hblk
  have fs2 := frozen_of_row w M 2 _ _ hblk
  have hMlt := has_lt hblk
  obtain ⟨q0, q1, q2, q3, q4, q5, q6, q7, q8⟩ := goal_cells h hj
  simp only [Pat.op, Pat.text, Pat.num, Pat.lo, Pat.hi] at q1 q2 q3 q4 q5
  have hjl : j < gl.length := (List.getElem?_eq_some_iff.1 hj).1
  have hjl' : (j : Int) < gl.length := by omega
  have hkid : KidsIn w0 (.mk 13 text num lo hi [k0]) (.slice A 1 c) := h.kids _ (List.mem_of_getElem? hj)
  have HKID := Lib.hid hkid
  have HR := Lib.hid (kids_row hkid)
  have HCH := Lib.hid hch
  have HJ := Lib.hid hj
  have HI2 := Lib.hid (h.enter (ogOf ⟨0, .mk 13 text num lo hi [k0], .slice A 1 c, nx, fr⟩) (opOf (.mk 13 text num lo hi [k0]) (.slice A 1 c)) nx)
  have hbel := h.below.size
  clear h hblk hkid hch hj
  go_enter Try.func71, Try.ntmps71
  go_wp2_with fail
  clear s0 s1 s2 s3 s4 s5 q0 q1 q2 q3 q4 q5 q6 q7 q8 fs2
  -- region 25: 12 operations, the last [11]
  refine wpV_begin [11] [] (fun x => x.cell? ⟨M, 3, none⟩ = some (.int .i64 m.at_) ∧ x.heap[w.heap.size + 1]? = some (opOf (.mk 13 text num lo hi [k0]) (.slice A 1 c) ) ∧ x.heap[w.heap.size]? = some (ogOf ⟨0, (.mk 13 text num lo hi [k0]), .slice A 1 c, nx, fr⟩) ∧ Below w0.heap.size w0 x) (by kernel_rfl) (fun w3 hw3 => ?_)
  have HI3 := Lib.hid (HI2.out.later (drew_later hw3))
  clear hw3
  have HS : Hid ((fun x => x.cell? ⟨M, 3, none⟩ = some (.int .i64 m.at_) ∧ x.heap[w.heap.size + 1]? = some (opOf (.mk 13 text num lo hi [k0]) (.slice A 1 c) ) ∧ x.heap[w.heap.size]? = some (ogOf ⟨0, (.mk 13 text num lo hi [k0]), .slice A 1 c, nx, fr⟩) ∧ Below w0.heap.size w0 x) w3) := Lib.hid ⟨(cells_s HI3.out.blk).2.2.2.1, (HI3.out.foreign _ List.mem_cons_self).blk, (HI3.out.foreign _ (List.mem_cons_of_mem _ List.mem_cons_self)).blk, HI3.out.below⟩
  refine wpV_take 0 (some 136) (v := ?_) rfl rfl (by kernel_rfl) (fun _ _ _ h => h) rfl HS.out (fun x hx => ?_) ?_
  rotate_left 1
  · go_simp; first | done | with_reducible rfl | rw [if_neg (by omega)] | rw [if_pos (by omega)]
  simp only [Act.put, nA, nB, nC]
  refine wpV_take 1 (some 137) (v := ?_) rfl rfl (by kernel_rfl) (fun _ _ _ h => h) rfl HS.out (fun x hx => ?_) ?_
  rotate_left 1
  · go_simp; first | done | with_reducible rfl | rw [if_neg (by omega)] | rw [if_pos (by omega)]
  simp only [Act.put, nA, nB, nC]
  refine wpV_take 2 (some 138) (v := ?_) rfl rfl (by kernel_rfl) (fun _ _ _ h => h) rfl HS.out (fun x hx => ?_) ?_
  rotate_left 1
  · have s3 := hx.1; obtain ⟨p0, p1, p2, p3, p4, p5⟩ := cells_p hx.2.1; obtain ⟨q0, q1, q2, q3, q4, q5, q6, q7, q8⟩ := cells_q hx.2.2.1; simp only [Pat.op, Pat.text, Pat.num, Pat.lo, Pat.hi] at *; go_simp; first | done | with_reducible rfl | rw [if_neg (by omega)] | rw [if_pos (by omega)]
  simp only [Act.put, nA, nB, nC]
  refine wpV_take 3 (some 139) (v := ?_) rfl rfl (by kernel_rfl) (fun _ _ _ h => h) rfl HS.out (fun x hx => ?_) ?_
  rotate_left 1
  · go_simp; first | done | with_reducible rfl | rw [if_neg (by omega)] | rw [if_pos (by omega)]
  simp only [Act.put, nA, nB, nC]
  refine wpV_take 4 (some 140) (v := ?_) rfl rfl (by kernel_rfl) (fun _ _ _ h => h) rfl HS.out (fun x hx => ?_) ?_
  rotate_left 1
  · have s3 := hx.1; obtain ⟨p0, p1, p2, p3, p4, p5⟩ := cells_p hx.2.1; obtain ⟨q0, q1, q2, q3, q4, q5, q6, q7, q8⟩ := cells_q hx.2.2.1; simp only [Pat.op, Pat.text, Pat.num, Pat.lo, Pat.hi] at *; go_simp; first | done | with_reducible rfl | rw [if_neg (by omega)] | rw [if_pos (by omega)]
  simp only [Act.put, nA, nB, nC]
  refine wpV_take 5 (some 141) (v := ?_) rfl rfl (by kernel_rfl) (fun _ _ _ h => h) rfl HS.out (fun x hx => ?_) ?_
  rotate_left 1
  · go_simp; first | done | with_reducible rfl | rw [if_neg (by omega)] | rw [if_pos (by omega)]
  simp only [Act.put, nA, nB, nC]
  refine wpV_take 7 (some 143) (v := ?_) rfl rfl (by kernel_rfl) (fun _ _ _ h => h) rfl HS.out (fun x hx => ?_) ?_
  rotate_left 1
  · go_simp; first | done | with_reducible rfl | rw [if_neg (by omega)] | rw [if_pos (by omega)]
  simp only [Act.put, nA, nB, nC]
  refine wpV_take 8 (some 144) (v := ?_) rfl rfl (by kernel_rfl) (fun _ _ _ h => h) rfl HS.out (fun x hx => ?_) ?_
  rotate_left 1
  · go_simp; first | done | with_reducible rfl | rw [if_neg (by omega)] | rw [if_pos (by omega)]
  simp only [Act.put, nA, nB, nC]
  refine wpV_take 9 (some 145) (v := ?_) rfl rfl (by kernel_rfl) (fun _ _ _ h => h) rfl HS.out (fun x hx => ?_) ?_
  rotate_left 1
  · go_simp; first | done | with_reducible rfl | rw [if_neg (by omega)] | rw [if_pos (by omega)]
  simp only [Act.put, nA, nB, nC]
  refine wpV_take 10 (some 146) (v := ?_) rfl rfl (by kernel_rfl) (fun _ _ _ h => h) rfl HS.out (fun x hx => ?_) ?_
  rotate_left 1
  · have s3 := hx.1; obtain ⟨p0, p1, p2, p3, p4, p5⟩ := cells_p hx.2.1; obtain ⟨q0, q1, q2, q3, q4, q5, q6, q7, q8⟩ := cells_q hx.2.2.1; simp only [Pat.op, Pat.text, Pat.num, Pat.lo, Pat.hi] at *; go_simp; first | done | with_reducible rfl | rw [if_neg (by omega)] | rw [if_pos (by omega)]
  simp only [Act.put, nA, nB, nC]
  refine wpV_step 6 (by kernel_rfl) rfl rfl ?_  -- call value (Go.Operand.func 70)
  go_wp2_with fail
  refine (push_at HI3.out 3 (.mk 13 text num lo hi [k0]) A c nx 0 HKID.out (by omega) _ rfl).mono ?_
  rintro e w4 ⟨rfl, gv4, hI4⟩
  obtain ⟨gA4, gc4, rfl, _, _⟩ := hI4.goals.form
  have HI4 := Lib.hid hI4
  clear hI4
  go_wp2_with fail
  clear HS
  have HS : Hid ((fun x => x.cell? ⟨M, 3, none⟩ = some (.int .i64 m.at_) ∧ x.heap[w.heap.size + 1]? = some (opOf (.mk 13 text num lo hi [k0]) (.slice A 1 c) ) ∧ x.heap[w.heap.size]? = some (ogOf ⟨0, (.mk 13 text num lo hi [k0]), .slice A 1 c, nx, fr⟩) ∧ Below w0.heap.size w0 x) w4) := Lib.hid ⟨(cells_s HI4.out.blk).2.2.2.1, (HI4.out.foreign _ List.mem_cons_self).blk, (HI4.out.foreign _ (List.mem_cons_of_mem _ List.mem_cons_self)).blk, HI4.out.below⟩
  refine ⟨HS.out, ?_⟩
  refine wpV_last [_] (by kernel_rfl) rfl rfl ?_
  simp only [List.getElem_toArray, List.getElem_cons_succ, List.getElem_cons_zero]
  go_wp2_with fail
  refine (later_any HI4.out ⟨false, ⟨3, (.mk 13 text num lo hi [k0]), 0⟩ :: gs, m.at_, m.caps.length⟩ gl.length _ rfl rfl (.inr ⟨rfl, Chain.push ⟨3, (.mk 13 text num lo hi [k0]), _, nx, 0⟩ ⟨3, (.mk 13 text num lo hi [k0]), 0⟩ HCH.out rfl rfl rfl⟩) (by omega)).mono ?_
  rintro e w5 ⟨rfl, hv5, hs5, hI5⟩
  obtain ⟨hA5, hc5, rfl, _, _⟩ := hI5.chs.form
  have HI5 := Lib.hid hI5
  clear hI5
  go_wp2_with fail
  go_ret
  exact sdid_go (m' := m.choose (⟨3, (.mk 13 text num lo hi [k0]), 0⟩ :: gs) m.at_) HI5.out (HCH.out.more _ _ _) (by simp)

set_option maxRecDepth 100000 in
set_option maxHeartbeats 1000000 in
theorem sstep_defer {w0 w : World} {M : Nat} {m : Mst} {gl : List SG} {gv hv cv ev : Value} {hs : List Value} {text : ByteArray} {num lo hi : Int} {kids : List Pat} {A : Option Addr} {c : Nat} {fr nx : Int} {gs : List Goal} {j : Nat} {s : ByteArray} {dv : Value} {defs : List Pat} {dA : Option Addr} {dc : Nat} {i : Nat}
    (h : SpecAt w0 w [] M m gl (j : Int) m.at_ gv hv cv ev hs) (hj : gl[j]? = some ⟨0, .mk 20 text num lo hi kids, .slice A kids.length c, nx, fr⟩) (hch : Chain gl nx gs) (hlen : gl.length ≤ 90000) (hnum : num = (i : Int)) (hil : i < defs.length) (hdv : dv = .slice dA defs.length dc) (hdefs : RowIn w0 dA 0 defs) :
    Calls Try.prog 71 #[.pointer (some ⟨M, 0, none⟩), dv, .string s] w (SDid w0 M m gl.length (.go (⟨0, defs[i], 0⟩ :: gs) m)) := by
  have hblk := h.blk
  obtain ⟨g0, gc, rfl⟩ := goal_row h hj
  obtain ⟨hA, hc, rfl, _, _⟩ := h.chs.form
  obtain ⟨cA, cc, rfl, _, _⟩ := h.caps.form
  obtain ⟨eA, ec, rfl, _, _⟩ := h.evs.form
  obtain ⟨s0, s1, s2, s3, s4, s5⟩ := cells_s hblk
  have fs2 := frozen_of_row w M 2 _ _ hblk
  have hMlt := has_lt hblk
  obtain ⟨q0, q1, q2, q3, q4, q5, q6, q7, q8⟩ := goal_cells h hj
  simp only [Pat.op, Pat.text, Pat.num, Pat.lo, Pat.hi] at q1 q2 q3 q4 q5
  have hjl : j < gl.length := (List.getElem?_eq_some_iff.1 hj).1
  have hjl' : (j : Int) < gl.length := by omega
  have hkid : KidsIn w0 (.mk 20 text i lo hi kids) (.slice A kids.length c) := h.kids _ (List.mem_of_getElem? hj)
  have HKID := Lib.hid hkid
  have HR := Lib.hid (kids_row hkid)
  have HCH := Lib.hid hch
  have HJ := Lib.hid hj
  have HI2 := Lib.hid (h.enter (ogOf ⟨0, .mk 20 text i lo hi kids, .slice A kids.length c, nx, fr⟩) (opOf (.mk 20 text i lo hi kids) (.slice A kids.length c)) nx)
  have hbel := h.below.size
  subst hdv hnum
  have HD := Lib.hid hdefs
  have hil' : (i : Int) < defs.length := by omega
  clear hdefs
  clear h hblk hkid hch hj
  go_enter Try.func71, Try.ntmps71
  go_wp2_with fail
  clear s0 s1 s2 s3 s4 s5 q0 q1 q2 q3 q4 q5 q6 q7 q8 fs2
  -- region 47: 14 operations, the last [10, 11, 12, 13]
  refine wpU_begin [10, 11, 12, 13] [0] (by kernel_rfl) (fun w3 hw3 => ?_)
  have HI3 := Lib.hid (HI2.out.later (drew_later hw3))
  clear hw3
  obtain ⟨g0k, kA0, kc0, hA0, hk0, he0⟩ := kid_cells HD.out hil HI3.out.below
  have HK0 := Lib.hid hk0
  have HE0 := Lib.hid he0
  clear hk0 he0
  subst hA0
  refine wpU_pure 0 (some 254) (v := ?_) rfl rfl (by kernel_rfl) (fun _ _ _ h => h) rfl (fun x => ?_) ?_
  rotate_left 1
  · go_simp; first | done | with_reducible rfl | rw [if_neg (by omega)] | rw [if_pos (by omega)]
  simp only [Act.put, nA, nB, nC]
  refine wpU_take 1 (some 255) (v := ?_) rfl rfl (by kernel_rfl) (fun _ _ _ h => h) rfl (fun x hx => ?_) ?_
  rotate_left 1
  · go_simp; first | done | with_reducible rfl | rw [if_neg (by omega)] | rw [if_pos (by omega)]
  simp only [Act.put, nA, nB, nC]
  refine wpU_take 2 (some 256) (v := ?_) rfl rfl (by kernel_rfl) (fun _ _ _ h => h) rfl (fun x hx => ?_) ?_
  rotate_left 1
  · go_simp; first | done | with_reducible rfl | rw [if_neg (by omega)] | rw [if_pos (by omega)]
  simp only [Act.put, nA, nB, nC]
  refine wpU_take 3 (some 257) (v := ?_) rfl rfl (by kernel_rfl) (fun _ _ _ h => h) rfl (fun x hx => ?_) ?_
  rotate_left 1
  · go_simp; first | done | with_reducible rfl | rw [if_neg (by omega)] | rw [if_pos (by omega)]
  simp only [Act.put, nA, nB, nC]
  refine wpU_take 4 (some 258) (v := ?_) rfl rfl (by kernel_rfl) (fun _ _ _ h => h) rfl (fun x hx => ?_) ?_
  rotate_left 1
  · obtain ⟨s0, s1, s2, s3, s4, s5⟩ := cells_s (hx.has HI3.out.blk); obtain ⟨p0, p1, p2, p3, p4, p5⟩ := cells_p (hx.has (HI3.out.foreign _ List.mem_cons_self).blk); obtain ⟨q0, q1, q2, q3, q4, q5, q6, q7, q8⟩ := cells_q (hx.has (HI3.out.foreign _ (List.mem_cons_of_mem _ List.mem_cons_self)).blk); simp only [Pat.op, Pat.text, Pat.num, Pat.lo, Pat.hi] at *; obtain ⟨e00, e01, e02, e03, e04, e05⟩ := HE0.out.below hx; go_simp; first | done | with_reducible rfl | rw [if_neg (by omega)] | rw [if_pos (by omega)]
  simp only [Act.put, nA, nB, nC]
  refine wpU_take 5 (some 259) (v := ?_) rfl rfl (by kernel_rfl) (fun _ _ _ h => h) rfl (fun x hx => ?_) ?_
  rotate_left 1
  · go_simp; first | done | with_reducible rfl | rw [if_neg (by omega)] | rw [if_pos (by omega)]
  simp only [Act.put, nA, nB, nC]
  refine wpU_take 6 (some 260) (v := ?_) rfl rfl (by kernel_rfl) (fun _ _ _ h => h) rfl (fun x hx => ?_) ?_
  rotate_left 1
  · obtain ⟨s0, s1, s2, s3, s4, s5⟩ := cells_s (hx.has HI3.out.blk); obtain ⟨p0, p1, p2, p3, p4, p5⟩ := cells_p (hx.has (HI3.out.foreign _ List.mem_cons_self).blk); obtain ⟨q0, q1, q2, q3, q4, q5, q6, q7, q8⟩ := cells_q (hx.has (HI3.out.foreign _ (List.mem_cons_of_mem _ List.mem_cons_self)).blk); simp only [Pat.op, Pat.text, Pat.num, Pat.lo, Pat.hi] at *; obtain ⟨e00, e01, e02, e03, e04, e05⟩ := HE0.out.below hx; go_simp; first | done | with_reducible rfl | rw [if_neg (by omega)] | rw [if_pos (by omega)]
  simp only [Act.put, nA, nB, nC]
  refine wpU_take 7 (some 261) (v := ?_) rfl rfl (by kernel_rfl) (fun _ _ _ h => h) rfl (fun x hx => ?_) ?_
  rotate_left 1
  · go_simp; first | done | with_reducible rfl | rw [if_neg (by omega)] | rw [if_pos (by omega)]
  simp only [Act.put, nA, nB, nC]
  refine wpU_take 8 (some 262) (v := ?_) rfl rfl (by kernel_rfl) (fun _ _ _ h => h) rfl (fun x hx => ?_) ?_
  rotate_left 1
  · obtain ⟨s0, s1, s2, s3, s4, s5⟩ := cells_s (hx.has HI3.out.blk); obtain ⟨p0, p1, p2, p3, p4, p5⟩ := cells_p (hx.has (HI3.out.foreign _ List.mem_cons_self).blk); obtain ⟨q0, q1, q2, q3, q4, q5, q6, q7, q8⟩ := cells_q (hx.has (HI3.out.foreign _ (List.mem_cons_of_mem _ List.mem_cons_self)).blk); simp only [Pat.op, Pat.text, Pat.num, Pat.lo, Pat.hi] at *; obtain ⟨e00, e01, e02, e03, e04, e05⟩ := HE0.out.below hx; go_simp; first | done | with_reducible rfl | rw [if_neg (by omega)] | rw [if_pos (by omega)]
  simp only [Act.put, nA, nB, nC]
  refine wpU_take 9 (some 263) (v := ?_) rfl rfl (by kernel_rfl) (fun _ _ _ h => h) rfl (fun x hx => ?_) ?_
  rotate_left 1
  · go_simp; first | done | with_reducible rfl | rw [if_neg (by omega)] | rw [if_pos (by omega)]
  simp only [Act.put, nA, nB, nC]
  refine wpU_last [_, _, _, _] (by kernel_rfl) rfl rfl ?_
  simp only [List.getElem_toArray, List.getElem_cons_succ, List.getElem_cons_zero]
  go_wp2_with fail
  refine (push_at HI3.out 0 defs[i] kA0 kc0 nx 0 HK0.out (by omega) _ rfl).mono ?_
  rintro e w4 ⟨rfl, gv4, hI4⟩
  obtain ⟨gA4, gc4, rfl, _, _⟩ := hI4.goals.form
  have HI4 := Lib.hid hI4
  clear hI4
  obtain ⟨s0, s1, s2, s3, s4, s5⟩ := cells_s HI4.out.blk
  have f2 := frozen_of_row w4 M 2 _ _ HI4.out.blk
  go_wp2_with fail
  go_ret
  exact sdid_go (HI4.out.setGoal gl.length) (Chain.push ⟨0, defs[i], _, nx, 0⟩ ⟨0, defs[i], 0⟩ HCH.out rfl rfl rfl) (by simp)

end Go.Proofs.Ytndefbecoahfhaa

/- spec's l20Step. Printed by gen_sstep.py. -/
namespace Go.Proofs.Ytndefbecoahfhaa
open Go.RowKit

set_option maxRecDepth 100000 in
set_option maxHeartbeats 1000000 in
theorem sstep_alt {w0 w : World} {M : Nat} {m : Mst} {gl : List SG} {gv hv cv ev : Value} {hs : List Value} {text : ByteArray} {num lo hi : Int} {k0 k1 : Pat} {A : Option Addr} {c : Nat} {fr nx : Int} {gs : List Goal} {j : Nat} {s : ByteArray} {dv : Value} 
    (h : SpecAt w0 w [] M m gl (j : Int) m.at_ gv hv cv ev hs) (hj : gl[j]? = some ⟨0, .mk 15 text num lo hi [k0, k1], .slice A 2 c, nx, fr⟩) (hch : Chain gl nx gs) (hlen : gl.length ≤ 90000) (hn : m.choices.length ≤ 5000) :
    Calls Try.prog 71 #[.pointer (some ⟨M, 0, none⟩), dv, .string s] w (SDid w0 M m gl.length (.go (⟨0, k0, 0⟩ :: gs) (m.choose (⟨0, k1, 0⟩ :: gs) m.at_))) := by
  have hblk := h.blk
  obtain ⟨g0, gc, rfl⟩ := goal_row h hj
  obtain ⟨hA, hc, rfl, _, _⟩ := h.chs.form
  obtain ⟨cA, cc, rfl, _, _⟩ := h.caps.form
  obtain ⟨eA, ec, rfl, _, _⟩ := h.evs.form
  obtain ⟨s0, s1, s2, s3, s4, s5⟩ := cells_s hblk
  have fs2 := frozen_of_row w M 2 _ _ hblk
  have hMlt := has_lt hblk
  obtain ⟨q0, q1, q2, q3, q4, q5, q6, q7, q8⟩ := goal_cells h hj
  simp only [Pat.op, Pat.text, Pat.num, Pat.lo, Pat.hi] at q1 q2 q3 q4 q5
  have hjl : j < gl.length := (List.getElem?_eq_some_iff.1 hj).1
  have hjl' : (j : Int) < gl.length := by omega
  have hkid : KidsIn w0 (.mk 15 text num lo hi [k0, k1]) (.slice A 2 c) := h.kids _ (List.mem_of_getElem? hj)
  have HKID := Lib.hid hkid
  have HR := Lib.hid (kids_row hkid)
  have HCH := Lib.hid hch
  have HJ := Lib.hid hj
  have HI2 := Lib.hid (h.enter (ogOf ⟨0, .mk 15 text num lo hi [k0, k1], .slice A 2 c, nx, fr⟩) (opOf (.mk 15 text num lo hi [k0, k1]) (.slice A 2 c)) nx)
  have hbel := h.below.size
  clear h hblk hkid hch hj
  go_enter Try.func71, Try.ntmps71
  go_wp2_with fail
  clear s0 s1 s2 s3 s4 s5 q0 q1 q2 q3 q4 q5 q6 q7 q8 fs2
  obtain ⟨g1k, kv1, hA1, hg1, he1, hk1⟩ := rowOf w0 [k0, k1] HR.out (j := 1) (by simp)
  obtain ⟨kA1, kc1, rfl, _, _⟩ := hk1.form
  simp only [List.getElem_cons_succ, List.getElem_cons_zero] at hk1 he1
  have HK1 := Lib.hid hk1
  have HE1 := Lib.hid he1
  have HG1 := Lib.hid hg1
  subst hA1
  clear hk1 he1 hg1
  -- region 32: 15 operations, the last [14]
  refine wpV_begin [14] [] (fun x => x.cell? ⟨M, 3, none⟩ = some (.int .i64 m.at_) ∧ x.heap[w.heap.size + 1]? = some (opOf (.mk 15 text num lo hi [k0, k1]) (.slice (some ⟨g1k, 0, none⟩) 2 c) ) ∧ x.heap[w.heap.size]? = some (ogOf ⟨0, (.mk 15 text num lo hi [k0, k1]), .slice (some ⟨g1k, 0, none⟩) 2 c, nx, fr⟩) ∧ Below w0.heap.size w0 x ∧ ElemAt x g1k 1 k1 (.slice kA1 k1.kids.length kc1)) (by kernel_rfl) (fun w3 hw3 => ?_)
  have HI3 := Lib.hid (HI2.out.later (drew_later hw3))
  clear hw3
  have HS : Hid ((fun x => x.cell? ⟨M, 3, none⟩ = some (.int .i64 m.at_) ∧ x.heap[w.heap.size + 1]? = some (opOf (.mk 15 text num lo hi [k0, k1]) (.slice (some ⟨g1k, 0, none⟩) 2 c) ) ∧ x.heap[w.heap.size]? = some (ogOf ⟨0, (.mk 15 text num lo hi [k0, k1]), .slice (some ⟨g1k, 0, none⟩) 2 c, nx, fr⟩) ∧ Below w0.heap.size w0 x ∧ ElemAt x g1k 1 k1 (.slice kA1 k1.kids.length kc1)) w3) := Lib.hid ⟨(cells_s HI3.out.blk).2.2.2.1, (HI3.out.foreign _ List.mem_cons_self).blk, (HI3.out.foreign _ (List.mem_cons_of_mem _ List.mem_cons_self)).blk, HI3.out.below, HE1.out.later HG1.out (Below.mono (HI3.out.below) (Nat.le_refl _))⟩
  refine wpV_take 0 (some 172) (v := ?_) rfl rfl (by kernel_rfl) (fun _ _ _ h => h) rfl HS.out (fun x hx => ?_) ?_
  rotate_left 1
  · go_simp; first | done | with_reducible rfl | rw [if_neg (by omega)] | rw [if_pos (by omega)]
  simp only [Act.put, nA, nB, nC]
  refine wpV_take 1 (some 173) (v := ?_) rfl rfl (by kernel_rfl) (fun _ _ _ h => h) rfl HS.out (fun x hx => ?_) ?_
  rotate_left 1
  · go_simp; first | done | with_reducible rfl | rw [if_neg (by omega)] | rw [if_pos (by omega)]
  simp only [Act.put, nA, nB, nC]
  refine wpV_take 2 (some 174) (v := ?_) rfl rfl (by kernel_rfl) (fun _ _ _ h => h) rfl HS.out (fun x hx => ?_) ?_
  rotate_left 1
  · go_simp; first | done | with_reducible rfl | rw [if_neg (by omega)] | rw [if_pos (by omega)]
  simp only [Act.put, nA, nB, nC]
  refine wpV_take 3 (some 175) (v := ?_) rfl rfl (by kernel_rfl) (fun _ _ _ h => h) rfl HS.out (fun x hx => ?_) ?_
  rotate_left 1
  · have s3 := hx.1; obtain ⟨p0, p1, p2, p3, p4, p5⟩ := cells_p hx.2.1; obtain ⟨q0, q1, q2, q3, q4, q5, q6, q7, q8⟩ := cells_q hx.2.2.1; simp only [Pat.op, Pat.text, Pat.num, Pat.lo, Pat.hi] at *; obtain ⟨e10, e11, e12, e13, e14, e15⟩ := hx.2.2.2.2; simp only [Nat.one_mul, Nat.reduceAdd] at e10 e11 e12 e13 e14 e15; go_simp; first | done | with_reducible rfl | rw [if_neg (by omega)] | rw [if_pos (by omega)]
  simp only [Act.put, nA, nB, nC]
  refine wpV_take 4 (some 176) (v := ?_) rfl rfl (by kernel_rfl) (fun _ _ _ h => h) rfl HS.out (fun x hx => ?_) ?_
  rotate_left 1
  · go_simp; first | done | with_reducible rfl | rw [if_neg (by omega)] | rw [if_pos (by omega)]
  simp only [Act.put, nA, nB, nC]
  refine wpV_take 5 (some 177) (v := ?_) rfl rfl (by kernel_rfl) (fun _ _ _ h => h) rfl HS.out (fun x hx => ?_) ?_
  rotate_left 1
  · have s3 := hx.1; obtain ⟨p0, p1, p2, p3, p4, p5⟩ := cells_p hx.2.1; obtain ⟨q0, q1, q2, q3, q4, q5, q6, q7, q8⟩ := cells_q hx.2.2.1; simp only [Pat.op, Pat.text, Pat.num, Pat.lo, Pat.hi] at *; obtain ⟨e10, e11, e12, e13, e14, e15⟩ := hx.2.2.2.2; simp only [Nat.one_mul, Nat.reduceAdd] at e10 e11 e12 e13 e14 e15; go_simp; first | done | with_reducible rfl | rw [if_neg (by omega)] | rw [if_pos (by omega)]
  simp only [Act.put, nA, nB, nC]
  refine wpV_take 6 (some 178) (v := ?_) rfl rfl (by kernel_rfl) (fun _ _ _ h => h) rfl HS.out (fun x hx => ?_) ?_
  rotate_left 1
  · go_simp; first | done | with_reducible rfl | rw [if_neg (by omega)] | rw [if_pos (by omega)]
  simp only [Act.put, nA, nB, nC]
  refine wpV_take 7 (some 179) (v := ?_) rfl rfl (by kernel_rfl) (fun _ _ _ h => h) rfl HS.out (fun x hx => ?_) ?_
  rotate_left 1
  · have s3 := hx.1; obtain ⟨p0, p1, p2, p3, p4, p5⟩ := cells_p hx.2.1; obtain ⟨q0, q1, q2, q3, q4, q5, q6, q7, q8⟩ := cells_q hx.2.2.1; simp only [Pat.op, Pat.text, Pat.num, Pat.lo, Pat.hi] at *; obtain ⟨e10, e11, e12, e13, e14, e15⟩ := hx.2.2.2.2; simp only [Nat.one_mul, Nat.reduceAdd] at e10 e11 e12 e13 e14 e15; go_simp; first | done | with_reducible rfl | rw [if_neg (by omega)] | rw [if_pos (by omega)]
  simp only [Act.put, nA, nB, nC]
  refine wpV_take 8 (some 180) (v := ?_) rfl rfl (by kernel_rfl) (fun _ _ _ h => h) rfl HS.out (fun x hx => ?_) ?_
  rotate_left 1
  · go_simp; first | done | with_reducible rfl | rw [if_neg (by omega)] | rw [if_pos (by omega)]
  simp only [Act.put, nA, nB, nC]
  refine wpV_take 10 (some 182) (v := ?_) rfl rfl (by kernel_rfl) (fun _ _ _ h => h) rfl HS.out (fun x hx => ?_) ?_
  rotate_left 1
  · go_simp; first | done | with_reducible rfl | rw [if_neg (by omega)] | rw [if_pos (by omega)]
  simp only [Act.put, nA, nB, nC]
  refine wpV_take 11 (some 183) (v := ?_) rfl rfl (by kernel_rfl) (fun _ _ _ h => h) rfl HS.out (fun x hx => ?_) ?_
  rotate_left 1
  · go_simp; first | done | with_reducible rfl | rw [if_neg (by omega)] | rw [if_pos (by omega)]
  simp only [Act.put, nA, nB, nC]
  refine wpV_take 12 (some 184) (v := ?_) rfl rfl (by kernel_rfl) (fun _ _ _ h => h) rfl HS.out (fun x hx => ?_) ?_
  rotate_left 1
  · go_simp; first | done | with_reducible rfl | rw [if_neg (by omega)] | rw [if_pos (by omega)]
  simp only [Act.put, nA, nB, nC]
  refine wpV_take 13 (some 185) (v := ?_) rfl rfl (by kernel_rfl) (fun _ _ _ h => h) rfl HS.out (fun x hx => ?_) ?_
  rotate_left 1
  · have s3 := hx.1; obtain ⟨p0, p1, p2, p3, p4, p5⟩ := cells_p hx.2.1; obtain ⟨q0, q1, q2, q3, q4, q5, q6, q7, q8⟩ := cells_q hx.2.2.1; simp only [Pat.op, Pat.text, Pat.num, Pat.lo, Pat.hi] at *; obtain ⟨e10, e11, e12, e13, e14, e15⟩ := hx.2.2.2.2; simp only [Nat.one_mul, Nat.reduceAdd] at e10 e11 e12 e13 e14 e15; go_simp; first | done | with_reducible rfl | rw [if_neg (by omega)] | rw [if_pos (by omega)]
  simp only [Act.put, nA, nB, nC]
  refine wpV_step 9 (by kernel_rfl) rfl rfl ?_  -- call value (Go.Operand.func 70)
  go_wp2_with fail
  refine (push_at HI3.out 0 k1 kA1 kc1 nx 0 HK1.out (by omega) _ rfl).mono ?_
  rintro e w4 ⟨rfl, gv4, hI4⟩
  obtain ⟨gA4, gc4, rfl, _, _⟩ := hI4.goals.form
  have HI4 := Lib.hid hI4
  clear hI4
  go_wp2_with fail
  clear HS
  have HS : Hid ((fun x => x.cell? ⟨M, 3, none⟩ = some (.int .i64 m.at_) ∧ x.heap[w.heap.size + 1]? = some (opOf (.mk 15 text num lo hi [k0, k1]) (.slice (some ⟨g1k, 0, none⟩) 2 c) ) ∧ x.heap[w.heap.size]? = some (ogOf ⟨0, (.mk 15 text num lo hi [k0, k1]), .slice (some ⟨g1k, 0, none⟩) 2 c, nx, fr⟩) ∧ Below w0.heap.size w0 x ∧ ElemAt x g1k 1 k1 (.slice kA1 k1.kids.length kc1)) w4) := Lib.hid ⟨(cells_s HI4.out.blk).2.2.2.1, (HI4.out.foreign _ List.mem_cons_self).blk, (HI4.out.foreign _ (List.mem_cons_of_mem _ List.mem_cons_self)).blk, HI4.out.below, HE1.out.later HG1.out (Below.mono (HI4.out.below) (Nat.le_refl _))⟩
  refine ⟨HS.out, ?_⟩
  refine wpV_last [_] (by kernel_rfl) rfl rfl ?_
  simp only [List.getElem_toArray, List.getElem_cons_succ, List.getElem_cons_zero]
  go_wp2_with fail
  refine (later_any HI4.out ⟨false, ⟨0, k1, 0⟩ :: gs, m.at_, m.caps.length⟩ gl.length _ rfl rfl (.inr ⟨rfl, Chain.push ⟨0, k1, _, nx, 0⟩ ⟨0, k1, 0⟩ HCH.out rfl rfl rfl⟩) (by omega)).mono ?_
  clear HS
  rintro e w5 ⟨rfl, hv5, hs5, hI5⟩
  obtain ⟨hA5, hc5, rfl, _, _⟩ := hI5.chs.form
  have HI5 := Lib.hid hI5
  clear hI5
  go_wp2_with fail
  -- region 33: 13 operations, the last [9, 10, 11, 12]
  refine wpU_begin [9, 10, 11, 12] [0] (by kernel_rfl) (fun w6 hw6 => ?_)
  have HI6 := Lib.hid (HI5.out.later (drew_later hw6))
  clear hw6
  obtain ⟨g0k, kA0, kc0, hA0, hk0, he0⟩ := kid_cells HR.out (j := 0) (by simp) HI6.out.below
  simp only [List.getElem_cons_zero] at hk0 he0
  have HK0 := Lib.hid hk0
  have HE0 := Lib.hid he0
  clear hk0 he0
  obtain rfl : g1k = g0k := by cases hA0; rfl
  clear hA0
  refine wpU_pure 0 (some 187) (v := ?_) rfl rfl (by kernel_rfl) (fun _ _ _ h => h) rfl (fun x => ?_) ?_
  rotate_left 1
  · go_simp; first | done | with_reducible rfl | rw [if_neg (by omega)] | rw [if_pos (by omega)]
  simp only [Act.put, nA, nB, nC]
  refine wpU_take 1 (some 188) (v := ?_) rfl rfl (by kernel_rfl) (fun _ _ _ h => h) rfl (fun x hx => ?_) ?_
  rotate_left 1
  · go_simp; first | done | with_reducible rfl | rw [if_neg (by omega)] | rw [if_pos (by omega)]
  simp only [Act.put, nA, nB, nC]
  refine wpU_take 2 (some 189) (v := ?_) rfl rfl (by kernel_rfl) (fun _ _ _ h => h) rfl (fun x hx => ?_) ?_
  rotate_left 1
  · go_simp; first | done | with_reducible rfl | rw [if_neg (by omega)] | rw [if_pos (by omega)]
  simp only [Act.put, nA, nB, nC]
  refine wpU_take 3 (some 190) (v := ?_) rfl rfl (by kernel_rfl) (fun _ _ _ h => h) rfl (fun x hx => ?_) ?_
  rotate_left 1
  · obtain ⟨s0, s1, s2, s3, s4, s5⟩ := cells_s (hx.has HI6.out.blk); obtain ⟨p0, p1, p2, p3, p4, p5⟩ := cells_p (hx.has (HI6.out.foreign _ List.mem_cons_self).blk); obtain ⟨q0, q1, q2, q3, q4, q5, q6, q7, q8⟩ := cells_q (hx.has (HI6.out.foreign _ (List.mem_cons_of_mem _ List.mem_cons_self)).blk); simp only [Pat.op, Pat.text, Pat.num, Pat.lo, Pat.hi] at *; obtain ⟨e00, e01, e02, e03, e04, e05⟩ := HE0.out.below hx; simp only [Nat.zero_mul, Nat.zero_add] at e00 e01 e02 e03 e04 e05; go_simp; first | done | with_reducible rfl | rw [if_neg (by omega)] | rw [if_pos (by omega)]
  simp only [Act.put, nA, nB, nC]
  refine wpU_take 4 (some 191) (v := ?_) rfl rfl (by kernel_rfl) (fun _ _ _ h => h) rfl (fun x hx => ?_) ?_
  rotate_left 1
  · go_simp; first | done | with_reducible rfl | rw [if_neg (by omega)] | rw [if_pos (by omega)]
  simp only [Act.put, nA, nB, nC]
  refine wpU_take 5 (some 192) (v := ?_) rfl rfl (by kernel_rfl) (fun _ _ _ h => h) rfl (fun x hx => ?_) ?_
  rotate_left 1
  · obtain ⟨s0, s1, s2, s3, s4, s5⟩ := cells_s (hx.has HI6.out.blk); obtain ⟨p0, p1, p2, p3, p4, p5⟩ := cells_p (hx.has (HI6.out.foreign _ List.mem_cons_self).blk); obtain ⟨q0, q1, q2, q3, q4, q5, q6, q7, q8⟩ := cells_q (hx.has (HI6.out.foreign _ (List.mem_cons_of_mem _ List.mem_cons_self)).blk); simp only [Pat.op, Pat.text, Pat.num, Pat.lo, Pat.hi] at *; obtain ⟨e00, e01, e02, e03, e04, e05⟩ := HE0.out.below hx; simp only [Nat.zero_mul, Nat.zero_add] at e00 e01 e02 e03 e04 e05; go_simp; first | done | with_reducible rfl | rw [if_neg (by omega)] | rw [if_pos (by omega)]
  simp only [Act.put, nA, nB, nC]
  refine wpU_take 6 (some 193) (v := ?_) rfl rfl (by kernel_rfl) (fun _ _ _ h => h) rfl (fun x hx => ?_) ?_
  rotate_left 1
  · go_simp; first | done | with_reducible rfl | rw [if_neg (by omega)] | rw [if_pos (by omega)]
  simp only [Act.put, nA, nB, nC]
  refine wpU_take 7 (some 194) (v := ?_) rfl rfl (by kernel_rfl) (fun _ _ _ h => h) rfl (fun x hx => ?_) ?_
  rotate_left 1
  · obtain ⟨s0, s1, s2, s3, s4, s5⟩ := cells_s (hx.has HI6.out.blk); obtain ⟨p0, p1, p2, p3, p4, p5⟩ := cells_p (hx.has (HI6.out.foreign _ List.mem_cons_self).blk); obtain ⟨q0, q1, q2, q3, q4, q5, q6, q7, q8⟩ := cells_q (hx.has (HI6.out.foreign _ (List.mem_cons_of_mem _ List.mem_cons_self)).blk); simp only [Pat.op, Pat.text, Pat.num, Pat.lo, Pat.hi] at *; obtain ⟨e00, e01, e02, e03, e04, e05⟩ := HE0.out.below hx; simp only [Nat.zero_mul, Nat.zero_add] at e00 e01 e02 e03 e04 e05; go_simp; first | done | with_reducible rfl | rw [if_neg (by omega)] | rw [if_pos (by omega)]
  simp only [Act.put, nA, nB, nC]
  refine wpU_take 8 (some 195) (v := ?_) rfl rfl (by kernel_rfl) (fun _ _ _ h => h) rfl (fun x hx => ?_) ?_
  rotate_left 1
  · go_simp; first | done | with_reducible rfl | rw [if_neg (by omega)] | rw [if_pos (by omega)]
  simp only [Act.put, nA, nB, nC]
  refine wpU_last [_, _, _, _] (by kernel_rfl) rfl rfl ?_
  simp only [List.getElem_toArray, List.getElem_cons_succ, List.getElem_cons_zero]
  go_wp2_with fail
  refine (push_at HI6.out 0 k0 kA0 kc0 nx 0 HK0.out (by simp; omega) _ rfl).mono ?_
  rintro e w7 ⟨rfl, gv7, hI7⟩
  obtain ⟨gA7, gc7, rfl, _, _⟩ := hI7.goals.form
  have HI7 := Lib.hid hI7
  clear hI7
  obtain ⟨s0, s1, s2, s3, s4, s5⟩ := cells_s HI7.out.blk
  have f2 := frozen_of_row w7 M 2 _ _ HI7.out.blk
  have hint : ((gl.length : Int) + 1) ≤ 90001 := by omega
  go_wp2_with fail
  go_ret
  refine sdid_go (m' := m.choose (⟨0, k1, 0⟩ :: gs) m.at_) (HI7.out.setGoal ((gl.length : Int) + 1)) ?_ (by simp)
  have hc := Chain.push ⟨0, k0, .slice kA0 k0.kids.length kc0, nx, 0⟩ ⟨0, k0, 0⟩ (HCH.out.more [⟨0, k1, .slice kA1 k1.kids.length kc1, nx, 0⟩] gs nx) rfl rfl rfl
  rw [show (((gl ++ [(⟨0, k1, .slice kA1 k1.kids.length kc1, nx, 0⟩ : SG)]).length : Nat) : Int) = (gl.length : Int) + 1 by simp] at hc
  exact hc

end Go.Proofs.Ytndefbecoahfhaa

/- spec's l20Step does what the plain machine's step does. -/
namespace Go.Proofs.Ytndefbecoahfhaa
open Go.RowKit

theorem sstep_any {w0 w : World} {M : Nat} {dA : Option Addr} {dc : Nat} {s : ByteArray} {m : Mst} {gl : List SG} {gi : Int} {gv hv cv ev : Value} {hs : List Value} {defs : List Pat} {k : Nat} {g : Goal} {gs : List Goal}
    (h : SpecAt w0 w [] M m gl gi m.at_ gv hv cv ev hs) (hc : Chain gl gi (g :: gs)) (hok : Ok defs s k (g :: gs) m) (hk : k ≤ 5000) (hd : DefsOk defs) (hdefs : RowIn w0 dA 0 defs) (hss : s.size ≤ 120) (hlen : gl.length ≤ 90000) :
    Calls Try.prog 71 #[.pointer (some ⟨M, 0, none⟩), .slice dA defs.length dc, .string s] w (SDid w0 M m gl.length (step defs s g gs m)) := by
  obtain ⟨j, x, rfl, hj, e1, e2, e3, hch⟩ := hc
  obtain ⟨xk, xp, xv, nx, xf⟩ := x
  obtain ⟨kind, p, fr⟩ := g
  simp only at e1 e2 e3 hch
  subst e1 e2 e3
  obtain ⟨A, c, hv', _, _⟩ := (h.kids _ (List.mem_of_getElem? hj)).form
  simp only at hv'
  subst hv'
  have hv := hok.goals.head.val
  have hat := hok.at_
  have h1 := hok.nch
  have h2 := hok.nev
  have h3 := hok.ncap
  have hops := (valid_kids hv).1
  have hkind := hok.goals.head.kind
  simp only at hkind hv hops
  obtain ⟨op, text, num, lo, hi, kids⟩ := xp
  rcases hkind with ⟨rfl, rfl⟩ | ⟨rfl, ho⟩ | ⟨rfl, ho⟩ | ⟨rfl, ho⟩ | ⟨rfl, ho⟩
  · show Calls _ _ _ _ (SDid w0 M m gl.length (stepMatch defs s (.mk op text num lo hi kids) gs m))
    have ht : op = 11 ∨ op = 13 ∨ op = 14 ∨ op = 15 ∨ op = 16 ∨ op = 17 ∨ op = 18 ∨ op = 19 ∨ op = 20 ∨ op = 21 ∨ isSimple op := by
      simp only [Pat.op] at hops
      unfold isSimple
      omega
    rcases ht with rfl | rfl | rfl | rfl | rfl | rfl | rfl | rfl | rfl | rfl | hsi
    · by_cases hlt : m.at_ < s.size
      · rw [show stepMatch defs s (.mk 11 text num lo hi kids) gs m = .go gs (m.choose (⟨0, .mk 11 text num lo hi kids, 0⟩ :: gs) (m.at_ + 1)) by show Out.go gs (if m.at_ < s.size then _ else _) = _; rw [if_pos hlt]]
        exact sstep_arb_yes (fr := 0) h hj hch hlen hlt hss (by omega)
      · rw [show stepMatch defs s (.mk 11 text num lo hi kids) gs m = .go gs m by show Out.go gs (if m.at_ < s.size then _ else _) = _; rw [if_neg hlt]]
        exact sstep_arb_no h hj hch hlen hlt
    · have hl := kids_one hv (.inl rfl)
      match kids, hl with
      | [k0], _ => exact sstep_arbno h hj hch hlen (by omega)
    · have hl := kids_two hv (.inl rfl)
      match kids, hl with
      | [k0, k1], _ => exact sstep_cat h hj hch hlen
    · have hl := kids_two hv (.inr rfl)
      match kids, hl with
      | [k0, k1], _ => exact sstep_alt h hj hch hlen (by omega)
    · have hl := kids_one hv (.inr (.inl rfl))
      match kids, hl with
      | [k0], _ => exact sstep_assign h hj hch hlen
    · have hl := kids_one hv (.inr (.inr rfl))
      match kids, hl with
      | [k0], _ => exact sstep_immediate h hj hch hlen
    · exact sstep_cursor h hj hch hlen (by omega)
    · exact sstep_fence h hj hch hlen (by omega)
    · have hn := valid_var hv (.inr (.inr (.inr rfl)))
      have hn0 : 0 ≤ num := hn.1
      have hn1 : num < (defs.length : Int) := hn.2
      have hlt : num.toNat < defs.length := by omega
      rw [show stepMatch defs s (.mk 20 text num lo hi kids) gs m = .go (⟨0, defs[num.toNat], 0⟩ :: gs) m by
        show Out.go (⟨0, defs.getD num.toNat _, 0⟩ :: gs) m = _
        simp [List.getD, hlt]]
      exact sstep_defer (num := num) h hj hch hlen (Int.toNat_of_nonneg hn0).symm hlt rfl hdefs
    · exact sstep_abort h hj hch hlen
    · rw [stepMatch_simple (p := .mk op text num lo hi kids) hsi]
      have hw := valid_words hv
      simp only [Pat.op, Pat.text, Pat.num] at hw
      cases hz : oneEnd op text num lo hi s m.at_ with
      | some z =>
        simp only [Pat.op, Pat.text, Pat.num, Pat.lo, Pat.hi, hz]
        exact sstep_some h hj hch hlen hsi hw hss hat hz
      | none =>
        simp only [Pat.op, Pat.text, Pat.num, Pat.lo, Pat.hi, hz]
        exact sstep_none h hj hch hlen hsi hw hss hat hz
  · exact sstep_cap h hj hch hlen (by omega)
  · exact sstep_event h hj hch hlen (by omega)
  · have hl := kids_one hv (.inl ho)
    match kids, hl with
    | [k0], _ => exact sstep_extend h hj hch hlen
  · by_cases hf : (m.at_ : Int) = xf
    · rw [show step defs s ⟨4, .mk op text num lo hi kids, xf⟩ gs m = .fail by show (if (m.at_ : Int) = xf then Out.fail else _) = _; rw [if_pos hf]]
      exact sstep_check_fail h hj hch hlen (by simp [hf])
    · rw [show step defs s ⟨4, .mk op text num lo hi kids, xf⟩ gs m = .go (⟨0, .mk op text num lo hi kids, 0⟩ :: gs) m by show (if (m.at_ : Int) = xf then Out.fail else _) = _; rw [if_neg hf]]
      exact sstep_check_go h hj hch hlen (by simp [hf])

end Go.Proofs.Ytndefbecoahfhaa

/- What spec's l20Match is said with; append onto an empty row of one's own. No walk in sight. -/
namespace Go.Proofs.Ytndefbecoahfhaa
open Go.RowKit

section
variable {P : Program} (w : World)
/-- append([]T{}, xs...): a copy. -/
theorem run_append_fresh (base base2 : Nat) (t ty e : TypeId) (i : TypeInfo) (z : Value) (size bytes : Nat) (ht : P.underlying t = some (.slice e)) (hi : P.info? e = some i) (hz : i.zero = some z)
    (hsize : i.size = size) (hby : i.bytes = bytes) (hzs : z.cells.size = size) {B : Nat} (hB : w.heap[B]? = some (.cells #[] e (0, 0))) (hbase : base ≤ B)
    {v2 : Value} {m : Nat} {ys : List Value} (hsrc : HasRow w base2 e size v2 m ys) (hm : m ≤ 1000000) (hbytes : bytes ≤ 1000) :
    ∃ v' w', (Builtin.append_ #[t, t] ty #[.slice (some ⟨B, 0, none⟩) 0 0, v2]).run P w = .ok v' w' ∧ HasRow w' base e size v' m ys ∧ Later w w' ∧ (v'.ownBlock = some B ∨ v'.ownBlock = some w.heap.size) := by
  subst hsize
  subst hby
  have hBlt := has_lt hB
  by_cases h0 : m = 0
  · subst h0
    have hy : ys = [] := List.eq_nil_of_length_eq_zero (by simpa using hsrc.1)
    subst hy
    refine ⟨.slice (some ⟨B, 0, none⟩) 0 0, w, ?_, ⟨by simp, .inr ⟨B, 0, #[], rfl, hbase, hB, Nat.le_refl _, Nat.zero_le _, by simp, by simp⟩⟩, Later.refl w, .inl rfl⟩
    obtain ⟨A, c, rfl, _, _⟩ := hsrc.form
    cases A <;> simp [Builtin.append_, run_underlying ht, sizeOf, typeInfo, hi, Builtin.lenOf, Builtin.firstCells, loadCells, loadCellsFrom, storeCells]
  · obtain ⟨g, c, rfl, _, hc1, hc2⟩ := hsrc.block_ (by omega)
    have hcells := hsrc.cells (g := g) rfl
    have hnews : ∀ j u, ys[j]? = some u → w.cell? ((⟨g, 0, none⟩ : Addr).add j) = some u := fun j u hu => by
      have hadd : (⟨g, 0, none⟩ : Addr).add j = ⟨g, j, none⟩ := by unfold Addr.add; split <;> simp_all
      rw [hadd]
      exact hcells j u hu
    have hr := run_append_grow (P := P) w t ty e i z ht hi hz ⟨B, 0, none⟩ 0 0 [] (by simp) (fun j u hu => by simp at hu) ⟨g, 0, none⟩ m c ys hsrc.1 hnews (by omega) (by omega)
      (growslice_fits (by omega) (by have := Nat.mul_le_mul (show 0 + m ≤ 1000000 by omega) hbytes; omega))
    have hge := grownCap_ge w (0 + m) 0 e
    have hcm : grownCap w (0 + m) 0 e ≤ maxLen := grownCap_le_maxLen w (0 + m) 0 e (by simp only [maxLen]; omega)
    refine ⟨_, _, hr, ⟨hsrc.1, .inr ⟨w.heap.size, _, _, by rw [Nat.zero_add], by omega, heap_alloc_new w.drew _, by omega, hcm, ?_, ?_⟩⟩, ((Later.refl w).drew.alloc _), .inr rfl⟩
    · simp only [Array.size_append, List.size_toArray, size_zeroCells, hzs, hsrc.1, List.length_nil, Nat.zero_add]
      rw [← Nat.add_mul]
      refine Nat.mul_le_mul_right _ ?_
      have h2 := hge
      rw [Nat.zero_add] at h2
      omega
    · simp only [Array.toList_append, List.append_assoc]
      rw [List.nil_append, ← hsrc.1]
      exact List.take_left

theorem wpList_append_fresh {ops : Array Oper} {rest : List Oper} {o : Oper} {a : Act} {Q : Exit → Act → World → Prop} (hgd : o.guard = none) (s x : Operand) (t : TypeId)
    (ho : o.op = .call { callee := .builtin .append, args := #[s, x], argTypes := #[t, t] })
    (base base2 : Nat) (e : TypeId) (i : TypeInfo) (z : Value) (size bytes : Nat) (ht : P.underlying t = some (.slice e)) (hi : P.info? e = some i) (hz : i.zero = some z)
    (hsize : i.size = size) (hby : i.bytes = bytes) (hzs : z.cells.size = size) {B : Nat} (hs : a.eval s = .slice (some ⟨B, 0, none⟩) 0 0) (hB : w.heap[B]? = some (.cells #[] e (0, 0))) (hbase : base ≤ B)
    {v2 : Value} {m : Nat} {ys : List Value} (hx : a.eval x = v2) (hsrc : HasRow w base2 e size v2 m ys) (hm : m ≤ 1000000) (hbytes : bytes ≤ 1000)
    (h : ∀ v' w', HasRow w' base e size v' m ys → Later w w' → (v'.ownBlock = some B ∨ v'.ownBlock = some w.heap.size) → wpList P ops Q rest (a.put o.dst v') w') : wpList P ops Q (o :: rest) a w := by
  refine wpList_plain hgd fun _ hK => ?_
  obtain ⟨v', w', hr, h2, h3, h4⟩ := run_append_fresh (P := P) w base base2 t o.type e i z size bytes ht hi hz hsize hby hzs hB hbase hsrc hm hbytes
  unfold Oper.wp execOp
  simp only [ho, resolve, invoke, builtin, Sem.run_bind, Sem.run_pure, Result.andThen_ok, List.map_toArray, List.map_cons, List.map_nil, hs, hx, hr]
  exact hK _ _ (h v' w' h2 h3 h4)
end

section
variable {w0 w : World} {F : List (Nat × Obj)} {M : Nat} {m : Mst} {gl : List SG} {gi ai : Int} {gv hv cv ev : Value} {hs : List Value}
theorem foreign_to {w' : World} {hv' cv' : Value} (h : ∀ x ∈ F, Foreign w x M gv hv cv ev) (hh : hv'.ownBlock = hv.ownBlock) (hc : cv'.ownBlock = cv.ownBlock) : ∀ x ∈ F, Foreign w x M gv hv' cv' ev := fun y hy =>
  ⟨(h y hy).blk, (h y hy).m, (h y hy).g, by rw [hh]; exact (h y hy).h, by rw [hc]; exact (h y hy).c, (h y hy).e⟩
/-- The last choice is taken away. -/
theorem spec_pop {cs : List Choice} {c : Choice} {g hc : Nat} (h : SpecAt w0 w F M m gl gi ai gv (.slice (some ⟨g, 0, none⟩) (cs.length + 1) hc) cv ev hs) (hcs : m.choices = cs ++ [c]) :
    ∃ a i, hs = a ++ [.int .i64 i, .int .i64 c.at_, .int .i64 c.ncap] ∧ ((c.stop = true ∧ i = -2) ∨ (c.stop = false ∧ Chain gl i c.goals)) ∧ a.length = cs.length * 3 ∧
      SpecAt w0 (w.setCell ⟨M, 1, none⟩ (.slice (some ⟨g, 0, none⟩) cs.length hc)) F M { m with choices := cs } gl gi ai gv (.slice (some ⟨g, 0, none⟩) cs.length hc) cv ev a := by
  have h6 := h.are
  have h5 := h.chs
  rw [hcs] at h6 h5
  obtain ⟨a, b, rfl, h1, i, rfl, h2⟩ := SChoicesAre.pop cs hs h6
  have hla := SChoicesAre.len cs a h1
  refine ⟨a, i, rfl, h2, hla, SpecAt.set (m := { m with choices := cs }) h.blk rfl h.base h.goals h.kids ?_ h1 h.caps h.evs h.apart (foreign_to (w' := w) h.foreign rfl rfl) h.below⟩
  have hl : (cs ++ [c]).length = cs.length + 1 := by simp
  rw [hl] at h5
  have := h5.cut (k := cs.length) (c := hc) (by omega) (by have := h5.form; obtain ⟨A, cap, e, h7, _⟩ := this; cases e; omega) (Nat.le_refl _)
  simpa [← hla] using this
/-- The captures are cut. -/
theorem spec_cut {g cc k : Nat} (h : SpecAt w0 w F M m gl gi ai gv hv (.slice (some ⟨g, 0, none⟩) m.caps.length cc) ev hs) (hk : k ≤ m.caps.length) :
    SpecAt w0 (w.setCell ⟨M, 4, none⟩ (.slice (some ⟨g, 0, none⟩) k cc)) F M { m with caps := m.caps.take k } gl gi ai gv hv (.slice (some ⟨g, 0, none⟩) k cc) ev hs := by
  have hc : m.caps.length ≤ cc := by obtain ⟨A, cap, e, h7, _⟩ := h.caps.form; cases e; omega
  refine SpecAt.set (m := { m with caps := m.caps.take k }) h.blk rfl h.base h.goals h.kids h.chs h.are ?_ h.evs h.apart (foreign_to (w' := w) h.foreign rfl rfl) h.below
  have := h.caps.cut (c := cc) hk (by omega) (Nat.le_refl _)
  rw [capCells_take] at this
  simpa [Nat.min_eq_left hk] using this
theorem spec_cut_nil {k : Nat} (h : SpecAt w0 w F M m gl gi ai gv hv (.slice none 0 0) ev hs) (hk : k = 0) :
    SpecAt w0 (w.setCell ⟨M, 4, none⟩ (.slice none 0 0)) F M { m with caps := m.caps.take k } gl gi ai gv hv (.slice none 0 0) ev hs := by
  subst hk
  exact SpecAt.set (m := { m with caps := m.caps.take 0 }) h.blk rfl h.base h.goals h.kids h.chs h.are (by simpa [capCells] using HasRow.nil w w0.heap.size TK 3) h.evs h.apart h.foreign h.below

theorem stop_cells {j k g hc : Nat} {a : List Value} {v0 v1 v2 : Value} (h : SpecAt w0 w F M m gl gi ai gv (.slice (some ⟨g, 0, none⟩) k hc) cv ev (a ++ [v0, v1, v2])) (ha : a.length = j * 3) :
    w.cell? ⟨g, j * 3, none⟩ = some v0 ∧ w.cell? ⟨g, j * 3 + 1, none⟩ = some v1 ∧ w.cell? ⟨g, j * 3 + 2, none⟩ = some v2 := by
  have hc := h.chs.cells (g := g) rfl
  have at_ : ∀ i u, (a ++ [v0, v1, v2])[j * 3 + i]? = some u → w.cell? ⟨g, j * 3 + i, none⟩ = some u := fun i u hu => hc _ u hu
  refine ⟨at_ 0 v0 ?_, at_ 1 v1 ?_, at_ 2 v2 ?_⟩ <;> rw [← ha, List.getElem?_append_right (by omega)] <;> simp

theorem specAt_start {wA : World} {fr : Int} : SpecAt wA (wA.alloc (.cells (sCells (.slice none 0 0) (.slice none 0 0) 0 fr (.slice none 0 0) (.slice none 0 0)) TS)) [] wA.heap.size (.start fr.toNat) [] 0 fr (.slice none 0 0) (.slice none 0 0) (.slice none 0 0) (.slice none 0 0) [] :=
  ⟨heap_alloc_new wA _, Nat.le_refl _, HasRow.nil _ _ _ _, (fun g hg => by cases hg), HasRow.nil _ _ _ _, rfl, HasRow.nil _ _ _ _, HasRow.nil _ _ _ _, .inl rfl, (fun x hx => by cases hx), (Below.refl _ _).alloc (Nat.le_refl _) _⟩
end

/-- What holds at the head of l20Match's loop; k rounds at most are to come. -/
def LoopS (wA : World) (defs : List Pat) (s : ByteArray) (M fuel : Nat) (RES : Res) (k : Nat) (st : Value) (wr : World) : Prop :=
  ∃ n m gl gi ai gv hv cv ev hs, st = .int .i64 (n : Nat) ∧ n ≤ fuel ∧ SpecAt wA wr [] M m gl gi ai gv hv cv ev hs ∧
    ((gi = -2 ∧ RES = ⟨false, true, false, 0, n, [], m.events⟩) ∨ ∃ gs, n + k = fuel ∧ ai = m.at_ ∧ Chain gl gi gs ∧ Ok defs s n gs m ∧ gl.length ≤ 2 * n + 1 ∧ play defs s k n gs m = RES)

theorem cells_d {x : World} {b : Nat} {v0 v1 v2 : Value} (h : x.heap[b]? = some (.cells #[v0, v1, v2] TD (0, 0))) :
    x.cell? ⟨b, 0, none⟩ = some v0 ∧ x.cell? ⟨b, 1, none⟩ = some v1 ∧ x.cell? ⟨b, 2, none⟩ = some v2 :=
  ⟨cell_of_row x b 0 _ _ _ h, cell_of_row x b 1 _ _ _ h, cell_of_row x b 2 _ _ _ h⟩

end Go.Proofs.Ytndefbecoahfhaa
