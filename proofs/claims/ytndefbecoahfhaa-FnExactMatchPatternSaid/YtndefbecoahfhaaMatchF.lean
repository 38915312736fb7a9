/- impl's match. Printed by gen_match.py. -/
import Derived.Test.YtndefbecoahfhaaMatchBase
namespace Go.Proofs.Ytndefbecoahfhaa
open Go.RowKit

set_option maxRecDepth 100000 in
set_option maxHeartbeats 1000000 in
theorem match_defer {w0 w : World} {M : Nat} {dv : Value} {s : ByteArray} {n : Nat} {m : Mst} {cv ev hv : Value} {hs : List Value} {text : ByteArray} {num lo hi : Int} {l : Nat} {A : Option Addr} {c : Nat} {fr : Int} {nv : Value} {gs : List Goal} {b : Nat} {defs : List Pat} {dA : Option Addr} {dc : Nat} {i : Nat}
    (h : ImplAt w0 w M dv s n m cv ev hv hs) (hb : w.heap[b]? = some (.cells #[.int .i64 0, .int .i64 20, .string text, .int .i64 num, .int .i64 lo, .int .i64 hi, .slice A l c, .int .i64 fr, nv] TG (0, 0)))
    (hnv : GoalsAt w0 w gs nv) (hnum : num = (i : Int)) (hil : i < defs.length) (hdv : dv = .slice dA defs.length dc) (hdefs : RowIn w0 dA 0 defs) :
    Calls Try.prog 68 #[.pointer (some ⟨M, 0, none⟩), .pointer (some ⟨b, 0, none⟩)] w (Did w0 M dv s n m (.go (⟨0, defs[i], 0⟩ :: gs) m)) := by
  have hblk := h.blk
  obtain ⟨np, rfl⟩ := hnv.ptr
  obtain ⟨cA, cc, rfl, _, _⟩ := h.caps.form
  obtain ⟨eA, ec, rfl, _, _⟩ := h.evs.form
  obtain ⟨hA, hc, rfl, _, _⟩ := h.chs.form
  obtain ⟨b0, b1, b2, b3, b4, b5, b6, b7, b8⟩ := cells_g hb
  have HI := Lib.hid h
  have HN := Lib.hid hnv
  have HB := Lib.hid hb
  skip
  have hbel := h.below.size
  have hMb : ¬ M = b := ne_of_type hblk hb (by decide)
  have hbM : ¬ b = M := fun e => hMb e.symm
  subst hdv hnum
  have HR := Lib.hid hdefs
  have hi' : (i : Int) < defs.length := by omega
  clear hdefs
  clear h hnv hb
  go_enter Try.func68, Try.ntmps68
  go_wp2_with fail
  clear b0 b1 b2 b3 b4 b5 b6 b7 b8
  -- region 2: 17 operations, the last []
  refine wpU_begin [] [] (by kernel_rfl) (fun w1 hw1 => ?_)
  obtain ⟨hl1, hp1⟩ := drew_alloc hw1
  have HP1 := Lib.hid hp1
  have HM1 := Lib.hid (hl1.has hblk)
  have HL1 := Lib.hid hl1
  clear hw1 hl1 hp1 hblk
  refine wpU_take 0 (some 16) (v := ?_) rfl rfl (by kernel_rfl) (fun _ _ _ h => h) rfl (fun x hx => ?_) ?_
  rotate_left 1
  · obtain ⟨m0, m1, m2, m8, m9, m10, m11⟩ := cells_m (hx.has HM1.out); obtain ⟨p0, p1, p2, p3, p4, p5⟩ := cells_p (hx.has HP1.out); go_simp; first | done | with_reducible rfl | rw [if_neg (by omega)] | rw [if_pos (by omega)]
  simp only [Act.put, List.setIfInBounds_toArray, List.set_cons_zero, List.set_cons_succ]
  refine wpU_take 1 (some 17) (v := ?_) rfl rfl (by kernel_rfl) (fun _ _ _ h => h) rfl (fun x hx => ?_) ?_
  rotate_left 1
  · go_simp; first | done | with_reducible rfl | rw [if_neg (by omega)] | rw [if_pos (by omega)]
  simp only [Act.put, List.setIfInBounds_toArray, List.set_cons_zero, List.set_cons_succ]
  refine wpU_take 2 (some 18) (v := ?_) rfl rfl (by kernel_rfl) (fun _ _ _ h => h) rfl (fun x hx => ?_) ?_
  rotate_left 1
  · go_simp; first | done | with_reducible rfl | rw [if_neg (by omega)] | rw [if_pos (by omega)]
  simp only [Act.put, List.setIfInBounds_toArray, List.set_cons_zero, List.set_cons_succ]
  refine wpU_take 3 (some 19) (v := ?_) rfl rfl (by kernel_rfl) (fun _ _ _ h => h) rfl (fun x hx => ?_) ?_
  rotate_left 1
  · go_simp; first | done | with_reducible rfl | rw [if_neg (by omega)] | rw [if_pos (by omega)]
  simp only [Act.put, List.setIfInBounds_toArray, List.set_cons_zero, List.set_cons_succ]
  refine wpU_take 4 (some 20) (v := ?_) rfl rfl (by kernel_rfl) (fun _ _ _ h => h) rfl (fun x hx => ?_) ?_
  rotate_left 1
  · obtain ⟨m0, m1, m2, m8, m9, m10, m11⟩ := cells_m (hx.has HM1.out); obtain ⟨p0, p1, p2, p3, p4, p5⟩ := cells_p (hx.has HP1.out); go_simp; first | done | with_reducible rfl | rw [if_neg (by omega)] | rw [if_pos (by omega)]
  simp only [Act.put, List.setIfInBounds_toArray, List.set_cons_zero, List.set_cons_succ]
  refine wpU_take 5 (some 21) (v := ?_) rfl rfl (by kernel_rfl) (fun _ _ _ h => h) rfl (fun x hx => ?_) ?_
  rotate_left 1
  · go_simp; first | done | with_reducible rfl | rw [if_neg (by omega)] | rw [if_pos (by omega)]
  simp only [Act.put, List.setIfInBounds_toArray, List.set_cons_zero, List.set_cons_succ]
  refine wpU_take 6 (some 22) (v := ?_) rfl rfl (by kernel_rfl) (fun _ _ _ h => h) rfl (fun x hx => ?_) ?_
  rotate_left 1
  · go_simp; first | done | with_reducible rfl | rw [if_neg (by omega)] | rw [if_pos (by omega)]
  simp only [Act.put, List.setIfInBounds_toArray, List.set_cons_zero, List.set_cons_succ]
  refine wpU_take 7 (some 23) (v := ?_) rfl rfl (by kernel_rfl) (fun _ _ _ h => h) rfl (fun x hx => ?_) ?_
  rotate_left 1
  · go_simp; first | done | with_reducible rfl | rw [if_neg (by omega)] | rw [if_pos (by omega)]
  simp only [Act.put, List.setIfInBounds_toArray, List.set_cons_zero, List.set_cons_succ]
  refine wpU_take 8 (some 24) (v := ?_) rfl rfl (by kernel_rfl) (fun _ _ _ h => h) rfl (fun x hx => ?_) ?_
  rotate_left 1
  · obtain ⟨m0, m1, m2, m8, m9, m10, m11⟩ := cells_m (hx.has HM1.out); obtain ⟨p0, p1, p2, p3, p4, p5⟩ := cells_p (hx.has HP1.out); go_simp; first | done | with_reducible rfl | rw [if_neg (by omega)] | rw [if_pos (by omega)]
  simp only [Act.put, List.setIfInBounds_toArray, List.set_cons_zero, List.set_cons_succ]
  refine wpU_step 9 (by kernel_rfl) rfl rfl ?_  -- call value (Go.Operand.func 78)
  go_wp2_with fail
  refine (simple_else text (i : Int) lo hi A l c s m.at_ _ 20 (by omega)).mono ?_
  rintro e w2 ⟨rfl, hb2⟩
  go_wp2_with fail
  refine ⟨hb2, ?_⟩
  have HI2 := Lib.hid (HI.out.later (HL1.out.trans hb2))
  have HN2 := Lib.hid (HN.out.later (HL1.out.trans hb2))
  have HB2 := Lib.hid ((HL1.out.trans hb2).has HB.out)
  have HP2 := Lib.hid (Later.has hb2 HP1.out)
  clear HP1 HM1 HI HN HB HL1 hb2
  refine wpU_take 10 (some 15) (v := ?_) rfl rfl (by kernel_rfl) (fun _ _ _ h => h) rfl (fun x hx => ?_) ?_
  rotate_left 1
  · go_simp; first | done | with_reducible rfl | rw [if_neg (by omega)] | rw [if_pos (by omega)]
  simp only [Act.put, List.setIfInBounds_toArray, List.set_cons_zero, List.set_cons_succ]
  refine wpU_take 11 (some 26) (v := ?_) rfl rfl (by kernel_rfl) (fun _ _ _ h => h) rfl (fun x hx => ?_) ?_
  rotate_left 1
  · go_simp; first | done | with_reducible rfl | rw [if_neg (by omega)] | rw [if_pos (by omega)]
  simp only [Act.put, List.setIfInBounds_toArray, List.set_cons_zero, List.set_cons_succ]
  refine wpU_take 12 (some 27) (v := ?_) rfl rfl (by kernel_rfl) (fun _ _ _ h => h) rfl (fun x hx => ?_) ?_
  rotate_left 1
  · go_simp; first | done | with_reducible rfl | rw [if_neg (by omega)] | rw [if_pos (by omega)]
  simp only [Act.put, List.setIfInBounds_toArray, List.set_cons_zero, List.set_cons_succ]
  refine wpU_take 13 (some 28) (v := ?_) rfl rfl (by kernel_rfl) (fun _ _ _ h => h) rfl (fun x hx => ?_) ?_
  rotate_left 1
  · go_simp; first | done | with_reducible rfl | rw [if_neg (by omega)] | rw [if_pos (by omega)]
  simp only [Act.put, List.setIfInBounds_toArray, List.set_cons_zero, List.set_cons_succ]
  refine wpU_take 14 (some 8) (v := ?_) rfl rfl (by kernel_rfl) (fun _ _ _ h => h) rfl (fun x hx => ?_) ?_
  rotate_left 1
  · go_simp; first | done | with_reducible rfl | rw [if_neg (by omega)] | rw [if_pos (by omega)]
  simp only [Act.put, List.setIfInBounds_toArray, List.set_cons_zero, List.set_cons_succ]
  refine wpU_take 15 (some 9) (v := ?_) rfl rfl (by kernel_rfl) (fun _ _ _ h => h) rfl (fun x hx => ?_) ?_
  rotate_left 1
  · go_simp; first | done | with_reducible rfl | rw [if_neg (by omega)] | rw [if_pos (by omega)]
  simp only [Act.put, List.setIfInBounds_toArray, List.set_cons_zero, List.set_cons_succ]
  refine wpU_take 16 (some 10) (v := ?_) rfl rfl (by kernel_rfl) (fun _ _ _ h => h) rfl (fun x hx => ?_) ?_
  rotate_left 1
  · go_simp; first | done | with_reducible rfl | rw [if_neg (by omega)] | rw [if_pos (by omega)]
  simp only [Act.put, List.setIfInBounds_toArray, List.set_cons_zero, List.set_cons_succ]
  refine wpU_last [] (by kernel_rfl) rfl rfl ?_
  obtain ⟨m0, m1, m2, m8, m9, m10, m11⟩ := cells_m HI2.out.blk
  obtain ⟨p0, p1, p2, p3, p4, p5⟩ := cells_p HP2.out
  obtain ⟨b0, b1, b2, b3, b4, b5, b6, b7, b8⟩ := cells_g HB2.out
  go_wp2_with fail
  clear m0 m1 m2 m8 m9 m10 m11 p0 p1 p2 p3 p4 p5 b0 b1 b2 b3 b4 b5 b6 b7 b8
  -- region 31: 17 operations, the last []
  refine wpU_begin [] [] (by kernel_rfl) (fun w3 hw3 => ?_)
  have hl3 := drew_later hw3
  have HI3 := Lib.hid (HI2.out.later hl3)
  have HN3 := Lib.hid (HN2.out.later hl3)
  have HB3 := Lib.hid (hl3.has HB2.out)
  have HP3 := Lib.hid (hl3.has HP2.out)
  clear hw3 hl3 HI2 HN2 HB2 HP2
  obtain ⟨g0, kA0, kc0, hA0, hk0, he0⟩ := kid_cells HR.out hil HI3.out.below
  have HK0 := Lib.hid hk0
  have HE0 := Lib.hid he0
  clear hk0 he0
  subst hA0
  refine wpU_take 0 (some 211) (v := ?_) rfl rfl (by kernel_rfl) (fun _ _ _ h => h) rfl (fun x hx => ?_) ?_
  rotate_left 1
  · go_simp; first | done | with_reducible rfl | rw [if_neg (by omega)] | rw [if_pos (by omega)]
  simp only [Act.put, List.setIfInBounds_toArray, List.set_cons_zero, List.set_cons_succ]
  refine wpU_take 1 (some 212) (v := ?_) rfl rfl (by kernel_rfl) (fun _ _ _ h => h) rfl (fun x hx => ?_) ?_
  rotate_left 1
  · go_simp; first | done | with_reducible rfl | rw [if_neg (by omega)] | rw [if_pos (by omega)]
  simp only [Act.put, List.setIfInBounds_toArray, List.set_cons_zero, List.set_cons_succ]
  refine wpU_take 2 (some 213) (v := ?_) rfl rfl (by kernel_rfl) (fun _ _ _ h => h) rfl (fun x hx => ?_) ?_
  rotate_left 1
  · go_simp; first | done | with_reducible rfl | rw [if_neg (by omega)] | rw [if_pos (by omega)]
  simp only [Act.put, List.setIfInBounds_toArray, List.set_cons_zero, List.set_cons_succ]
  refine wpU_take 3 (some 214) (v := ?_) rfl rfl (by kernel_rfl) (fun _ _ _ h => h) rfl (fun x hx => ?_) ?_
  rotate_left 1
  · obtain ⟨m0, m1, m2, m8, m9, m10, m11⟩ := cells_m (hx.has HI3.out.blk); obtain ⟨p0, p1, p2, p3, p4, p5⟩ := cells_p (hx.has HP3.out); obtain ⟨b0, b1, b2, b3, b4, b5, b6, b7, b8⟩ := cells_g (hx.has HB3.out); obtain ⟨e00, e01, e02, e03, e04, e05⟩ := HE0.out.below hx; go_simp; first | done | with_reducible rfl | rw [if_neg (by omega)] | rw [if_pos (by omega)]
  simp only [Act.put, List.setIfInBounds_toArray, List.set_cons_zero, List.set_cons_succ]
  refine wpU_take 4 (some 215) (v := ?_) rfl rfl (by kernel_rfl) (fun _ _ _ h => h) rfl (fun x hx => ?_) ?_
  rotate_left 1
  · go_simp; first | done | with_reducible rfl | rw [if_neg (by omega)] | rw [if_pos (by omega)]
  simp only [Act.put, List.setIfInBounds_toArray, List.set_cons_zero, List.set_cons_succ]
  refine wpU_take 5 (some 216) (v := ?_) rfl rfl (by kernel_rfl) (fun _ _ _ h => h) rfl (fun x hx => ?_) ?_
  rotate_left 1
  · obtain ⟨m0, m1, m2, m8, m9, m10, m11⟩ := cells_m (hx.has HI3.out.blk); obtain ⟨p0, p1, p2, p3, p4, p5⟩ := cells_p (hx.has HP3.out); obtain ⟨b0, b1, b2, b3, b4, b5, b6, b7, b8⟩ := cells_g (hx.has HB3.out); obtain ⟨e00, e01, e02, e03, e04, e05⟩ := HE0.out.below hx; go_simp; first | done | with_reducible rfl | rw [if_neg (by omega)] | rw [if_pos (by omega)]
  simp only [Act.put, List.setIfInBounds_toArray, List.set_cons_zero, List.set_cons_succ]
  refine wpU_take 6 (some 217) (v := ?_) rfl rfl (by kernel_rfl) (fun _ _ _ h => h) rfl (fun x hx => ?_) ?_
  rotate_left 1
  · go_simp; first | done | with_reducible rfl | rw [if_neg (by omega)] | rw [if_pos (by omega)]
  simp only [Act.put, List.setIfInBounds_toArray, List.set_cons_zero, List.set_cons_succ]
  refine wpU_take 7 (some 218) (v := ?_) rfl rfl (by kernel_rfl) (fun _ _ _ h => h) rfl (fun x hx => ?_) ?_
  rotate_left 1
  · obtain ⟨m0, m1, m2, m8, m9, m10, m11⟩ := cells_m (hx.has HI3.out.blk); obtain ⟨p0, p1, p2, p3, p4, p5⟩ := cells_p (hx.has HP3.out); obtain ⟨b0, b1, b2, b3, b4, b5, b6, b7, b8⟩ := cells_g (hx.has HB3.out); obtain ⟨e00, e01, e02, e03, e04, e05⟩ := HE0.out.below hx; go_simp; first | done | with_reducible rfl | rw [if_neg (by omega)] | rw [if_pos (by omega)]
  simp only [Act.put, List.setIfInBounds_toArray, List.set_cons_zero, List.set_cons_succ]
  refine wpU_take 8 (some 219) (v := ?_) rfl rfl (by kernel_rfl) (fun _ _ _ h => h) rfl (fun x hx => ?_) ?_
  rotate_left 1
  · go_simp; first | done | with_reducible rfl | rw [if_neg (by omega)] | rw [if_pos (by omega)]
  simp only [Act.put, List.setIfInBounds_toArray, List.set_cons_zero, List.set_cons_succ]
  refine wpU_take 9 (some 220) (v := ?_) rfl rfl (by kernel_rfl) (fun _ _ _ h => h) rfl (fun x hx => ?_) ?_
  rotate_left 1
  · go_simp; first | done | with_reducible rfl | rw [if_neg (by omega)] | rw [if_pos (by omega)]
  simp only [Act.put, List.setIfInBounds_toArray, List.set_cons_zero, List.set_cons_succ]
  refine wpU_take 10 (some 221) (v := ?_) rfl rfl (by kernel_rfl) (fun _ _ _ h => h) rfl (fun x hx => ?_) ?_
  rotate_left 1
  · go_simp; first | done | with_reducible rfl | rw [if_neg (by omega)] | rw [if_pos (by omega)]
  simp only [Act.put, List.setIfInBounds_toArray, List.set_cons_zero, List.set_cons_succ]
  refine wpU_take 11 (some 222) (v := ?_) rfl rfl (by kernel_rfl) (fun _ _ _ h => h) rfl (fun x hx => ?_) ?_
  rotate_left 1
  · obtain ⟨m0, m1, m2, m8, m9, m10, m11⟩ := cells_m (hx.has HI3.out.blk); obtain ⟨p0, p1, p2, p3, p4, p5⟩ := cells_p (hx.has HP3.out); obtain ⟨b0, b1, b2, b3, b4, b5, b6, b7, b8⟩ := cells_g (hx.has HB3.out); obtain ⟨e00, e01, e02, e03, e04, e05⟩ := HE0.out.below hx; go_simp; first | done | with_reducible rfl | rw [if_neg (by omega)] | rw [if_pos (by omega)]
  simp only [Act.put, List.setIfInBounds_toArray, List.set_cons_zero, List.set_cons_succ]
  refine wpU_take 12 (some 223) (v := ?_) rfl rfl (by kernel_rfl) (fun _ _ _ h => h) rfl (fun x hx => ?_) ?_
  rotate_left 1
  · go_simp; first | done | with_reducible rfl | rw [if_neg (by omega)] | rw [if_pos (by omega)]
  simp only [Act.put, List.setIfInBounds_toArray, List.set_cons_zero, List.set_cons_succ]
  refine wpU_step 13 (by kernel_rfl) rfl rfl ?_  -- box 
  go_wp2_with fail
  refine ⟨(Later.refl _).alloc _, ?_⟩
  refine wpU_take 14 (some 4) (v := ?_) rfl rfl (by kernel_rfl) (fun _ _ _ h => h) rfl (fun x hx => ?_) ?_
  rotate_left 1
  · go_simp; first | done | with_reducible rfl | rw [if_neg (by omega)] | rw [if_pos (by omega)]
  simp only [Act.put, List.setIfInBounds_toArray, List.set_cons_zero, List.set_cons_succ]
  refine wpU_take 15 (some 5) (v := ?_) rfl rfl (by kernel_rfl) (fun _ _ _ h => h) rfl (fun x hx => ?_) ?_
  rotate_left 1
  · go_simp; first | done | with_reducible rfl | rw [if_neg (by omega)] | rw [if_pos (by omega)]
  simp only [Act.put, List.setIfInBounds_toArray, List.set_cons_zero, List.set_cons_succ]
  refine wpU_take 16 (some 6) (v := ?_) rfl rfl (by kernel_rfl) (fun _ _ _ h => h) rfl (fun x hx => ?_) ?_
  rotate_left 1
  · go_simp; first | done | with_reducible rfl | rw [if_neg (by omega)] | rw [if_pos (by omega)]
  simp only [Act.put, List.setIfInBounds_toArray, List.set_cons_zero, List.set_cons_succ]
  refine wpU_last [] (by kernel_rfl) rfl rfl ?_
  go_wp2_with fail
  go_ret3
  exact did_go (gv := .pointer (some ⟨w3.heap.size, 0, none⟩)) (HN3.out.pushAt ⟨0, defs[i], 0⟩ HK0.out _ rfl) (HI3.out.later ((Later.refl _).alloc _))

end Go.Proofs.Ytndefbecoahfhaa
