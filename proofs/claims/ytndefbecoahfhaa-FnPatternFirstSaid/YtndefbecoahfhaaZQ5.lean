/- Part of the walks that the claim stands on. -/
import Derived.Test.YtndefbecoahfhaaZQ4
import Derived.Deep.LoopGhost

/- impl's match. Printed by gen_match.py. -/
namespace Go.Proofs.Ytndefbecoahfhaa
open Go.RowKit

set_option maxRecDepth 100000 in
set_option maxHeartbeats 1000000 in
theorem match_defer {w0 w : World} {M : Nat} {dv : Value} {s : ByteArray} {n : Nat} {m : Mst} {cv ev hv : Value} {hs : List Value} {text : ByteArray} {num lo hi : Int} {l : Nat} {A : Option Addr} {c : Nat} {fr : Int} {nv : Value} {gs : List Goal} {b : Nat} {defs : List Pat} {dA : Option Addr} {dc : Nat} {i : Nat}
    (h : ImplAt w0 w M dv s n m cv ev hv hs) (hb : w.heap[b]? = some (.cells #[.int .i64 0, .int .i64 20, .string text, .int .i64 num, .int .i64 lo, .int .i64 hi, .slice A l c, .int .i64 fr, nv] TG (0, 0)))
    (hnv : GoalsAt w0 w gs nv) (hnum : num = (i : Int)) (hil : i < defs.length) (hdv : dv = .slice dA defs.length dc) (hdefs : RowIn w0 dA 0 defs) :
    Calls Try.prog 68 #[.pointer (some ⟨M, 0, none⟩), .pointer (some ⟨b, 0, none⟩)] w (Did w0 M dv s n m (.go (⟨0, defs[i], 0⟩ :: gs) m)) := by
  have hblk := h.blk
  obtain ⟨np, rfl⟩ := hnv.ptr
  obtain ⟨cA, cc, rfl, _, _⟩ := h.caps.form
  obtain ⟨eA, ec, rfl, _, _⟩ := h.evs.form
  obtain ⟨hA, hc, rfl, _, _⟩ := h.chs.form
  obtain ⟨b0, b1, b2, b3, b4, b5, b6, b7, b8⟩ := cells_g hb
  have HI := Lib.hid h
  have HN := Lib.hid hnv
  have HB := Lib.hid hb
  skip
  have hbel := h.below.size
  have hMb : ¬ M = b := ne_of_type hblk hb (by decide)
  have hbM : ¬ b = M := fun e => hMb e.symm
  subst hdv hnum
  have HR := Lib.hid hdefs
  have hi' : (i : Int) < defs.length := by omega
  clear hdefs
  clear h hnv hb
  go_enter Try.func68, Try.ntmps68
  go_wp2_with fail
  clear b0 b1 b2 b3 b4 b5 b6 b7 b8
  -- region 2: 17 operations, the last []
  refine wpU_begin [] [] (by kernel_rfl) (fun w1 hw1 => ?_)
  obtain ⟨hl1, hp1⟩ := drew_alloc hw1
  have HP1 := Lib.hid hp1
  have HM1 := Lib.hid (hl1.has hblk)
  have HL1 := Lib.hid hl1
  clear hw1 hl1 hp1 hblk
  refine wpU_take 0 (some 16) (v := ?_) rfl rfl (by kernel_rfl) (fun _ _ _ h => h) rfl (fun x hx => ?_) ?_
  rotate_left 1
  · obtain ⟨m0, m1, m2, m8, m9, m10, m11⟩ := cells_m (hx.has HM1.out); obtain ⟨p0, p1, p2, p3, p4, p5⟩ := cells_p (hx.has HP1.out); go_simp; first | done | with_reducible rfl | rw [if_neg (by omega)] | rw [if_pos (by omega)]
  simp only [Act.put, nA, nB, nC]
  refine wpU_take 1 (some 17) (v := ?_) rfl rfl (by kernel_rfl) (fun _ _ _ h => h) rfl (fun x hx => ?_) ?_
  rotate_left 1
  · go_simp; first | done | with_reducible rfl | rw [if_neg (by omega)] | rw [if_pos (by omega)]
  simp only [Act.put, nA, nB, nC]
  refine wpU_take 2 (some 18) (v := ?_) rfl rfl (by kernel_rfl) (fun _ _ _ h => h) rfl (fun x hx => ?_) ?_
  rotate_left 1
  · go_simp; first | done | with_reducible rfl | rw [if_neg (by omega)] | rw [if_pos (by omega)]
  simp only [Act.put, nA, nB, nC]
  refine wpU_take 3 (some 19) (v := ?_) rfl rfl (by kernel_rfl) (fun _ _ _ h => h) rfl (fun x hx => ?_) ?_
  rotate_left 1
  · go_simp; first | done | with_reducible rfl | rw [if_neg (by omega)] | rw [if_pos (by omega)]
  simp only [Act.put, nA, nB, nC]
  refine wpU_take 4 (some 20) (v := ?_) rfl rfl (by kernel_rfl) (fun _ _ _ h => h) rfl (fun x hx => ?_) ?_
  rotate_left 1
  · obtain ⟨m0, m1, m2, m8, m9, m10, m11⟩ := cells_m (hx.has HM1.out); obtain ⟨p0, p1, p2, p3, p4, p5⟩ := cells_p (hx.has HP1.out); go_simp; first | done | with_reducible rfl | rw [if_neg (by omega)] | rw [if_pos (by omega)]
  simp only [Act.put, nA, nB, nC]
  refine wpU_take 5 (some 21) (v := ?_) rfl rfl (by kernel_rfl) (fun _ _ _ h => h) rfl (fun x hx => ?_) ?_
  rotate_left 1
  · go_simp; first | done | with_reducible rfl | rw [if_neg (by omega)] | rw [if_pos (by omega)]
  simp only [Act.put, nA, nB, nC]
  refine wpU_take 6 (some 22) (v := ?_) rfl rfl (by kernel_rfl) (fun _ _ _ h => h) rfl (fun x hx => ?_) ?_
  rotate_left 1
  · go_simp; first | done | with_reducible rfl | rw [if_neg (by omega)] | rw [if_pos (by omega)]
  simp only [Act.put, nA, nB, nC]
  refine wpU_take 7 (some 23) (v := ?_) rfl rfl (by kernel_rfl) (fun _ _ _ h => h) rfl (fun x hx => ?_) ?_
  rotate_left 1
  · go_simp; first | done | with_reducible rfl | rw [if_neg (by omega)] | rw [if_pos (by omega)]
  simp only [Act.put, nA, nB, nC]
  refine wpU_take 8 (some 24) (v := ?_) rfl rfl (by kernel_rfl) (fun _ _ _ h => h) rfl (fun x hx => ?_) ?_
  rotate_left 1
  · obtain ⟨m0, m1, m2, m8, m9, m10, m11⟩ := cells_m (hx.has HM1.out); obtain ⟨p0, p1, p2, p3, p4, p5⟩ := cells_p (hx.has HP1.out); go_simp; first | done | with_reducible rfl | rw [if_neg (by omega)] | rw [if_pos (by omega)]
  simp only [Act.put, nA, nB, nC]
  refine wpU_step 9 (by kernel_rfl) rfl rfl ?_  -- call value (Go.Operand.func 78)
  go_wp2_with fail
  refine (simple_else text (i : Int) lo hi A l c s m.at_ _ 20 (by omega)).mono ?_
  rintro e w2 ⟨rfl, hb2⟩
  go_wp2_with fail
  refine ⟨hb2, ?_⟩
  have HI2 := Lib.hid (HI.out.later (HL1.out.trans hb2))
  have HN2 := Lib.hid (HN.out.later (HL1.out.trans hb2))
  have HB2 := Lib.hid ((HL1.out.trans hb2).has HB.out)
  have HP2 := Lib.hid (Later.has hb2 HP1.out)
  clear HP1 HM1 HI HN HB HL1 hb2
  refine wpU_take 10 (some 15) (v := ?_) rfl rfl (by kernel_rfl) (fun _ _ _ h => h) rfl (fun x hx => ?_) ?_
  rotate_left 1
  · go_simp; first | done | with_reducible rfl | rw [if_neg (by omega)] | rw [if_pos (by omega)]
  simp only [Act.put, nA, nB, nC]
  refine wpU_take 11 (some 26) (v := ?_) rfl rfl (by kernel_rfl) (fun _ _ _ h => h) rfl (fun x hx => ?_) ?_
  rotate_left 1
  · go_simp; first | done | with_reducible rfl | rw [if_neg (by omega)] | rw [if_pos (by omega)]
  simp only [Act.put, nA, nB, nC]
  refine wpU_take 12 (some 27) (v := ?_) rfl rfl (by kernel_rfl) (fun _ _ _ h => h) rfl (fun x hx => ?_) ?_
  rotate_left 1
  · go_simp; first | done | with_reducible rfl | rw [if_neg (by omega)] | rw [if_pos (by omega)]
  simp only [Act.put, nA, nB, nC]
  refine wpU_take 13 (some 28) (v := ?_) rfl rfl (by kernel_rfl) (fun _ _ _ h => h) rfl (fun x hx => ?_) ?_
  rotate_left 1
  · go_simp; first | done | with_reducible rfl | rw [if_neg (by omega)] | rw [if_pos (by omega)]
  simp only [Act.put, nA, nB, nC]
  refine wpU_take 14 (some 8) (v := ?_) rfl rfl (by kernel_rfl) (fun _ _ _ h => h) rfl (fun x hx => ?_) ?_
  rotate_left 1
  · go_simp; first | done | with_reducible rfl | rw [if_neg (by omega)] | rw [if_pos (by omega)]
  simp only [Act.put, nA, nB, nC]
  refine wpU_take 15 (some 9) (v := ?_) rfl rfl (by kernel_rfl) (fun _ _ _ h => h) rfl (fun x hx => ?_) ?_
  rotate_left 1
  · go_simp; first | done | with_reducible rfl | rw [if_neg (by omega)] | rw [if_pos (by omega)]
  simp only [Act.put, nA, nB, nC]
  refine wpU_take 16 (some 10) (v := ?_) rfl rfl (by kernel_rfl) (fun _ _ _ h => h) rfl (fun x hx => ?_) ?_
  rotate_left 1
  · go_simp; first | done | with_reducible rfl | rw [if_neg (by omega)] | rw [if_pos (by omega)]
  simp only [Act.put, nA, nB, nC]
  refine wpU_last [] (by kernel_rfl) rfl rfl ?_
  obtain ⟨m0, m1, m2, m8, m9, m10, m11⟩ := cells_m HI2.out.blk
  obtain ⟨p0, p1, p2, p3, p4, p5⟩ := cells_p HP2.out
  obtain ⟨b0, b1, b2, b3, b4, b5, b6, b7, b8⟩ := cells_g HB2.out
  go_wp2_with fail
  clear m0 m1 m2 m8 m9 m10 m11 p0 p1 p2 p3 p4 p5 b0 b1 b2 b3 b4 b5 b6 b7 b8
  -- region 31: 17 operations, the last []
  refine wpU_begin [] [] (by kernel_rfl) (fun w3 hw3 => ?_)
  have hl3 := drew_later hw3
  have HI3 := Lib.hid (HI2.out.later hl3)
  have HN3 := Lib.hid (HN2.out.later hl3)
  have HB3 := Lib.hid (hl3.has HB2.out)
  have HP3 := Lib.hid (hl3.has HP2.out)
  clear hw3 hl3 HI2 HN2 HB2 HP2
  obtain ⟨g0, kA0, kc0, hA0, hk0, he0⟩ := kid_cells HR.out hil HI3.out.below
  have HK0 := Lib.hid hk0
  have HE0 := Lib.hid he0
  clear hk0 he0
  subst hA0
  refine wpU_take 0 (some 211) (v := ?_) rfl rfl (by kernel_rfl) (fun _ _ _ h => h) rfl (fun x hx => ?_) ?_
  rotate_left 1
  · go_simp; first | done | with_reducible rfl | rw [if_neg (by omega)] | rw [if_pos (by omega)]
  simp only [Act.put, nA, nB, nC]
  refine wpU_take 1 (some 212) (v := ?_) rfl rfl (by kernel_rfl) (fun _ _ _ h => h) rfl (fun x hx => ?_) ?_
  rotate_left 1
  · go_simp; first | done | with_reducible rfl | rw [if_neg (by omega)] | rw [if_pos (by omega)]
  simp only [Act.put, nA, nB, nC]
  refine wpU_take 2 (some 213) (v := ?_) rfl rfl (by kernel_rfl) (fun _ _ _ h => h) rfl (fun x hx => ?_) ?_
  rotate_left 1
  · go_simp; first | done | with_reducible rfl | rw [if_neg (by omega)] | rw [if_pos (by omega)]
  simp only [Act.put, nA, nB, nC]
  refine wpU_take 3 (some 214) (v := ?_) rfl rfl (by kernel_rfl) (fun _ _ _ h => h) rfl (fun x hx => ?_) ?_
  rotate_left 1
  · obtain ⟨m0, m1, m2, m8, m9, m10, m11⟩ := cells_m (hx.has HI3.out.blk); obtain ⟨p0, p1, p2, p3, p4, p5⟩ := cells_p (hx.has HP3.out); obtain ⟨b0, b1, b2, b3, b4, b5, b6, b7, b8⟩ := cells_g (hx.has HB3.out); obtain ⟨e00, e01, e02, e03, e04, e05⟩ := HE0.out.below hx; go_simp; first | done | with_reducible rfl | rw [if_neg (by omega)] | rw [if_pos (by omega)]
  simp only [Act.put, nA, nB, nC]
  refine wpU_take 4 (some 215) (v := ?_) rfl rfl (by kernel_rfl) (fun _ _ _ h => h) rfl (fun x hx => ?_) ?_
  rotate_left 1
  · go_simp; first | done | with_reducible rfl | rw [if_neg (by omega)] | rw [if_pos (by omega)]
  simp only [Act.put, nA, nB, nC]
  refine wpU_take 5 (some 216) (v := ?_) rfl rfl (by kernel_rfl) (fun _ _ _ h => h) rfl (fun x hx => ?_) ?_
  rotate_left 1
  · obtain ⟨m0, m1, m2, m8, m9, m10, m11⟩ := cells_m (hx.has HI3.out.blk); obtain ⟨p0, p1, p2, p3, p4, p5⟩ := cells_p (hx.has HP3.out); obtain ⟨b0, b1, b2, b3, b4, b5, b6, b7, b8⟩ := cells_g (hx.has HB3.out); obtain ⟨e00, e01, e02, e03, e04, e05⟩ := HE0.out.below hx; go_simp; first | done | with_reducible rfl | rw [if_neg (by omega)] | rw [if_pos (by omega)]
  simp only [Act.put, nA, nB, nC]
  refine wpU_take 6 (some 217) (v := ?_) rfl rfl (by kernel_rfl) (fun _ _ _ h => h) rfl (fun x hx => ?_) ?_
  rotate_left 1
  · go_simp; first | done | with_reducible rfl | rw [if_neg (by omega)] | rw [if_pos (by omega)]
  simp only [Act.put, nA, nB, nC]
  refine wpU_take 7 (some 218) (v := ?_) rfl rfl (by kernel_rfl) (fun _ _ _ h => h) rfl (fun x hx => ?_) ?_
  rotate_left 1
  · obtain ⟨m0, m1, m2, m8, m9, m10, m11⟩ := cells_m (hx.has HI3.out.blk); obtain ⟨p0, p1, p2, p3, p4, p5⟩ := cells_p (hx.has HP3.out); obtain ⟨b0, b1, b2, b3, b4, b5, b6, b7, b8⟩ := cells_g (hx.has HB3.out); obtain ⟨e00, e01, e02, e03, e04, e05⟩ := HE0.out.below hx; go_simp; first | done | with_reducible rfl | rw [if_neg (by omega)] | rw [if_pos (by omega)]
  simp only [Act.put, nA, nB, nC]
  refine wpU_take 8 (some 219) (v := ?_) rfl rfl (by kernel_rfl) (fun _ _ _ h => h) rfl (fun x hx => ?_) ?_
  rotate_left 1
  · go_simp; first | done | with_reducible rfl | rw [if_neg (by omega)] | rw [if_pos (by omega)]
  simp only [Act.put, nA, nB, nC]
  refine wpU_take 9 (some 220) (v := ?_) rfl rfl (by kernel_rfl) (fun _ _ _ h => h) rfl (fun x hx => ?_) ?_
  rotate_left 1
  · go_simp; first | done | with_reducible rfl | rw [if_neg (by omega)] | rw [if_pos (by omega)]
  simp only [Act.put, nA, nB, nC]
  refine wpU_take 10 (some 221) (v := ?_) rfl rfl (by kernel_rfl) (fun _ _ _ h => h) rfl (fun x hx => ?_) ?_
  rotate_left 1
  · go_simp; first | done | with_reducible rfl | rw [if_neg (by omega)] | rw [if_pos (by omega)]
  simp only [Act.put, nA, nB, nC]
  refine wpU_take 11 (some 222) (v := ?_) rfl rfl (by kernel_rfl) (fun _ _ _ h => h) rfl (fun x hx => ?_) ?_
  rotate_left 1
  · obtain ⟨m0, m1, m2, m8, m9, m10, m11⟩ := cells_m (hx.has HI3.out.blk); obtain ⟨p0, p1, p2, p3, p4, p5⟩ := cells_p (hx.has HP3.out); obtain ⟨b0, b1, b2, b3, b4, b5, b6, b7, b8⟩ := cells_g (hx.has HB3.out); obtain ⟨e00, e01, e02, e03, e04, e05⟩ := HE0.out.below hx; go_simp; first | done | with_reducible rfl | rw [if_neg (by omega)] | rw [if_pos (by omega)]
  simp only [Act.put, nA, nB, nC]
  refine wpU_take 12 (some 223) (v := ?_) rfl rfl (by kernel_rfl) (fun _ _ _ h => h) rfl (fun x hx => ?_) ?_
  rotate_left 1
  · go_simp; first | done | with_reducible rfl | rw [if_neg (by omega)] | rw [if_pos (by omega)]
  simp only [Act.put, nA, nB, nC]
  refine wpU_step 13 (by kernel_rfl) rfl rfl ?_  -- box 
  go_wp2_with fail
  refine ⟨(Later.refl _).alloc _, ?_⟩
  refine wpU_take 14 (some 4) (v := ?_) rfl rfl (by kernel_rfl) (fun _ _ _ h => h) rfl (fun x hx => ?_) ?_
  rotate_left 1
  · go_simp; first | done | with_reducible rfl | rw [if_neg (by omega)] | rw [if_pos (by omega)]
  simp only [Act.put, nA, nB, nC]
  refine wpU_take 15 (some 5) (v := ?_) rfl rfl (by kernel_rfl) (fun _ _ _ h => h) rfl (fun x hx => ?_) ?_
  rotate_left 1
  · go_simp; first | done | with_reducible rfl | rw [if_neg (by omega)] | rw [if_pos (by omega)]
  simp only [Act.put, nA, nB, nC]
  refine wpU_take 16 (some 6) (v := ?_) rfl rfl (by kernel_rfl) (fun _ _ _ h => h) rfl (fun x hx => ?_) ?_
  rotate_left 1
  · go_simp; first | done | with_reducible rfl | rw [if_neg (by omega)] | rw [if_pos (by omega)]
  simp only [Act.put, nA, nB, nC]
  refine wpU_last [] (by kernel_rfl) rfl rfl ?_
  go_wp2_with fail
  go_ret3
  exact did_go (gv := .pointer (some ⟨w3.heap.size, 0, none⟩)) (HN3.out.pushAt ⟨0, defs[i], 0⟩ HK0.out _ rfl) (HI3.out.later ((Later.refl _).alloc _))

end Go.Proofs.Ytndefbecoahfhaa

/- impl's match. Printed by gen_match.py. -/
namespace Go.Proofs.Ytndefbecoahfhaa
open Go.RowKit

set_option maxRecDepth 100000 in
set_option maxHeartbeats 1000000 in
theorem match_alt {w0 w : World} {M : Nat} {dv : Value} {s : ByteArray} {n : Nat} {m : Mst} {cv ev hv : Value} {hs : List Value} {text : ByteArray} {num lo hi : Int} {k0 k1 : Pat} {A : Option Addr} {c : Nat} {fr : Int} {nv : Value} {gs : List Goal} {b : Nat} 
    (h : ImplAt w0 w M dv s n m cv ev hv hs) (hb : w.heap[b]? = some (.cells #[.int .i64 0, .int .i64 15, .string text, .int .i64 num, .int .i64 lo, .int .i64 hi, .slice A 2 c, .int .i64 fr, nv] TG (0, 0)))
    (hkid : KidsIn w0 (.mk 15 text num lo hi [k0, k1]) (.slice A 2 c)) (hnv : GoalsAt w0 w gs nv) (hch : m.choices.length ≤ 5000) :
    Calls Try.prog 68 #[.pointer (some ⟨M, 0, none⟩), .pointer (some ⟨b, 0, none⟩)] w (Did w0 M dv s n m (.go (⟨0, k0, 0⟩ :: gs) (m.choose (⟨0, k1, 0⟩ :: gs) m.at_))) := by
  have hblk := h.blk
  obtain ⟨np, rfl⟩ := hnv.ptr
  obtain ⟨cA, cc, rfl, _, _⟩ := h.caps.form
  obtain ⟨eA, ec, rfl, _, _⟩ := h.evs.form
  obtain ⟨hA, hc, rfl, _, _⟩ := h.chs.form
  obtain ⟨b0, b1, b2, b3, b4, b5, b6, b7, b8⟩ := cells_g hb
  have HI := Lib.hid h
  have HN := Lib.hid hnv
  have HB := Lib.hid hb
  have HR := Lib.hid (kids_row hkid)
  have HKID := Lib.hid hkid
  have hbel := h.below.size
  have hMb : ¬ M = b := ne_of_type hblk hb (by decide)
  have hbM : ¬ b = M := fun e => hMb e.symm
  clear h hnv hb hkid
  go_enter Try.func68, Try.ntmps68
  go_wp2_with fail
  clear b0 b1 b2 b3 b4 b5 b6 b7 b8
  -- region 2: 17 operations, the last []
  refine wpU_begin [] [] (by kernel_rfl) (fun w1 hw1 => ?_)
  obtain ⟨hl1, hp1⟩ := drew_alloc hw1
  have HP1 := Lib.hid hp1
  have HM1 := Lib.hid (hl1.has hblk)
  have HL1 := Lib.hid hl1
  clear hw1 hl1 hp1 hblk
  refine wpU_take 0 (some 16) (v := ?_) rfl rfl (by kernel_rfl) (fun _ _ _ h => h) rfl (fun x hx => ?_) ?_
  rotate_left 1
  · obtain ⟨m0, m1, m2, m8, m9, m10, m11⟩ := cells_m (hx.has HM1.out); obtain ⟨p0, p1, p2, p3, p4, p5⟩ := cells_p (hx.has HP1.out); go_simp; first | done | with_reducible rfl | rw [if_neg (by omega)] | rw [if_pos (by omega)]
  simp only [Act.put, nA, nB, nC]
  refine wpU_take 1 (some 17) (v := ?_) rfl rfl (by kernel_rfl) (fun _ _ _ h => h) rfl (fun x hx => ?_) ?_
  rotate_left 1
  · go_simp; first | done | with_reducible rfl | rw [if_neg (by omega)] | rw [if_pos (by omega)]
  simp only [Act.put, nA, nB, nC]
  refine wpU_take 2 (some 18) (v := ?_) rfl rfl (by kernel_rfl) (fun _ _ _ h => h) rfl (fun x hx => ?_) ?_
  rotate_left 1
  · go_simp; first | done | with_reducible rfl | rw [if_neg (by omega)] | rw [if_pos (by omega)]
  simp only [Act.put, nA, nB, nC]
  refine wpU_take 3 (some 19) (v := ?_) rfl rfl (by kernel_rfl) (fun _ _ _ h => h) rfl (fun x hx => ?_) ?_
  rotate_left 1
  · go_simp; first | done | with_reducible rfl | rw [if_neg (by omega)] | rw [if_pos (by omega)]
  simp only [Act.put, nA, nB, nC]
  refine wpU_take 4 (some 20) (v := ?_) rfl rfl (by kernel_rfl) (fun _ _ _ h => h) rfl (fun x hx => ?_) ?_
  rotate_left 1
  · obtain ⟨m0, m1, m2, m8, m9, m10, m11⟩ := cells_m (hx.has HM1.out); obtain ⟨p0, p1, p2, p3, p4, p5⟩ := cells_p (hx.has HP1.out); go_simp; first | done | with_reducible rfl | rw [if_neg (by omega)] | rw [if_pos (by omega)]
  simp only [Act.put, nA, nB, nC]
  refine wpU_take 5 (some 21) (v := ?_) rfl rfl (by kernel_rfl) (fun _ _ _ h => h) rfl (fun x hx => ?_) ?_
  rotate_left 1
  · go_simp; first | done | with_reducible rfl | rw [if_neg (by omega)] | rw [if_pos (by omega)]
  simp only [Act.put, nA, nB, nC]
  refine wpU_take 6 (some 22) (v := ?_) rfl rfl (by kernel_rfl) (fun _ _ _ h => h) rfl (fun x hx => ?_) ?_
  rotate_left 1
  · go_simp; first | done | with_reducible rfl | rw [if_neg (by omega)] | rw [if_pos (by omega)]
  simp only [Act.put, nA, nB, nC]
  refine wpU_take 7 (some 23) (v := ?_) rfl rfl (by kernel_rfl) (fun _ _ _ h => h) rfl (fun x hx => ?_) ?_
  rotate_left 1
  · go_simp; first | done | with_reducible rfl | rw [if_neg (by omega)] | rw [if_pos (by omega)]
  simp only [Act.put, nA, nB, nC]
  refine wpU_take 8 (some 24) (v := ?_) rfl rfl (by kernel_rfl) (fun _ _ _ h => h) rfl (fun x hx => ?_) ?_
  rotate_left 1
  · obtain ⟨m0, m1, m2, m8, m9, m10, m11⟩ := cells_m (hx.has HM1.out); obtain ⟨p0, p1, p2, p3, p4, p5⟩ := cells_p (hx.has HP1.out); go_simp; first | done | with_reducible rfl | rw [if_neg (by omega)] | rw [if_pos (by omega)]
  simp only [Act.put, nA, nB, nC]
  refine wpU_step 9 (by kernel_rfl) rfl rfl ?_  -- call value (Go.Operand.func 78)
  go_wp2_with fail
  refine (simple_else text num lo hi A 2 c s m.at_ _ 15 (by omega)).mono ?_
  rintro e w2 ⟨rfl, hb2⟩
  go_wp2_with fail
  refine ⟨hb2, ?_⟩
  have HI2 := Lib.hid (HI.out.later (HL1.out.trans hb2))
  have HN2 := Lib.hid (HN.out.later (HL1.out.trans hb2))
  have HB2 := Lib.hid ((HL1.out.trans hb2).has HB.out)
  have HP2 := Lib.hid (Later.has hb2 HP1.out)
  clear HP1 HM1 HI HN HB HL1 hb2
  refine wpU_take 10 (some 15) (v := ?_) rfl rfl (by kernel_rfl) (fun _ _ _ h => h) rfl (fun x hx => ?_) ?_
  rotate_left 1
  · go_simp; first | done | with_reducible rfl | rw [if_neg (by omega)] | rw [if_pos (by omega)]
  simp only [Act.put, nA, nB, nC]
  refine wpU_take 11 (some 26) (v := ?_) rfl rfl (by kernel_rfl) (fun _ _ _ h => h) rfl (fun x hx => ?_) ?_
  rotate_left 1
  · go_simp; first | done | with_reducible rfl | rw [if_neg (by omega)] | rw [if_pos (by omega)]
  simp only [Act.put, nA, nB, nC]
  refine wpU_take 12 (some 27) (v := ?_) rfl rfl (by kernel_rfl) (fun _ _ _ h => h) rfl (fun x hx => ?_) ?_
  rotate_left 1
  · go_simp; first | done | with_reducible rfl | rw [if_neg (by omega)] | rw [if_pos (by omega)]
  simp only [Act.put, nA, nB, nC]
  refine wpU_take 13 (some 28) (v := ?_) rfl rfl (by kernel_rfl) (fun _ _ _ h => h) rfl (fun x hx => ?_) ?_
  rotate_left 1
  · go_simp; first | done | with_reducible rfl | rw [if_neg (by omega)] | rw [if_pos (by omega)]
  simp only [Act.put, nA, nB, nC]
  refine wpU_take 14 (some 8) (v := ?_) rfl rfl (by kernel_rfl) (fun _ _ _ h => h) rfl (fun x hx => ?_) ?_
  rotate_left 1
  · go_simp; first | done | with_reducible rfl | rw [if_neg (by omega)] | rw [if_pos (by omega)]
  simp only [Act.put, nA, nB, nC]
  refine wpU_take 15 (some 9) (v := ?_) rfl rfl (by kernel_rfl) (fun _ _ _ h => h) rfl (fun x hx => ?_) ?_
  rotate_left 1
  · go_simp; first | done | with_reducible rfl | rw [if_neg (by omega)] | rw [if_pos (by omega)]
  simp only [Act.put, nA, nB, nC]
  refine wpU_take 16 (some 10) (v := ?_) rfl rfl (by kernel_rfl) (fun _ _ _ h => h) rfl (fun x hx => ?_) ?_
  rotate_left 1
  · go_simp; first | done | with_reducible rfl | rw [if_neg (by omega)] | rw [if_pos (by omega)]
  simp only [Act.put, nA, nB, nC]
  refine wpU_last [] (by kernel_rfl) rfl rfl ?_
  obtain ⟨m0, m1, m2, m8, m9, m10, m11⟩ := cells_m HI2.out.blk
  obtain ⟨p0, p1, p2, p3, p4, p5⟩ := cells_p HP2.out
  obtain ⟨b0, b1, b2, b3, b4, b5, b6, b7, b8⟩ := cells_g HB2.out
  go_wp2_with fail
  clear m0 m1 m2 m8 m9 m10 m11 p0 p1 p2 p3 p4 p5 b0 b1 b2 b3 b4 b5 b6 b7 b8
  -- region 18: 16 operations, the last [15]
  refine wpU_begin [15] [] (by kernel_rfl) (fun w3 hw3 => ?_)
  have hl3 := drew_later hw3
  have HI3 := Lib.hid (HI2.out.later hl3)
  have HN3 := Lib.hid (HN2.out.later hl3)
  have HB3 := Lib.hid (hl3.has HB2.out)
  have HP3 := Lib.hid (hl3.has HP2.out)
  clear hw3 hl3 HI2 HN2 HB2 HP2
  obtain ⟨g1, kA1, kc1, hA1, hk1, he1⟩ := kid_cells HR.out (j := 1) (by simp) HI3.out.below
  simp only [List.getElem_cons_succ, List.getElem_cons_zero] at hk1 he1
  have HK1 := Lib.hid hk1
  have HE1 := Lib.hid he1
  clear hk1 he1
  subst hA1
  refine wpU_take 0 (some 105) (v := ?_) rfl rfl (by kernel_rfl) (fun _ _ _ h => h) rfl (fun x hx => ?_) ?_
  rotate_left 1
  · go_simp; first | done | with_reducible rfl | rw [if_neg (by omega)] | rw [if_pos (by omega)]
  simp only [Act.put, nA, nB, nC]
  refine wpU_take 1 (some 106) (v := ?_) rfl rfl (by kernel_rfl) (fun _ _ _ h => h) rfl (fun x hx => ?_) ?_
  rotate_left 1
  · go_simp; first | done | with_reducible rfl | rw [if_neg (by omega)] | rw [if_pos (by omega)]
  simp only [Act.put, nA, nB, nC]
  refine wpU_take 2 (some 107) (v := ?_) rfl rfl (by kernel_rfl) (fun _ _ _ h => h) rfl (fun x hx => ?_) ?_
  rotate_left 1
  · obtain ⟨m0, m1, m2, m8, m9, m10, m11⟩ := cells_m (hx.has HI3.out.blk); obtain ⟨p0, p1, p2, p3, p4, p5⟩ := cells_p (hx.has HP3.out); obtain ⟨b0, b1, b2, b3, b4, b5, b6, b7, b8⟩ := cells_g (hx.has HB3.out); obtain ⟨e10, e11, e12, e13, e14, e15⟩ := HE1.out.below hx; simp only [Nat.one_mul, Nat.reduceAdd] at e10 e11 e12 e13 e14 e15; go_simp; first | done | with_reducible rfl | rw [if_neg (by omega)] | rw [if_pos (by omega)]
  simp only [Act.put, nA, nB, nC]
  refine wpU_take 3 (some 108) (v := ?_) rfl rfl (by kernel_rfl) (fun _ _ _ h => h) rfl (fun x hx => ?_) ?_
  rotate_left 1
  · go_simp; first | done | with_reducible rfl | rw [if_neg (by omega)] | rw [if_pos (by omega)]
  simp only [Act.put, nA, nB, nC]
  refine wpU_take 4 (some 109) (v := ?_) rfl rfl (by kernel_rfl) (fun _ _ _ h => h) rfl (fun x hx => ?_) ?_
  rotate_left 1
  · obtain ⟨m0, m1, m2, m8, m9, m10, m11⟩ := cells_m (hx.has HI3.out.blk); obtain ⟨p0, p1, p2, p3, p4, p5⟩ := cells_p (hx.has HP3.out); obtain ⟨b0, b1, b2, b3, b4, b5, b6, b7, b8⟩ := cells_g (hx.has HB3.out); obtain ⟨e10, e11, e12, e13, e14, e15⟩ := HE1.out.below hx; simp only [Nat.one_mul, Nat.reduceAdd] at e10 e11 e12 e13 e14 e15; go_simp; first | done | with_reducible rfl | rw [if_neg (by omega)] | rw [if_pos (by omega)]
  simp only [Act.put, nA, nB, nC]
  refine wpU_take 5 (some 110) (v := ?_) rfl rfl (by kernel_rfl) (fun _ _ _ h => h) rfl (fun x hx => ?_) ?_
  rotate_left 1
  · go_simp; first | done | with_reducible rfl | rw [if_neg (by omega)] | rw [if_pos (by omega)]
  simp only [Act.put, nA, nB, nC]
  refine wpU_take 6 (some 111) (v := ?_) rfl rfl (by kernel_rfl) (fun _ _ _ h => h) rfl (fun x hx => ?_) ?_
  rotate_left 1
  · go_simp; first | done | with_reducible rfl | rw [if_neg (by omega)] | rw [if_pos (by omega)]
  simp only [Act.put, nA, nB, nC]
  refine wpU_take 7 (some 112) (v := ?_) rfl rfl (by kernel_rfl) (fun _ _ _ h => h) rfl (fun x hx => ?_) ?_
  rotate_left 1
  · go_simp; first | done | with_reducible rfl | rw [if_neg (by omega)] | rw [if_pos (by omega)]
  simp only [Act.put, nA, nB, nC]
  refine wpU_take 8 (some 113) (v := ?_) rfl rfl (by kernel_rfl) (fun _ _ _ h => h) rfl (fun x hx => ?_) ?_
  rotate_left 1
  · obtain ⟨m0, m1, m2, m8, m9, m10, m11⟩ := cells_m (hx.has HI3.out.blk); obtain ⟨p0, p1, p2, p3, p4, p5⟩ := cells_p (hx.has HP3.out); obtain ⟨b0, b1, b2, b3, b4, b5, b6, b7, b8⟩ := cells_g (hx.has HB3.out); obtain ⟨e10, e11, e12, e13, e14, e15⟩ := HE1.out.below hx; simp only [Nat.one_mul, Nat.reduceAdd] at e10 e11 e12 e13 e14 e15; go_simp; first | done | with_reducible rfl | rw [if_neg (by omega)] | rw [if_pos (by omega)]
  simp only [Act.put, nA, nB, nC]
  refine wpU_take 9 (some 114) (v := ?_) rfl rfl (by kernel_rfl) (fun _ _ _ h => h) rfl (fun x hx => ?_) ?_
  rotate_left 1
  · go_simp; first | done | with_reducible rfl | rw [if_neg (by omega)] | rw [if_pos (by omega)]
  simp only [Act.put, nA, nB, nC]
  refine wpU_take 11 (some 116) (v := ?_) rfl rfl (by kernel_rfl) (fun _ _ _ h => h) rfl (fun x hx => ?_) ?_
  rotate_left 1
  · go_simp; first | done | with_reducible rfl | rw [if_neg (by omega)] | rw [if_pos (by omega)]
  simp only [Act.put, nA, nB, nC]
  refine wpU_take 12 (some 117) (v := ?_) rfl rfl (by kernel_rfl) (fun _ _ _ h => h) rfl (fun x hx => ?_) ?_
  rotate_left 1
  · go_simp; first | done | with_reducible rfl | rw [if_neg (by omega)] | rw [if_pos (by omega)]
  simp only [Act.put, nA, nB, nC]
  refine wpU_take 13 (some 118) (v := ?_) rfl rfl (by kernel_rfl) (fun _ _ _ h => h) rfl (fun x hx => ?_) ?_
  rotate_left 1
  · go_simp; first | done | with_reducible rfl | rw [if_neg (by omega)] | rw [if_pos (by omega)]
  simp only [Act.put, nA, nB, nC]
  refine wpU_take 14 (some 119) (v := ?_) rfl rfl (by kernel_rfl) (fun _ _ _ h => h) rfl (fun x hx => ?_) ?_
  rotate_left 1
  · obtain ⟨m0, m1, m2, m8, m9, m10, m11⟩ := cells_m (hx.has HI3.out.blk); obtain ⟨p0, p1, p2, p3, p4, p5⟩ := cells_p (hx.has HP3.out); obtain ⟨b0, b1, b2, b3, b4, b5, b6, b7, b8⟩ := cells_g (hx.has HB3.out); obtain ⟨e10, e11, e12, e13, e14, e15⟩ := HE1.out.below hx; simp only [Nat.one_mul, Nat.reduceAdd] at e10 e11 e12 e13 e14 e15; go_simp; first | done | with_reducible rfl | rw [if_neg (by omega)] | rw [if_pos (by omega)]
  simp only [Act.put, nA, nB, nC]
  refine wpU_step 10 (by kernel_rfl) rfl rfl ?_  -- box 
  go_wp2_with fail
  refine ⟨(Later.refl _).alloc _, ?_⟩
  refine wpU_last [_] (by kernel_rfl) rfl rfl ?_
  simp only [List.getElem_toArray, List.getElem_cons_succ, List.getElem_cons_zero]
  go_wp2_with fail
  refine (choose_at2 m.at_ (HI3.out.later ((Later.refl _).alloc _)) (HN3.out.push ⟨0, k1, 0⟩ HK1.out) hch _ rfl).mono ?_
  rintro e w4 ⟨rfl, hv4, hs4, hI4, hK4, hK5⟩
  have HI4 := Lib.hid hI4
  have HB4 := Lib.hid (((KeepT.later ((Later.refl w3).alloc _)).trans hK4) b _ HB3.out)
  have HN4 := Lib.hid (HN3.out.keep ((KeepT.later ((Later.refl w3).alloc _)).trans hK4) _ _)
  have HP4 := Lib.hid (((KeepT.later ((Later.refl w3).alloc _)).trans hK5) _ _ HP3.out)
  clear hI4 hK4 hK5
  go_wp2_with fail
  -- region 19: 13 operations, the last []
  refine wpU_begin [] [] (by kernel_rfl) (fun w5 hw5 => ?_)
  have hl5 := drew_later hw5
  have HI5 := Lib.hid (HI4.out.later hl5)
  have HN5 := Lib.hid (HN4.out.later hl5)
  have HB5 := Lib.hid (hl5.has HB4.out)
  have HP5 := Lib.hid (hl5.has HP4.out)
  clear hw5 hl5 HI4 HN4 HB4 HP4
  obtain ⟨g0, kA0, kc0, hA0, hk0, he0⟩ := kid_cells HR.out (j := 0) (by simp) HI5.out.below
  simp only [List.getElem_cons_zero] at hk0 he0
  have HK0 := Lib.hid hk0
  have HE0 := Lib.hid he0
  clear hk0 he0
  obtain rfl : g1 = g0 := by cases hA0; rfl
  clear hA0
  refine wpU_take 0 (some 121) (v := ?_) rfl rfl (by kernel_rfl) (fun _ _ _ h => h) rfl (fun x hx => ?_) ?_
  rotate_left 1
  · go_simp; first | done | with_reducible rfl | rw [if_neg (by omega)] | rw [if_pos (by omega)]
  simp only [Act.put, nA, nB, nC]
  refine wpU_take 1 (some 122) (v := ?_) rfl rfl (by kernel_rfl) (fun _ _ _ h => h) rfl (fun x hx => ?_) ?_
  rotate_left 1
  · obtain ⟨m0, m1, m2, m8, m9, m10, m11⟩ := cells_m (hx.has HI5.out.blk); obtain ⟨p0, p1, p2, p3, p4, p5⟩ := cells_p (hx.has HP5.out); obtain ⟨b0, b1, b2, b3, b4, b5, b6, b7, b8⟩ := cells_g (hx.has HB5.out); obtain ⟨e00, e01, e02, e03, e04, e05⟩ := HE0.out.below hx; simp only [Nat.zero_mul, Nat.zero_add] at e00 e01 e02 e03 e04 e05; go_simp; first | done | with_reducible rfl | rw [if_neg (by omega)] | rw [if_pos (by omega)]
  simp only [Act.put, nA, nB, nC]
  refine wpU_take 2 (some 123) (v := ?_) rfl rfl (by kernel_rfl) (fun _ _ _ h => h) rfl (fun x hx => ?_) ?_
  rotate_left 1
  · go_simp; first | done | with_reducible rfl | rw [if_neg (by omega)] | rw [if_pos (by omega)]
  simp only [Act.put, nA, nB, nC]
  refine wpU_take 3 (some 124) (v := ?_) rfl rfl (by kernel_rfl) (fun _ _ _ h => h) rfl (fun x hx => ?_) ?_
  rotate_left 1
  · obtain ⟨m0, m1, m2, m8, m9, m10, m11⟩ := cells_m (hx.has HI5.out.blk); obtain ⟨p0, p1, p2, p3, p4, p5⟩ := cells_p (hx.has HP5.out); obtain ⟨b0, b1, b2, b3, b4, b5, b6, b7, b8⟩ := cells_g (hx.has HB5.out); obtain ⟨e00, e01, e02, e03, e04, e05⟩ := HE0.out.below hx; simp only [Nat.zero_mul, Nat.zero_add] at e00 e01 e02 e03 e04 e05; go_simp; first | done | with_reducible rfl | rw [if_neg (by omega)] | rw [if_pos (by omega)]
  simp only [Act.put, nA, nB, nC]
  refine wpU_take 4 (some 125) (v := ?_) rfl rfl (by kernel_rfl) (fun _ _ _ h => h) rfl (fun x hx => ?_) ?_
  rotate_left 1
  · go_simp; first | done | with_reducible rfl | rw [if_neg (by omega)] | rw [if_pos (by omega)]
  simp only [Act.put, nA, nB, nC]
  refine wpU_take 5 (some 126) (v := ?_) rfl rfl (by kernel_rfl) (fun _ _ _ h => h) rfl (fun x hx => ?_) ?_
  rotate_left 1
  · go_simp; first | done | with_reducible rfl | rw [if_neg (by omega)] | rw [if_pos (by omega)]
  simp only [Act.put, nA, nB, nC]
  refine wpU_take 6 (some 127) (v := ?_) rfl rfl (by kernel_rfl) (fun _ _ _ h => h) rfl (fun x hx => ?_) ?_
  rotate_left 1
  · go_simp; first | done | with_reducible rfl | rw [if_neg (by omega)] | rw [if_pos (by omega)]
  simp only [Act.put, nA, nB, nC]
  refine wpU_take 7 (some 128) (v := ?_) rfl rfl (by kernel_rfl) (fun _ _ _ h => h) rfl (fun x hx => ?_) ?_
  rotate_left 1
  · obtain ⟨m0, m1, m2, m8, m9, m10, m11⟩ := cells_m (hx.has HI5.out.blk); obtain ⟨p0, p1, p2, p3, p4, p5⟩ := cells_p (hx.has HP5.out); obtain ⟨b0, b1, b2, b3, b4, b5, b6, b7, b8⟩ := cells_g (hx.has HB5.out); obtain ⟨e00, e01, e02, e03, e04, e05⟩ := HE0.out.below hx; simp only [Nat.zero_mul, Nat.zero_add] at e00 e01 e02 e03 e04 e05; go_simp; first | done | with_reducible rfl | rw [if_neg (by omega)] | rw [if_pos (by omega)]
  simp only [Act.put, nA, nB, nC]
  refine wpU_take 8 (some 129) (v := ?_) rfl rfl (by kernel_rfl) (fun _ _ _ h => h) rfl (fun x hx => ?_) ?_
  rotate_left 1
  · go_simp; first | done | with_reducible rfl | rw [if_neg (by omega)] | rw [if_pos (by omega)]
  simp only [Act.put, nA, nB, nC]
  refine wpU_step 9 (by kernel_rfl) rfl rfl ?_  -- box 
  go_wp2_with fail
  refine ⟨(Later.refl _).alloc _, ?_⟩
  refine wpU_take 10 (some 4) (v := ?_) rfl rfl (by kernel_rfl) (fun _ _ _ h => h) rfl (fun x hx => ?_) ?_
  rotate_left 1
  · go_simp; first | done | with_reducible rfl | rw [if_neg (by omega)] | rw [if_pos (by omega)]
  simp only [Act.put, nA, nB, nC]
  refine wpU_take 11 (some 5) (v := ?_) rfl rfl (by kernel_rfl) (fun _ _ _ h => h) rfl (fun x hx => ?_) ?_
  rotate_left 1
  · go_simp; first | done | with_reducible rfl | rw [if_neg (by omega)] | rw [if_pos (by omega)]
  simp only [Act.put, nA, nB, nC]
  refine wpU_take 12 (some 6) (v := ?_) rfl rfl (by kernel_rfl) (fun _ _ _ h => h) rfl (fun x hx => ?_) ?_
  rotate_left 1
  · go_simp; first | done | with_reducible rfl | rw [if_neg (by omega)] | rw [if_pos (by omega)]
  simp only [Act.put, nA, nB, nC]
  refine wpU_last [] (by kernel_rfl) rfl rfl ?_
  go_wp2_with fail
  go_ret3
  exact did_go (gv := .pointer (some ⟨w5.heap.size, 0, none⟩)) (HN5.out.pushAt ⟨0, k0, 0⟩ HK0.out _ rfl) (HI5.out.later ((Later.refl _).alloc _))

end Go.Proofs.Ytndefbecoahfhaa

/- impl's execute: four of its five kinds. Printed by gen_exec.py. -/
namespace Go.Proofs.Ytndefbecoahfhaa
open Go.RowKit

set_option maxRecDepth 100000 in
set_option maxHeartbeats 1000000 in
theorem exec_cap {w0 w : World} {M : Nat} {dv : Value} {s : ByteArray} {n : Nat} {m : Mst} {cv ev hv : Value} {hs : List Value} {text : ByteArray} {op num lo hi : Int} {l : Nat} {A : Option Addr} {c : Nat} {fr : Int} {nv : Value} {gs : List Goal} {b : Nat} 
    (h : ImplAt w0 w M dv s n m cv ev hv hs) (hb : w.heap[b]? = some (.cells #[.int .i64 1, .int .i64 op, .string text, .int .i64 num, .int .i64 lo, .int .i64 hi, .slice A l c, .int .i64 fr, nv] TG (0, 0)))
    (hnv : GoalsAt w0 w gs nv) (hne : m.caps.length ≤ 5000) :
    Calls Try.prog 38 #[.pointer (some ⟨M, 0, none⟩), .pointer (some ⟨b, 0, none⟩)] w (Did w0 M dv s n m (.go gs (m.cap ⟨num, fr, m.at_⟩))) := by
  have hblk := h.blk
  obtain ⟨np, rfl⟩ := hnv.ptr
  obtain ⟨cA, cc, rfl, _, _⟩ := h.caps.form
  obtain ⟨eA, ec, rfl, _, _⟩ := h.evs.form
  obtain ⟨hA, hc, rfl, _, _⟩ := h.chs.form
  obtain ⟨b0, b1, b2, b3, b4, b5, b6, b7, b8⟩ := cells_g hb
  have HI := Lib.hid h
  have HN := Lib.hid hnv
  have HB := Lib.hid hb
  skip
  have hbel := h.below.size
  have hMb : ¬ M = b := ne_of_type hblk hb (by decide)
  have hbM : ¬ b = M := fun e => hMb e.symm
  clear h hnv hb hblk
  go_enter Try.func38, Try.ntmps38
  go_wp2_with fail
  clear b0 b1 b2 b3 b4 b5 b6 b7 b8
  -- region 5: 26 operations, the last [21, 22, 23, 24, 25]
  refine wpU_begin [21, 22, 23, 24, 25] [0] (by kernel_rfl) (fun w3 hw3 => ?_)
  have hl3 := drew_later hw3
  have HI3 := Lib.hid (HI.out.later hl3)
  have HN3 := Lib.hid (HN.out.later hl3)
  have HB3 := Lib.hid (hl3.has HB.out)
  clear hw3 hl3 HI HN HB
  refine wpU_pure 0 (some 21) (v := ?_) rfl rfl (by kernel_rfl) (fun _ _ _ h => h) rfl (fun x => ?_) ?_
  rotate_left 1
  · go_simp; first | done | with_reducible rfl | rw [if_neg (by omega)] | rw [if_pos (by omega)]
  simp only [Act.put, nA, nB, nC]
  refine wpU_take 1 (some 22) (v := ?_) rfl rfl (by kernel_rfl) (fun _ _ _ h => h) rfl (fun x hx => ?_) ?_
  rotate_left 1
  · go_simp; first | done | with_reducible rfl | rw [if_neg (by omega)] | rw [if_pos (by omega)]
  simp only [Act.put, nA, nB, nC]
  refine wpU_take 2 (some 23) (v := ?_) rfl rfl (by kernel_rfl) (fun _ _ _ h => h) rfl (fun x hx => ?_) ?_
  rotate_left 1
  · go_simp; first | done | with_reducible rfl | rw [if_neg (by omega)] | rw [if_pos (by omega)]
  simp only [Act.put, nA, nB, nC]
  refine wpU_take 3 (some 24) (v := ?_) rfl rfl (by kernel_rfl) (fun _ _ _ h => h) rfl (fun x hx => ?_) ?_
  rotate_left 1
  · go_simp; first | done | with_reducible rfl | rw [if_neg (by omega)] | rw [if_pos (by omega)]
  simp only [Act.put, nA, nB, nC]
  refine wpU_take 4 (some 25) (v := ?_) rfl rfl (by kernel_rfl) (fun _ _ _ h => h) rfl (fun x hx => ?_) ?_
  rotate_left 1
  · go_simp; first | done | with_reducible rfl | rw [if_neg (by omega)] | rw [if_pos (by omega)]
  simp only [Act.put, nA, nB, nC]
  refine wpU_take 5 (some 26) (v := ?_) rfl rfl (by kernel_rfl) (fun _ _ _ h => h) rfl (fun x hx => ?_) ?_
  rotate_left 1
  · obtain ⟨m0, m1, m2, m8, m9, m10, m11⟩ := cells_m (hx.has HI3.out.blk); obtain ⟨b0, b1, b2, b3, b4, b5, b6, b7, b8⟩ := cells_g (hx.has HB3.out); go_simp; first | done | with_reducible rfl | rw [if_neg (by omega)] | rw [if_pos (by omega)]
  simp only [Act.put, nA, nB, nC]
  refine wpU_take 6 (some 27) (v := ?_) rfl rfl (by kernel_rfl) (fun _ _ _ h => h) rfl (fun x hx => ?_) ?_
  rotate_left 1
  · go_simp; first | done | with_reducible rfl | rw [if_neg (by omega)] | rw [if_pos (by omega)]
  simp only [Act.put, nA, nB, nC]
  refine wpU_take 7 (some 28) (v := ?_) rfl rfl (by kernel_rfl) (fun _ _ _ h => h) rfl (fun x hx => ?_) ?_
  rotate_left 1
  · go_simp; first | done | with_reducible rfl | rw [if_neg (by omega)] | rw [if_pos (by omega)]
  simp only [Act.put, nA, nB, nC]
  refine wpU_take 8 (some 29) (v := ?_) rfl rfl (by kernel_rfl) (fun _ _ _ h => h) rfl (fun x hx => ?_) ?_
  rotate_left 1
  · go_simp; first | done | with_reducible rfl | rw [if_neg (by omega)] | rw [if_pos (by omega)]
  simp only [Act.put, nA, nB, nC]
  refine wpU_take 9 (some 30) (v := ?_) rfl rfl (by kernel_rfl) (fun _ _ _ h => h) rfl (fun x hx => ?_) ?_
  rotate_left 1
  · go_simp; first | done | with_reducible rfl | rw [if_neg (by omega)] | rw [if_pos (by omega)]
  simp only [Act.put, nA, nB, nC]
  refine wpU_take 10 (some 31) (v := ?_) rfl rfl (by kernel_rfl) (fun _ _ _ h => h) rfl (fun x hx => ?_) ?_
  rotate_left 1
  · obtain ⟨m0, m1, m2, m8, m9, m10, m11⟩ := cells_m (hx.has HI3.out.blk); obtain ⟨b0, b1, b2, b3, b4, b5, b6, b7, b8⟩ := cells_g (hx.has HB3.out); go_simp; first | done | with_reducible rfl | rw [if_neg (by omega)] | rw [if_pos (by omega)]
  simp only [Act.put, nA, nB, nC]
  refine wpU_take 11 (some 32) (v := ?_) rfl rfl (by kernel_rfl) (fun _ _ _ h => h) rfl (fun x hx => ?_) ?_
  rotate_left 1
  · go_simp; first | done | with_reducible rfl | rw [if_neg (by omega)] | rw [if_pos (by omega)]
  simp only [Act.put, nA, nB, nC]
  refine wpU_take 12 (some 33) (v := ?_) rfl rfl (by kernel_rfl) (fun _ _ _ h => h) rfl (fun x hx => ?_) ?_
  rotate_left 1
  · go_simp; first | done | with_reducible rfl | rw [if_neg (by omega)] | rw [if_pos (by omega)]
  simp only [Act.put, nA, nB, nC]
  refine wpU_take 13 (some 34) (v := ?_) rfl rfl (by kernel_rfl) (fun _ _ _ h => h) rfl (fun x hx => ?_) ?_
  rotate_left 1
  · go_simp; first | done | with_reducible rfl | rw [if_neg (by omega)] | rw [if_pos (by omega)]
  simp only [Act.put, nA, nB, nC]
  refine wpU_take 14 (some 35) (v := ?_) rfl rfl (by kernel_rfl) (fun _ _ _ h => h) rfl (fun x hx => ?_) ?_
  rotate_left 1
  · obtain ⟨m0, m1, m2, m8, m9, m10, m11⟩ := cells_m (hx.has HI3.out.blk); obtain ⟨b0, b1, b2, b3, b4, b5, b6, b7, b8⟩ := cells_g (hx.has HB3.out); go_simp; first | done | with_reducible rfl | rw [if_neg (by omega)] | rw [if_pos (by omega)]
  simp only [Act.put, nA, nB, nC]
  refine wpU_take 15 (some 36) (v := ?_) rfl rfl (by kernel_rfl) (fun _ _ _ h => h) rfl (fun x hx => ?_) ?_
  rotate_left 1
  · go_simp; first | done | with_reducible rfl | rw [if_neg (by omega)] | rw [if_pos (by omega)]
  simp only [Act.put, nA, nB, nC]
  refine wpU_take 16 (some 37) (v := ?_) rfl rfl (by kernel_rfl) (fun _ _ _ h => h) rfl (fun x hx => ?_) ?_
  rotate_left 1
  · go_simp; first | done | with_reducible rfl | rw [if_neg (by omega)] | rw [if_pos (by omega)]
  simp only [Act.put, nA, nB, nC]
  refine wpU_take 17 (some 38) (v := ?_) rfl rfl (by kernel_rfl) (fun _ _ _ h => h) rfl (fun x hx => ?_) ?_
  rotate_left 1
  · go_simp; first | done | with_reducible rfl | rw [if_neg (by omega)] | rw [if_pos (by omega)]
  simp only [Act.put, nA, nB, nC]
  refine wpU_take 18 (some 39) (v := ?_) rfl rfl (by kernel_rfl) (fun _ _ _ h => h) rfl (fun x hx => ?_) ?_
  rotate_left 1
  · obtain ⟨m0, m1, m2, m8, m9, m10, m11⟩ := cells_m (hx.has HI3.out.blk); obtain ⟨b0, b1, b2, b3, b4, b5, b6, b7, b8⟩ := cells_g (hx.has HB3.out); go_simp; first | done | with_reducible rfl | rw [if_neg (by omega)] | rw [if_pos (by omega)]
  simp only [Act.put, nA, nB, nC]
  refine wpU_take 19 (some 40) (v := ?_) rfl rfl (by kernel_rfl) (fun _ _ _ h => h) rfl (fun x hx => ?_) ?_
  rotate_left 1
  · go_simp; first | done | with_reducible rfl | rw [if_neg (by omega)] | rw [if_pos (by omega)]
  simp only [Act.put, nA, nB, nC]
  refine wpU_step 20 (by kernel_rfl) rfl rfl ?_  -- buildSlice 
  go_wp2_with fail
  refine ⟨(Later.refl _).alloc _, ?_⟩
  refine wpU_last [_, _, _, _, _] (by kernel_rfl) rfl rfl ?_
  simp only [List.getElem_toArray, List.getElem_cons_succ, List.getElem_cons_zero]
  obtain ⟨i, hi, hz0, hz1, hz2⟩ := info_parts infoK
  refine wpList_append_has _ rfl _ _ _ rfl w0.heap.size TK i _ 3 24 Try.underlying31 hi hz0 hz1 hz2 rfl _ m.caps.length (capCells m.caps) rfl ((HI3.out.later ((Later.refl _).alloc _)).caps) _ 1 1 [.int .i64 num, .int .i64 fr, .int .i64 m.at_] rfl rfl ?_ ?_ (by omega) ?_ ?_ ?_ ?_
  · exact cells_three _ _ _ _ _
  · intro u hu
    simp only [List.mem_cons, List.not_mem_nil, or_false] at hu
    rcases hu with rfl | rfl | rfl <;> rfl
  · simp only [maxLen]; omega
  · omega
  · exact (HI3.out.later ((Later.refl w3).alloc _)).below.size
  · intro v' w' hrow hgrow hblock
    obtain ⟨vA, vc, rfl, _, _⟩ := hrow.form
    have HI' := Lib.hid (HI3.out.later ((Later.refl w3).alloc (Obj.cells #[.int .i64 num, .int .i64 fr, .int .i64 m.at_] TK)))
    have HG := Lib.hid (HI'.out.grownC hgrow)
    have hM' := HG.out.1
    have hcF := (cells_m hM').2.2.2.2.1
    have hfF := frozen_of_row w' M 9 _ _ hM'
    have hkeep : KeepT TG w3 w' := (KeepT.later ((Later.refl w3).alloc _)).trans HG.out.2.2.2.2.1
    have HB4 := Lib.hid (hkeep b _ HB3.out)
    have HN4 := Lib.hid (HN3.out.keep hkeep _ _)
    have HM := Lib.hid hM'
    have HR := Lib.hid hrow
    have HA := Lib.hid (apart_new' HI'.out.evs HI'.out.apart hblock)
    obtain ⟨b0, b1, b2, b3, b4, b5, b6, b7, b8⟩ := cells_g HB4.out
    clear hM' hrow hgrow hblock hkeep
    go_wp2_with fail
    go_ret3
    exact did_go (HN4.out.keep (KeepT.set (a := ⟨M, 9, none⟩) HM.out (by decide) _) _ _) (ImplAt.set (m := m.cap ⟨num, fr, m.at_⟩) HM.out rfl HI'.out.base (by simpa [Mst.cap, capCells_append, capCells] using HR.out) HG.out.2.1 HG.out.2.2.1 HG.out.2.2.2.1 HA.out HG.out.2.2.2.2.2)

set_option maxRecDepth 100000 in
set_option maxHeartbeats 1000000 in
theorem exec_event {w0 w : World} {M : Nat} {dv : Value} {s : ByteArray} {n : Nat} {m : Mst} {cv ev hv : Value} {hs : List Value} {text : ByteArray} {op num lo hi : Int} {l : Nat} {A : Option Addr} {c : Nat} {fr : Int} {nv : Value} {gs : List Goal} {b : Nat} 
    (h : ImplAt w0 w M dv s n m cv ev hv hs) (hb : w.heap[b]? = some (.cells #[.int .i64 2, .int .i64 op, .string text, .int .i64 num, .int .i64 lo, .int .i64 hi, .slice A l c, .int .i64 fr, nv] TG (0, 0)))
    (hnv : GoalsAt w0 w gs nv) (hne : m.events.length ≤ 5000) :
    Calls Try.prog 38 #[.pointer (some ⟨M, 0, none⟩), .pointer (some ⟨b, 0, none⟩)] w (Did w0 M dv s n m (.go gs (m.event ⟨num, fr, m.at_⟩))) := by
  have hblk := h.blk
  obtain ⟨np, rfl⟩ := hnv.ptr
  obtain ⟨cA, cc, rfl, _, _⟩ := h.caps.form
  obtain ⟨eA, ec, rfl, _, _⟩ := h.evs.form
  obtain ⟨hA, hc, rfl, _, _⟩ := h.chs.form
  obtain ⟨b0, b1, b2, b3, b4, b5, b6, b7, b8⟩ := cells_g hb
  have HI := Lib.hid h
  have HN := Lib.hid hnv
  have HB := Lib.hid hb
  skip
  have hbel := h.below.size
  have hMb : ¬ M = b := ne_of_type hblk hb (by decide)
  have hbM : ¬ b = M := fun e => hMb e.symm
  clear h hnv hb hblk
  go_enter Try.func38, Try.ntmps38
  go_wp2_with fail
  clear b0 b1 b2 b3 b4 b5 b6 b7 b8
  -- region 7: 26 operations, the last [21, 22, 23, 24, 25]
  refine wpU_begin [21, 22, 23, 24, 25] [0] (by kernel_rfl) (fun w3 hw3 => ?_)
  have hl3 := drew_later hw3
  have HI3 := Lib.hid (HI.out.later hl3)
  have HN3 := Lib.hid (HN.out.later hl3)
  have HB3 := Lib.hid (hl3.has HB.out)
  clear hw3 hl3 HI HN HB
  refine wpU_pure 0 (some 48) (v := ?_) rfl rfl (by kernel_rfl) (fun _ _ _ h => h) rfl (fun x => ?_) ?_
  rotate_left 1
  · go_simp; first | done | with_reducible rfl | rw [if_neg (by omega)] | rw [if_pos (by omega)]
  simp only [Act.put, nA, nB, nC]
  refine wpU_take 1 (some 49) (v := ?_) rfl rfl (by kernel_rfl) (fun _ _ _ h => h) rfl (fun x hx => ?_) ?_
  rotate_left 1
  · go_simp; first | done | with_reducible rfl | rw [if_neg (by omega)] | rw [if_pos (by omega)]
  simp only [Act.put, nA, nB, nC]
  refine wpU_take 2 (some 50) (v := ?_) rfl rfl (by kernel_rfl) (fun _ _ _ h => h) rfl (fun x hx => ?_) ?_
  rotate_left 1
  · go_simp; first | done | with_reducible rfl | rw [if_neg (by omega)] | rw [if_pos (by omega)]
  simp only [Act.put, nA, nB, nC]
  refine wpU_take 3 (some 51) (v := ?_) rfl rfl (by kernel_rfl) (fun _ _ _ h => h) rfl (fun x hx => ?_) ?_
  rotate_left 1
  · go_simp; first | done | with_reducible rfl | rw [if_neg (by omega)] | rw [if_pos (by omega)]
  simp only [Act.put, nA, nB, nC]
  refine wpU_take 4 (some 52) (v := ?_) rfl rfl (by kernel_rfl) (fun _ _ _ h => h) rfl (fun x hx => ?_) ?_
  rotate_left 1
  · go_simp; first | done | with_reducible rfl | rw [if_neg (by omega)] | rw [if_pos (by omega)]
  simp only [Act.put, nA, nB, nC]
  refine wpU_take 5 (some 53) (v := ?_) rfl rfl (by kernel_rfl) (fun _ _ _ h => h) rfl (fun x hx => ?_) ?_
  rotate_left 1
  · obtain ⟨m0, m1, m2, m8, m9, m10, m11⟩ := cells_m (hx.has HI3.out.blk); obtain ⟨b0, b1, b2, b3, b4, b5, b6, b7, b8⟩ := cells_g (hx.has HB3.out); go_simp; first | done | with_reducible rfl | rw [if_neg (by omega)] | rw [if_pos (by omega)]
  simp only [Act.put, nA, nB, nC]
  refine wpU_take 6 (some 54) (v := ?_) rfl rfl (by kernel_rfl) (fun _ _ _ h => h) rfl (fun x hx => ?_) ?_
  rotate_left 1
  · go_simp; first | done | with_reducible rfl | rw [if_neg (by omega)] | rw [if_pos (by omega)]
  simp only [Act.put, nA, nB, nC]
  refine wpU_take 7 (some 55) (v := ?_) rfl rfl (by kernel_rfl) (fun _ _ _ h => h) rfl (fun x hx => ?_) ?_
  rotate_left 1
  · go_simp; first | done | with_reducible rfl | rw [if_neg (by omega)] | rw [if_pos (by omega)]
  simp only [Act.put, nA, nB, nC]
  refine wpU_take 8 (some 56) (v := ?_) rfl rfl (by kernel_rfl) (fun _ _ _ h => h) rfl (fun x hx => ?_) ?_
  rotate_left 1
  · go_simp; first | done | with_reducible rfl | rw [if_neg (by omega)] | rw [if_pos (by omega)]
  simp only [Act.put, nA, nB, nC]
  refine wpU_take 9 (some 57) (v := ?_) rfl rfl (by kernel_rfl) (fun _ _ _ h => h) rfl (fun x hx => ?_) ?_
  rotate_left 1
  · go_simp; first | done | with_reducible rfl | rw [if_neg (by omega)] | rw [if_pos (by omega)]
  simp only [Act.put, nA, nB, nC]
  refine wpU_take 10 (some 58) (v := ?_) rfl rfl (by kernel_rfl) (fun _ _ _ h => h) rfl (fun x hx => ?_) ?_
  rotate_left 1
  · obtain ⟨m0, m1, m2, m8, m9, m10, m11⟩ := cells_m (hx.has HI3.out.blk); obtain ⟨b0, b1, b2, b3, b4, b5, b6, b7, b8⟩ := cells_g (hx.has HB3.out); go_simp; first | done | with_reducible rfl | rw [if_neg (by omega)] | rw [if_pos (by omega)]
  simp only [Act.put, nA, nB, nC]
  refine wpU_take 11 (some 59) (v := ?_) rfl rfl (by kernel_rfl) (fun _ _ _ h => h) rfl (fun x hx => ?_) ?_
  rotate_left 1
  · go_simp; first | done | with_reducible rfl | rw [if_neg (by omega)] | rw [if_pos (by omega)]
  simp only [Act.put, nA, nB, nC]
  refine wpU_take 12 (some 60) (v := ?_) rfl rfl (by kernel_rfl) (fun _ _ _ h => h) rfl (fun x hx => ?_) ?_
  rotate_left 1
  · go_simp; first | done | with_reducible rfl | rw [if_neg (by omega)] | rw [if_pos (by omega)]
  simp only [Act.put, nA, nB, nC]
  refine wpU_take 13 (some 61) (v := ?_) rfl rfl (by kernel_rfl) (fun _ _ _ h => h) rfl (fun x hx => ?_) ?_
  rotate_left 1
  · go_simp; first | done | with_reducible rfl | rw [if_neg (by omega)] | rw [if_pos (by omega)]
  simp only [Act.put, nA, nB, nC]
  refine wpU_take 14 (some 62) (v := ?_) rfl rfl (by kernel_rfl) (fun _ _ _ h => h) rfl (fun x hx => ?_) ?_
  rotate_left 1
  · obtain ⟨m0, m1, m2, m8, m9, m10, m11⟩ := cells_m (hx.has HI3.out.blk); obtain ⟨b0, b1, b2, b3, b4, b5, b6, b7, b8⟩ := cells_g (hx.has HB3.out); go_simp; first | done | with_reducible rfl | rw [if_neg (by omega)] | rw [if_pos (by omega)]
  simp only [Act.put, nA, nB, nC]
  refine wpU_take 15 (some 63) (v := ?_) rfl rfl (by kernel_rfl) (fun _ _ _ h => h) rfl (fun x hx => ?_) ?_
  rotate_left 1
  · go_simp; first | done | with_reducible rfl | rw [if_neg (by omega)] | rw [if_pos (by omega)]
  simp only [Act.put, nA, nB, nC]
  refine wpU_take 16 (some 64) (v := ?_) rfl rfl (by kernel_rfl) (fun _ _ _ h => h) rfl (fun x hx => ?_) ?_
  rotate_left 1
  · go_simp; first | done | with_reducible rfl | rw [if_neg (by omega)] | rw [if_pos (by omega)]
  simp only [Act.put, nA, nB, nC]
  refine wpU_take 17 (some 65) (v := ?_) rfl rfl (by kernel_rfl) (fun _ _ _ h => h) rfl (fun x hx => ?_) ?_
  rotate_left 1
  · go_simp; first | done | with_reducible rfl | rw [if_neg (by omega)] | rw [if_pos (by omega)]
  simp only [Act.put, nA, nB, nC]
  refine wpU_take 18 (some 66) (v := ?_) rfl rfl (by kernel_rfl) (fun _ _ _ h => h) rfl (fun x hx => ?_) ?_
  rotate_left 1
  · obtain ⟨m0, m1, m2, m8, m9, m10, m11⟩ := cells_m (hx.has HI3.out.blk); obtain ⟨b0, b1, b2, b3, b4, b5, b6, b7, b8⟩ := cells_g (hx.has HB3.out); go_simp; first | done | with_reducible rfl | rw [if_neg (by omega)] | rw [if_pos (by omega)]
  simp only [Act.put, nA, nB, nC]
  refine wpU_take 19 (some 67) (v := ?_) rfl rfl (by kernel_rfl) (fun _ _ _ h => h) rfl (fun x hx => ?_) ?_
  rotate_left 1
  · go_simp; first | done | with_reducible rfl | rw [if_neg (by omega)] | rw [if_pos (by omega)]
  simp only [Act.put, nA, nB, nC]
  refine wpU_step 20 (by kernel_rfl) rfl rfl ?_  -- buildSlice 
  go_wp2_with fail
  refine ⟨(Later.refl _).alloc _, ?_⟩
  refine wpU_last [_, _, _, _, _] (by kernel_rfl) rfl rfl ?_
  simp only [List.getElem_toArray, List.getElem_cons_succ, List.getElem_cons_zero]
  obtain ⟨i, hi, hz0, hz1, hz2⟩ := info_parts infoK
  refine wpList_append_has _ rfl _ _ _ rfl w0.heap.size TK i _ 3 24 Try.underlying31 hi hz0 hz1 hz2 rfl _ m.events.length (capCells m.events) rfl ((HI3.out.later ((Later.refl _).alloc _)).evs) _ 1 1 [.int .i64 num, .int .i64 fr, .int .i64 m.at_] rfl rfl ?_ ?_ (by omega) ?_ ?_ ?_ ?_
  · exact cells_three _ _ _ _ _
  · intro u hu
    simp only [List.mem_cons, List.not_mem_nil, or_false] at hu
    rcases hu with rfl | rfl | rfl <;> rfl
  · simp only [maxLen]; omega
  · omega
  · exact (HI3.out.later ((Later.refl w3).alloc _)).below.size
  · intro v' w' hrow hgrow hblock
    obtain ⟨vA, vc, rfl, _, _⟩ := hrow.form
    have HI' := Lib.hid (HI3.out.later ((Later.refl w3).alloc (Obj.cells #[.int .i64 num, .int .i64 fr, .int .i64 m.at_] TK)))
    have HG := Lib.hid (HI'.out.grownE hgrow)
    have hM' := HG.out.1
    have hcF := (cells_m hM').2.2.2.2.2.1
    have hfF := frozen_of_row w' M 10 _ _ hM'
    have hkeep : KeepT TG w3 w' := (KeepT.later ((Later.refl w3).alloc _)).trans HG.out.2.2.2.2.1
    have HB4 := Lib.hid (hkeep b _ HB3.out)
    have HN4 := Lib.hid (HN3.out.keep hkeep _ _)
    have HM := Lib.hid hM'
    have HR := Lib.hid hrow
    have HA := Lib.hid (apart_new HI'.out.caps HI'.out.apart hblock)
    obtain ⟨b0, b1, b2, b3, b4, b5, b6, b7, b8⟩ := cells_g HB4.out
    clear hM' hrow hgrow hblock hkeep
    go_wp2_with fail
    go_ret3
    exact did_go (HN4.out.keep (KeepT.set (a := ⟨M, 10, none⟩) HM.out (by decide) _) _ _) (ImplAt.set (m := m.event ⟨num, fr, m.at_⟩) HM.out rfl HI'.out.base HG.out.2.1 (by simpa [Mst.event, capCells_append, capCells] using HR.out) HG.out.2.2.1 HG.out.2.2.2.1 HA.out HG.out.2.2.2.2.2)

end Go.Proofs.Ytndefbecoahfhaa

/- impl's execute: four of its five kinds. Printed by gen_exec.py. -/
namespace Go.Proofs.Ytndefbecoahfhaa
open Go.RowKit

set_option maxRecDepth 100000 in
set_option maxHeartbeats 1000000 in
theorem exec_extend {w0 w : World} {M : Nat} {dv : Value} {s : ByteArray} {n : Nat} {m : Mst} {cv ev hv : Value} {hs : List Value} {text : ByteArray} {op num lo hi : Int} {k0 : Pat} {A : Option Addr} {c : Nat} {fr : Int} {nv : Value} {gs : List Goal} {b : Nat} 
    (h : ImplAt w0 w M dv s n m cv ev hv hs) (hb : w.heap[b]? = some (.cells #[.int .i64 3, .int .i64 op, .string text, .int .i64 num, .int .i64 lo, .int .i64 hi, .slice A 1 c, .int .i64 fr, nv] TG (0, 0)))
    (hkid : KidsIn w0 (.mk op text num lo hi [k0]) (.slice A 1 c)) (hnv : GoalsAt w0 w gs nv) :
    Calls Try.prog 38 #[.pointer (some ⟨M, 0, none⟩), .pointer (some ⟨b, 0, none⟩)] w (Did w0 M dv s n m (.go (⟨0, k0, 0⟩ :: ⟨4, .mk op text num lo hi [k0], m.at_⟩ :: gs) m)) := by
  have hblk := h.blk
  obtain ⟨np, rfl⟩ := hnv.ptr
  obtain ⟨cA, cc, rfl, _, _⟩ := h.caps.form
  obtain ⟨eA, ec, rfl, _, _⟩ := h.evs.form
  obtain ⟨hA, hc, rfl, _, _⟩ := h.chs.form
  obtain ⟨b0, b1, b2, b3, b4, b5, b6, b7, b8⟩ := cells_g hb
  have HI := Lib.hid h
  have HN := Lib.hid hnv
  have HB := Lib.hid hb
  have HR := Lib.hid (kids_row hkid)
  have HKID := Lib.hid hkid
  have hbel := h.below.size
  have hMb : ¬ M = b := ne_of_type hblk hb (by decide)
  have hbM : ¬ b = M := fun e => hMb e.symm
  clear h hnv hb hblk hkid
  go_enter Try.func38, Try.ntmps38
  go_wp2_with fail
  clear b0 b1 b2 b3 b4 b5 b6 b7 b8
  -- region 9: 26 operations, the last []
  refine wpU_begin [] [] (by kernel_rfl) (fun w3 hw3 => ?_)
  have hl3 := drew_later hw3
  have HI3 := Lib.hid (HI.out.later hl3)
  have HN3 := Lib.hid (HN.out.later hl3)
  have HB3 := Lib.hid (hl3.has HB.out)
  clear hw3 hl3 HI HN HB
  obtain ⟨g0, kA0, kc0, hA0, hk0, he0⟩ := kid_cells HR.out (j := 0) (by simp) HI3.out.below
  simp only [List.getElem_cons_zero] at hk0 he0
  have HK0 := Lib.hid hk0
  have HE0 := Lib.hid he0
  clear hk0 he0
  subst hA0
  refine wpU_take 0 (some 75) (v := ?_) rfl rfl (by kernel_rfl) (fun _ _ _ h => h) rfl (fun x hx => ?_) ?_
  rotate_left 1
  · go_simp; first | done | with_reducible rfl | rw [if_neg (by omega)] | rw [if_pos (by omega)]
  simp only [Act.put, nA, nB, nC]
  refine wpU_take 1 (some 76) (v := ?_) rfl rfl (by kernel_rfl) (fun _ _ _ h => h) rfl (fun x hx => ?_) ?_
  rotate_left 1
  · go_simp; first | done | with_reducible rfl | rw [if_neg (by omega)] | rw [if_pos (by omega)]
  simp only [Act.put, nA, nB, nC]
  refine wpU_take 2 (some 77) (v := ?_) rfl rfl (by kernel_rfl) (fun _ _ _ h => h) rfl (fun x hx => ?_) ?_
  rotate_left 1
  · go_simp; first | done | with_reducible rfl | rw [if_neg (by omega)] | rw [if_pos (by omega)]
  simp only [Act.put, nA, nB, nC]
  refine wpU_take 3 (some 78) (v := ?_) rfl rfl (by kernel_rfl) (fun _ _ _ h => h) rfl (fun x hx => ?_) ?_
  rotate_left 1
  · go_simp; first | done | with_reducible rfl | rw [if_neg (by omega)] | rw [if_pos (by omega)]
  simp only [Act.put, nA, nB, nC]
  refine wpU_take 4 (some 79) (v := ?_) rfl rfl (by kernel_rfl) (fun _ _ _ h => h) rfl (fun x hx => ?_) ?_
  rotate_left 1
  · obtain ⟨m0, m1, m2, m8, m9, m10, m11⟩ := cells_m (hx.has HI3.out.blk); obtain ⟨b0, b1, b2, b3, b4, b5, b6, b7, b8⟩ := cells_g (hx.has HB3.out); obtain ⟨e00, e01, e02, e03, e04, e05⟩ := HE0.out.below hx; simp only [Nat.zero_mul, Nat.zero_add] at e00 e01 e02 e03 e04 e05; go_simp; first | done | with_reducible rfl | rw [if_neg (by omega)] | rw [if_pos (by omega)]
  simp only [Act.put, nA, nB, nC]
  refine wpU_take 5 (some 80) (v := ?_) rfl rfl (by kernel_rfl) (fun _ _ _ h => h) rfl (fun x hx => ?_) ?_
  rotate_left 1
  · go_simp; first | done | with_reducible rfl | rw [if_neg (by omega)] | rw [if_pos (by omega)]
  simp only [Act.put, nA, nB, nC]
  refine wpU_take 6 (some 81) (v := ?_) rfl rfl (by kernel_rfl) (fun _ _ _ h => h) rfl (fun x hx => ?_) ?_
  rotate_left 1
  · obtain ⟨m0, m1, m2, m8, m9, m10, m11⟩ := cells_m (hx.has HI3.out.blk); obtain ⟨b0, b1, b2, b3, b4, b5, b6, b7, b8⟩ := cells_g (hx.has HB3.out); obtain ⟨e00, e01, e02, e03, e04, e05⟩ := HE0.out.below hx; simp only [Nat.zero_mul, Nat.zero_add] at e00 e01 e02 e03 e04 e05; go_simp; first | done | with_reducible rfl | rw [if_neg (by omega)] | rw [if_pos (by omega)]
  simp only [Act.put, nA, nB, nC]
  refine wpU_take 7 (some 82) (v := ?_) rfl rfl (by kernel_rfl) (fun _ _ _ h => h) rfl (fun x hx => ?_) ?_
  rotate_left 1
  · go_simp; first | done | with_reducible rfl | rw [if_neg (by omega)] | rw [if_pos (by omega)]
  simp only [Act.put, nA, nB, nC]
  refine wpU_take 8 (some 83) (v := ?_) rfl rfl (by kernel_rfl) (fun _ _ _ h => h) rfl (fun x hx => ?_) ?_
  rotate_left 1
  · go_simp; first | done | with_reducible rfl | rw [if_neg (by omega)] | rw [if_pos (by omega)]
  simp only [Act.put, nA, nB, nC]
  refine wpU_take 9 (some 84) (v := ?_) rfl rfl (by kernel_rfl) (fun _ _ _ h => h) rfl (fun x hx => ?_) ?_
  rotate_left 1
  · go_simp; first | done | with_reducible rfl | rw [if_neg (by omega)] | rw [if_pos (by omega)]
  simp only [Act.put, nA, nB, nC]
  refine wpU_take 10 (some 85) (v := ?_) rfl rfl (by kernel_rfl) (fun _ _ _ h => h) rfl (fun x hx => ?_) ?_
  rotate_left 1
  · obtain ⟨m0, m1, m2, m8, m9, m10, m11⟩ := cells_m (hx.has HI3.out.blk); obtain ⟨b0, b1, b2, b3, b4, b5, b6, b7, b8⟩ := cells_g (hx.has HB3.out); obtain ⟨e00, e01, e02, e03, e04, e05⟩ := HE0.out.below hx; simp only [Nat.zero_mul, Nat.zero_add] at e00 e01 e02 e03 e04 e05; go_simp; first | done | with_reducible rfl | rw [if_neg (by omega)] | rw [if_pos (by omega)]
  simp only [Act.put, nA, nB, nC]
  refine wpU_take 11 (some 86) (v := ?_) rfl rfl (by kernel_rfl) (fun _ _ _ h => h) rfl (fun x hx => ?_) ?_
  rotate_left 1
  · go_simp; first | done | with_reducible rfl | rw [if_neg (by omega)] | rw [if_pos (by omega)]
  simp only [Act.put, nA, nB, nC]
  refine wpU_take 12 (some 87) (v := ?_) rfl rfl (by kernel_rfl) (fun _ _ _ h => h) rfl (fun x hx => ?_) ?_
  rotate_left 1
  · go_simp; first | done | with_reducible rfl | rw [if_neg (by omega)] | rw [if_pos (by omega)]
  simp only [Act.put, nA, nB, nC]
  refine wpU_take 13 (some 88) (v := ?_) rfl rfl (by kernel_rfl) (fun _ _ _ h => h) rfl (fun x hx => ?_) ?_
  rotate_left 1
  · go_simp; first | done | with_reducible rfl | rw [if_neg (by omega)] | rw [if_pos (by omega)]
  simp only [Act.put, nA, nB, nC]
  refine wpU_take 14 (some 89) (v := ?_) rfl rfl (by kernel_rfl) (fun _ _ _ h => h) rfl (fun x hx => ?_) ?_
  rotate_left 1
  · obtain ⟨m0, m1, m2, m8, m9, m10, m11⟩ := cells_m (hx.has HI3.out.blk); obtain ⟨b0, b1, b2, b3, b4, b5, b6, b7, b8⟩ := cells_g (hx.has HB3.out); obtain ⟨e00, e01, e02, e03, e04, e05⟩ := HE0.out.below hx; simp only [Nat.zero_mul, Nat.zero_add] at e00 e01 e02 e03 e04 e05; go_simp; first | done | with_reducible rfl | rw [if_neg (by omega)] | rw [if_pos (by omega)]
  simp only [Act.put, nA, nB, nC]
  refine wpU_take 15 (some 90) (v := ?_) rfl rfl (by kernel_rfl) (fun _ _ _ h => h) rfl (fun x hx => ?_) ?_
  rotate_left 1
  · go_simp; first | done | with_reducible rfl | rw [if_neg (by omega)] | rw [if_pos (by omega)]
  simp only [Act.put, nA, nB, nC]
  refine wpU_take 16 (some 91) (v := ?_) rfl rfl (by kernel_rfl) (fun _ _ _ h => h) rfl (fun x hx => ?_) ?_
  rotate_left 1
  · go_simp; first | done | with_reducible rfl | rw [if_neg (by omega)] | rw [if_pos (by omega)]
  simp only [Act.put, nA, nB, nC]
  refine wpU_take 17 (some 92) (v := ?_) rfl rfl (by kernel_rfl) (fun _ _ _ h => h) rfl (fun x hx => ?_) ?_
  rotate_left 1
  · go_simp; first | done | with_reducible rfl | rw [if_neg (by omega)] | rw [if_pos (by omega)]
  simp only [Act.put, nA, nB, nC]
  refine wpU_take 18 (some 93) (v := ?_) rfl rfl (by kernel_rfl) (fun _ _ _ h => h) rfl (fun x hx => ?_) ?_
  rotate_left 1
  · obtain ⟨m0, m1, m2, m8, m9, m10, m11⟩ := cells_m (hx.has HI3.out.blk); obtain ⟨b0, b1, b2, b3, b4, b5, b6, b7, b8⟩ := cells_g (hx.has HB3.out); obtain ⟨e00, e01, e02, e03, e04, e05⟩ := HE0.out.below hx; simp only [Nat.zero_mul, Nat.zero_add] at e00 e01 e02 e03 e04 e05; go_simp; first | done | with_reducible rfl | rw [if_neg (by omega)] | rw [if_pos (by omega)]
  simp only [Act.put, nA, nB, nC]
  refine wpU_take 19 (some 94) (v := ?_) rfl rfl (by kernel_rfl) (fun _ _ _ h => h) rfl (fun x hx => ?_) ?_
  rotate_left 1
  · go_simp; first | done | with_reducible rfl | rw [if_neg (by omega)] | rw [if_pos (by omega)]
  simp only [Act.put, nA, nB, nC]
  refine wpU_step 20 (by kernel_rfl) rfl rfl ?_  -- box 
  go_wp2_with fail
  refine ⟨(Later.refl _).alloc _, ?_⟩
  refine wpU_take 21 (some 96) (v := ?_) rfl rfl (by kernel_rfl) (fun _ _ _ h => h) rfl (fun x hx => ?_) ?_
  rotate_left 1
  · go_simp; first | done | with_reducible rfl | rw [if_neg (by omega)] | rw [if_pos (by omega)]
  simp only [Act.put, nA, nB, nC]
  refine wpU_step 22 (by kernel_rfl) rfl rfl ?_  -- box 
  go_wp2_with fail
  refine ⟨(Later.refl _).alloc _, ?_⟩
  refine wpU_take 23 (some 4) (v := ?_) rfl rfl (by kernel_rfl) (fun _ _ _ h => h) rfl (fun x hx => ?_) ?_
  rotate_left 1
  · go_simp; first | done | with_reducible rfl | rw [if_neg (by omega)] | rw [if_pos (by omega)]
  simp only [Act.put, nA, nB, nC]
  refine wpU_take 24 (some 5) (v := ?_) rfl rfl (by kernel_rfl) (fun _ _ _ h => h) rfl (fun x hx => ?_) ?_
  rotate_left 1
  · go_simp; first | done | with_reducible rfl | rw [if_neg (by omega)] | rw [if_pos (by omega)]
  simp only [Act.put, nA, nB, nC]
  refine wpU_take 25 (some 6) (v := ?_) rfl rfl (by kernel_rfl) (fun _ _ _ h => h) rfl (fun x hx => ?_) ?_
  rotate_left 1
  · go_simp; first | done | with_reducible rfl | rw [if_neg (by omega)] | rw [if_pos (by omega)]
  simp only [Act.put, nA, nB, nC]
  refine wpU_last [] (by kernel_rfl) rfl rfl ?_
  go_wp2_with fail
  go_ret3
  exact did_go (gv := .pointer (some ⟨w3.heap.size + 1, 0, none⟩)) ((HN3.out.push ⟨4, .mk op text num lo hi [k0], m.at_⟩ HKID.out).pushAt ⟨0, k0, 0⟩ HK0.out _ (by simp)) (HI3.out.later (((Later.refl _).alloc _).alloc _))

set_option maxRecDepth 100000 in
set_option maxHeartbeats 1000000 in
theorem exec_check_go {w0 w : World} {M : Nat} {dv : Value} {s : ByteArray} {n : Nat} {m : Mst} {cv ev hv : Value} {hs : List Value} {text : ByteArray} {op num lo hi : Int} {l : Nat} {kids : List Pat} {A : Option Addr} {c : Nat} {fr : Int} {nv : Value} {gs : List Goal} {b : Nat} 
    (h : ImplAt w0 w M dv s n m cv ev hv hs) (hb : w.heap[b]? = some (.cells #[.int .i64 4, .int .i64 op, .string text, .int .i64 num, .int .i64 lo, .int .i64 hi, .slice A l c, .int .i64 fr, nv] TG (0, 0)))
    (hkid : KidsIn w0 (.mk op text num lo hi kids) (.slice A l c)) (hnv : GoalsAt w0 w gs nv) (hne : ((m.at_ : Int) != fr) = true) :
    Calls Try.prog 38 #[.pointer (some ⟨M, 0, none⟩), .pointer (some ⟨b, 0, none⟩)] w (Did w0 M dv s n m (.go (⟨0, .mk op text num lo hi kids, 0⟩ :: gs) m)) := by
  have hblk := h.blk
  obtain ⟨np, rfl⟩ := hnv.ptr
  obtain ⟨cA, cc, rfl, _, _⟩ := h.caps.form
  obtain ⟨eA, ec, rfl, _, _⟩ := h.evs.form
  obtain ⟨hA, hc, rfl, _, _⟩ := h.chs.form
  obtain ⟨b0, b1, b2, b3, b4, b5, b6, b7, b8⟩ := cells_g hb
  have HI := Lib.hid h
  have HN := Lib.hid hnv
  have HB := Lib.hid hb
  have HR := Lib.hid (kids_row hkid)
  have HKID := Lib.hid hkid
  have hbel := h.below.size
  have hMb : ¬ M = b := ne_of_type hblk hb (by decide)
  have hbM : ¬ b = M := fun e => hMb e.symm
  clear h hnv hb hblk hkid
  go_enter Try.func38, Try.ntmps38
  go_wp2_with fail
  clear b0 b1 b2 b3 b4 b5 b6 b7 b8
  -- region 11: 22 operations, the last []
  refine wpU_begin [] [] (by kernel_rfl) (fun w3 hw3 => ?_)
  have hl3 := drew_later hw3
  have HI3 := Lib.hid (HI.out.later hl3)
  have HN3 := Lib.hid (HN.out.later hl3)
  have HB3 := Lib.hid (hl3.has HB.out)
  clear hw3 hl3 HI HN HB
  refine wpU_take 0 (some 100) (v := ?_) rfl rfl (by kernel_rfl) (fun _ _ _ h => h) rfl (fun x hx => ?_) ?_
  rotate_left 1
  · go_simp; first | done | with_reducible rfl | rw [if_neg (by omega)] | rw [if_pos (by omega)]
  simp only [Act.put, nA, nB, nC]
  refine wpU_take 1 (some 101) (v := ?_) rfl rfl (by kernel_rfl) (fun _ _ _ h => h) rfl (fun x hx => ?_) ?_
  rotate_left 1
  · go_simp; first | done | with_reducible rfl | rw [if_neg (by omega)] | rw [if_pos (by omega)]
  simp only [Act.put, nA, nB, nC]
  refine wpU_take 2 (some 102) (v := ?_) rfl rfl (by kernel_rfl) (fun _ _ _ h => h) rfl (fun x hx => ?_) ?_
  rotate_left 1
  · go_simp; first | done | with_reducible rfl | rw [if_neg (by omega)] | rw [if_pos (by omega)]
  simp only [Act.put, nA, nB, nC]
  refine wpU_take 3 (some 103) (v := ?_) rfl rfl (by kernel_rfl) (fun _ _ _ h => h) rfl (fun x hx => ?_) ?_
  rotate_left 1
  · obtain ⟨m0, m1, m2, m8, m9, m10, m11⟩ := cells_m (hx.has HI3.out.blk); obtain ⟨b0, b1, b2, b3, b4, b5, b6, b7, b8⟩ := cells_g (hx.has HB3.out); go_simp; first | done | with_reducible rfl | rw [if_neg (by omega)] | rw [if_pos (by omega)]
  simp only [Act.put, nA, nB, nC]
  refine wpU_take 4 (some 104) (v := ?_) rfl rfl (by kernel_rfl) (fun _ _ _ h => h) rfl (fun x hx => ?_) ?_
  rotate_left 1
  · go_simp; first | done | with_reducible rfl | rw [if_neg (by omega)] | rw [if_pos (by omega)]
  simp only [Act.put, nA, nB, nC]
  refine wpU_take 5 (some 105) (v := ?_) rfl rfl (by kernel_rfl) (fun _ _ _ h => h) rfl (fun x hx => ?_) ?_
  rotate_left 1
  · go_simp; first | done | with_reducible rfl | rw [if_neg (by omega)] | rw [if_pos (by omega)]
  simp only [Act.put, nA, nB, nC]
  refine wpU_take 6 (some 106) (v := ?_) rfl rfl (by kernel_rfl) (fun _ _ _ h => h) rfl (fun x hx => ?_) ?_
  rotate_left 1
  · go_simp; first | done | with_reducible rfl | rw [if_neg (by omega)] | rw [if_pos (by omega)]
  simp only [Act.put, nA, nB, nC]
  refine wpU_take 7 (some 107) (v := ?_) rfl rfl (by kernel_rfl) (fun _ _ _ h => h) rfl (fun x hx => ?_) ?_
  rotate_left 1
  · obtain ⟨m0, m1, m2, m8, m9, m10, m11⟩ := cells_m (hx.has HI3.out.blk); obtain ⟨b0, b1, b2, b3, b4, b5, b6, b7, b8⟩ := cells_g (hx.has HB3.out); go_simp; first | done | with_reducible rfl | rw [if_neg (by omega)] | rw [if_pos (by omega)]
  simp only [Act.put, nA, nB, nC]
  refine wpU_take 8 (some 108) (v := ?_) rfl rfl (by kernel_rfl) (fun _ _ _ h => h) rfl (fun x hx => ?_) ?_
  rotate_left 1
  · go_simp; first | done | with_reducible rfl | rw [if_neg (by omega)] | rw [if_pos (by omega)]
  simp only [Act.put, nA, nB, nC]
  refine wpU_take 10 (some 110) (v := ?_) rfl rfl (by kernel_rfl) (fun _ _ _ h => h) rfl (fun x hx => ?_) ?_
  rotate_left 1
  · go_simp; first | done | with_reducible rfl | rw [if_neg (by omega)] | rw [if_pos (by omega)]
  simp only [Act.put, nA, nB, nC]
  refine wpU_take 11 (some 111) (v := ?_) rfl rfl (by kernel_rfl) (fun _ _ _ h => h) rfl (fun x hx => ?_) ?_
  rotate_left 1
  · go_simp; first | done | with_reducible rfl | rw [if_neg (by omega)] | rw [if_pos (by omega)]
  simp only [Act.put, nA, nB, nC]
  refine wpU_take 12 (some 112) (v := ?_) rfl rfl (by kernel_rfl) (fun _ _ _ h => h) rfl (fun x hx => ?_) ?_
  rotate_left 1
  · go_simp; first | done | with_reducible rfl | rw [if_neg (by omega)] | rw [if_pos (by omega)]
  simp only [Act.put, nA, nB, nC]
  refine wpU_take 13 (some 113) (v := ?_) rfl rfl (by kernel_rfl) (fun _ _ _ h => h) rfl (fun x hx => ?_) ?_
  rotate_left 1
  · obtain ⟨m0, m1, m2, m8, m9, m10, m11⟩ := cells_m (hx.has HI3.out.blk); obtain ⟨b0, b1, b2, b3, b4, b5, b6, b7, b8⟩ := cells_g (hx.has HB3.out); go_simp; first | done | with_reducible rfl | rw [if_neg (by omega)] | rw [if_pos (by omega)]
  simp only [Act.put, nA, nB, nC]
  refine wpU_take 14 (some 114) (v := ?_) rfl rfl (by kernel_rfl) (fun _ _ _ h => h) rfl (fun x hx => ?_) ?_
  rotate_left 1
  · go_simp; first | done | with_reducible rfl | rw [if_neg (by omega)] | rw [if_pos (by omega)]
  simp only [Act.put, nA, nB, nC]
  refine wpU_take 15 (some 115) (v := ?_) rfl rfl (by kernel_rfl) (fun _ _ _ h => h) rfl (fun x hx => ?_) ?_
  rotate_left 1
  · go_simp; first | done | with_reducible rfl | rw [if_neg (by omega)] | rw [if_pos (by omega)]
  simp only [Act.put, nA, nB, nC]
  refine wpU_take 16 (some 116) (v := ?_) rfl rfl (by kernel_rfl) (fun _ _ _ h => h) rfl (fun x hx => ?_) ?_
  rotate_left 1
  · go_simp; first | done | with_reducible rfl | rw [if_neg (by omega)] | rw [if_pos (by omega)]
  simp only [Act.put, nA, nB, nC]
  refine wpU_take 17 (some 117) (v := ?_) rfl rfl (by kernel_rfl) (fun _ _ _ h => h) rfl (fun x hx => ?_) ?_
  rotate_left 1
  · obtain ⟨m0, m1, m2, m8, m9, m10, m11⟩ := cells_m (hx.has HI3.out.blk); obtain ⟨b0, b1, b2, b3, b4, b5, b6, b7, b8⟩ := cells_g (hx.has HB3.out); go_simp; first | done | with_reducible rfl | rw [if_neg (by omega)] | rw [if_pos (by omega)]
  simp only [Act.put, nA, nB, nC]
  refine wpU_take 18 (some 118) (v := ?_) rfl rfl (by kernel_rfl) (fun _ _ _ h => h) rfl (fun x hx => ?_) ?_
  rotate_left 1
  · go_simp; first | done | with_reducible rfl | rw [if_neg (by omega)] | rw [if_pos (by omega)]
  simp only [Act.put, nA, nB, nC]
  refine wpU_step 9 (by kernel_rfl) rfl rfl ?_  -- box 
  go_wp2_with fail
  refine ⟨(Later.refl _).alloc _, ?_⟩
  refine wpU_take 19 (some 4) (v := ?_) rfl rfl (by kernel_rfl) (fun _ _ _ h => h) rfl (fun x hx => ?_) ?_
  rotate_left 1
  · go_simp; first | done | with_reducible rfl | rw [if_neg (by omega)] | rw [if_pos (by omega)]
  simp only [Act.put, nA, nB, nC]
  refine wpU_take 20 (some 5) (v := ?_) rfl rfl (by kernel_rfl) (fun _ _ _ h => h) rfl (fun x hx => ?_) ?_
  rotate_left 1
  · go_simp; first | done | with_reducible rfl | rw [if_neg (by omega)] | rw [if_pos (by omega)]
  simp only [Act.put, nA, nB, nC]
  refine wpU_take 21 (some 6) (v := ?_) rfl rfl (by kernel_rfl) (fun _ _ _ h => h) rfl (fun x hx => ?_) ?_
  rotate_left 1
  · go_simp; first | done | with_reducible rfl | rw [if_neg (by omega)] | rw [if_pos (by omega)]
  simp only [Act.put, nA, nB, nC]
  refine wpU_last [] (by kernel_rfl) rfl rfl ?_
  go_wp2_with fail
  go_ret3
  exact did_go (gv := .pointer (some ⟨w3.heap.size, 0, none⟩)) (HN3.out.pushAt ⟨0, .mk op text num lo hi kids, 0⟩ HKID.out _ rfl) (HI3.out.later ((Later.refl _).alloc _))

set_option maxRecDepth 100000 in
set_option maxHeartbeats 1000000 in
theorem exec_check_fail {w0 w : World} {M : Nat} {dv : Value} {s : ByteArray} {n : Nat} {m : Mst} {cv ev hv : Value} {hs : List Value} {text : ByteArray} {op num lo hi : Int} {l : Nat} {kids : List Pat} {A : Option Addr} {c : Nat} {fr : Int} {nv : Value} {gs : List Goal} {b : Nat} 
    (h : ImplAt w0 w M dv s n m cv ev hv hs) (hb : w.heap[b]? = some (.cells #[.int .i64 4, .int .i64 op, .string text, .int .i64 num, .int .i64 lo, .int .i64 hi, .slice A l c, .int .i64 fr, nv] TG (0, 0)))
    (hkid : KidsIn w0 (.mk op text num lo hi kids) (.slice A l c)) (hnv : GoalsAt w0 w gs nv) (hne : ((m.at_ : Int) != fr) = false) :
    Calls Try.prog 38 #[.pointer (some ⟨M, 0, none⟩), .pointer (some ⟨b, 0, none⟩)] w (Did w0 M dv s n m (.fail)) := by
  have hblk := h.blk
  obtain ⟨np, rfl⟩ := hnv.ptr
  obtain ⟨cA, cc, rfl, _, _⟩ := h.caps.form
  obtain ⟨eA, ec, rfl, _, _⟩ := h.evs.form
  obtain ⟨hA, hc, rfl, _, _⟩ := h.chs.form
  obtain ⟨b0, b1, b2, b3, b4, b5, b6, b7, b8⟩ := cells_g hb
  have HI := Lib.hid h
  have HN := Lib.hid hnv
  have HB := Lib.hid hb
  have HR := Lib.hid (kids_row hkid)
  have HKID := Lib.hid hkid
  have hbel := h.below.size
  have hMb : ¬ M = b := ne_of_type hblk hb (by decide)
  have hbM : ¬ b = M := fun e => hMb e.symm
  clear h hnv hb hblk hkid
  go_enter Try.func38, Try.ntmps38
  go_wp2_with fail
  clear b0 b1 b2 b3 b4 b5 b6 b7 b8
  -- region 11: 22 operations, the last []
  refine wpU_begin [] [] (by kernel_rfl) (fun w3 hw3 => ?_)
  have hl3 := drew_later hw3
  have HI3 := Lib.hid (HI.out.later hl3)
  have HN3 := Lib.hid (HN.out.later hl3)
  have HB3 := Lib.hid (hl3.has HB.out)
  clear hw3 hl3 HI HN HB
  refine wpU_take 0 (some 100) (v := ?_) rfl rfl (by kernel_rfl) (fun _ _ _ h => h) rfl (fun x hx => ?_) ?_
  rotate_left 1
  · go_simp; first | done | with_reducible rfl | rw [if_neg (by omega)] | rw [if_pos (by omega)]
  simp only [Act.put, nA, nB, nC]
  refine wpU_take 1 (some 101) (v := ?_) rfl rfl (by kernel_rfl) (fun _ _ _ h => h) rfl (fun x hx => ?_) ?_
  rotate_left 1
  · go_simp; first | done | with_reducible rfl | rw [if_neg (by omega)] | rw [if_pos (by omega)]
  simp only [Act.put, nA, nB, nC]
  refine wpU_take 2 (some 102) (v := ?_) rfl rfl (by kernel_rfl) (fun _ _ _ h => h) rfl (fun x hx => ?_) ?_
  rotate_left 1
  · go_simp; first | done | with_reducible rfl | rw [if_neg (by omega)] | rw [if_pos (by omega)]
  simp only [Act.put, nA, nB, nC]
  refine wpU_take 3 (some 103) (v := ?_) rfl rfl (by kernel_rfl) (fun _ _ _ h => h) rfl (fun x hx => ?_) ?_
  rotate_left 1
  · obtain ⟨m0, m1, m2, m8, m9, m10, m11⟩ := cells_m (hx.has HI3.out.blk); obtain ⟨b0, b1, b2, b3, b4, b5, b6, b7, b8⟩ := cells_g (hx.has HB3.out); go_simp; first | done | with_reducible rfl | rw [if_neg (by omega)] | rw [if_pos (by omega)]
  simp only [Act.put, nA, nB, nC]
  refine wpU_take 4 (some 104) (v := ?_) rfl rfl (by kernel_rfl) (fun _ _ _ h => h) rfl (fun x hx => ?_) ?_
  rotate_left 1
  · go_simp; first | done | with_reducible rfl | rw [if_neg (by omega)] | rw [if_pos (by omega)]
  simp only [Act.put, nA, nB, nC]
  refine wpU_take 5 (some 105) (v := ?_) rfl rfl (by kernel_rfl) (fun _ _ _ h => h) rfl (fun x hx => ?_) ?_
  rotate_left 1
  · go_simp; first | done | with_reducible rfl | rw [if_neg (by omega)] | rw [if_pos (by omega)]
  simp only [Act.put, nA, nB, nC]
  refine wpU_take 6 (some 106) (v := ?_) rfl rfl (by kernel_rfl) (fun _ _ _ h => h) rfl (fun x hx => ?_) ?_
  rotate_left 1
  · go_simp; first | done | with_reducible rfl | rw [if_neg (by omega)] | rw [if_pos (by omega)]
  simp only [Act.put, nA, nB, nC]
  refine wpU_take 7 (some 107) (v := ?_) rfl rfl (by kernel_rfl) (fun _ _ _ h => h) rfl (fun x hx => ?_) ?_
  rotate_left 1
  · obtain ⟨m0, m1, m2, m8, m9, m10, m11⟩ := cells_m (hx.has HI3.out.blk); obtain ⟨b0, b1, b2, b3, b4, b5, b6, b7, b8⟩ := cells_g (hx.has HB3.out); go_simp; first | done | with_reducible rfl | rw [if_neg (by omega)] | rw [if_pos (by omega)]
  simp only [Act.put, nA, nB, nC]
  refine wpU_take 8 (some 108) (v := ?_) rfl rfl (by kernel_rfl) (fun _ _ _ h => h) rfl (fun x hx => ?_) ?_
  rotate_left 1
  · go_simp; first | done | with_reducible rfl | rw [if_neg (by omega)] | rw [if_pos (by omega)]
  simp only [Act.put, nA, nB, nC]
  refine wpU_take 10 (some 110) (v := ?_) rfl rfl (by kernel_rfl) (fun _ _ _ h => h) rfl (fun x hx => ?_) ?_
  rotate_left 1
  · go_simp; first | done | with_reducible rfl | rw [if_neg (by omega)] | rw [if_pos (by omega)]
  simp only [Act.put, nA, nB, nC]
  refine wpU_take 11 (some 111) (v := ?_) rfl rfl (by kernel_rfl) (fun _ _ _ h => h) rfl (fun x hx => ?_) ?_
  rotate_left 1
  · go_simp; first | done | with_reducible rfl | rw [if_neg (by omega)] | rw [if_pos (by omega)]
  simp only [Act.put, nA, nB, nC]
  refine wpU_take 12 (some 112) (v := ?_) rfl rfl (by kernel_rfl) (fun _ _ _ h => h) rfl (fun x hx => ?_) ?_
  rotate_left 1
  · go_simp; first | done | with_reducible rfl | rw [if_neg (by omega)] | rw [if_pos (by omega)]
  simp only [Act.put, nA, nB, nC]
  refine wpU_take 13 (some 113) (v := ?_) rfl rfl (by kernel_rfl) (fun _ _ _ h => h) rfl (fun x hx => ?_) ?_
  rotate_left 1
  · obtain ⟨m0, m1, m2, m8, m9, m10, m11⟩ := cells_m (hx.has HI3.out.blk); obtain ⟨b0, b1, b2, b3, b4, b5, b6, b7, b8⟩ := cells_g (hx.has HB3.out); go_simp; first | done | with_reducible rfl | rw [if_neg (by omega)] | rw [if_pos (by omega)]
  simp only [Act.put, nA, nB, nC]
  refine wpU_take 14 (some 114) (v := ?_) rfl rfl (by kernel_rfl) (fun _ _ _ h => h) rfl (fun x hx => ?_) ?_
  rotate_left 1
  · go_simp; first | done | with_reducible rfl | rw [if_neg (by omega)] | rw [if_pos (by omega)]
  simp only [Act.put, nA, nB, nC]
  refine wpU_take 15 (some 115) (v := ?_) rfl rfl (by kernel_rfl) (fun _ _ _ h => h) rfl (fun x hx => ?_) ?_
  rotate_left 1
  · go_simp; first | done | with_reducible rfl | rw [if_neg (by omega)] | rw [if_pos (by omega)]
  simp only [Act.put, nA, nB, nC]
  refine wpU_take 16 (some 116) (v := ?_) rfl rfl (by kernel_rfl) (fun _ _ _ h => h) rfl (fun x hx => ?_) ?_
  rotate_left 1
  · go_simp; first | done | with_reducible rfl | rw [if_neg (by omega)] | rw [if_pos (by omega)]
  simp only [Act.put, nA, nB, nC]
  refine wpU_take 17 (some 117) (v := ?_) rfl rfl (by kernel_rfl) (fun _ _ _ h => h) rfl (fun x hx => ?_) ?_
  rotate_left 1
  · obtain ⟨m0, m1, m2, m8, m9, m10, m11⟩ := cells_m (hx.has HI3.out.blk); obtain ⟨b0, b1, b2, b3, b4, b5, b6, b7, b8⟩ := cells_g (hx.has HB3.out); go_simp; first | done | with_reducible rfl | rw [if_neg (by omega)] | rw [if_pos (by omega)]
  simp only [Act.put, nA, nB, nC]
  refine wpU_take 18 (some 118) (v := ?_) rfl rfl (by kernel_rfl) (fun _ _ _ h => h) rfl (fun x hx => ?_) ?_
  rotate_left 1
  · go_simp; first | done | with_reducible rfl | rw [if_neg (by omega)] | rw [if_pos (by omega)]
  simp only [Act.put, nA, nB, nC]
  refine wpU_step 9 (by kernel_rfl) rfl rfl ?_  -- box 
  go_wp2_with fail
  refine ⟨(Later.refl _).alloc _, ?_⟩
  refine wpU_take 19 (some 4) (v := ?_) rfl rfl (by kernel_rfl) (fun _ _ _ h => h) rfl (fun x hx => ?_) ?_
  rotate_left 1
  · go_simp; first | done | with_reducible rfl | rw [if_neg (by omega)] | rw [if_pos (by omega)]
  simp only [Act.put, nA, nB, nC]
  refine wpU_take 20 (some 5) (v := ?_) rfl rfl (by kernel_rfl) (fun _ _ _ h => h) rfl (fun x hx => ?_) ?_
  rotate_left 1
  · go_simp; first | done | with_reducible rfl | rw [if_neg (by omega)] | rw [if_pos (by omega)]
  simp only [Act.put, nA, nB, nC]
  refine wpU_take 21 (some 6) (v := ?_) rfl rfl (by kernel_rfl) (fun _ _ _ h => h) rfl (fun x hx => ?_) ?_
  rotate_left 1
  · go_simp; first | done | with_reducible rfl | rw [if_neg (by omega)] | rw [if_pos (by omega)]
  simp only [Act.put, nA, nB, nC]
  refine wpU_last [] (by kernel_rfl) rfl rfl ?_
  go_wp2_with fail
  go_ret3
  exact did_fail (p := some ⟨w3.heap.size, 0, none⟩) (HI3.out.later ((Later.refl _).alloc _))

end Go.Proofs.Ytndefbecoahfhaa

/- impl's match and execute do what the plain machine's step does. -/
namespace Go.Proofs.Ytndefbecoahfhaa
open Go.RowKit

theorem stepMatch_simple {defs : List Pat} {s : ByteArray} {p : Pat} {gs : List Goal} {m : Mst} (h : isSimple p.op) :
    stepMatch defs s p gs m = match oneEnd p.op p.text p.num p.lo p.hi s m.at_ with
      | some e => .go gs { m with at_ := e }
      | none => .fail := by
  unfold isSimple at h
  unfold stepMatch
  rw [if_neg (by omega), if_neg (by omega), if_neg (by omega), if_neg (by omega), if_neg (by omega), if_neg (by omega), if_neg (by omega), if_neg (by omega), if_neg (by omega), if_neg (by omega)]
  cases oneEnd p.op p.text p.num p.lo p.hi s m.at_ <;> rfl

theorem match_any {w0 w : World} {M : Nat} {dA : Option Addr} {dc : Nat} {s : ByteArray} {n : Nat} {m : Mst} {cv ev hv : Value} {hs : List Value} {defs : List Pat} {k : Nat} {p : Pat} {gs : List Goal} {gv : Value}
    (h : ImplAt w0 w M (.slice dA defs.length dc) s n m cv ev hv hs) (hg : GoalsAt w0 w (⟨0, p, 0⟩ :: gs) gv) (hok : Ok defs s k (⟨0, p, 0⟩ :: gs) m) (hk : k ≤ 5000) (hd : DefsOk defs) (hdefs : RowIn w0 dA 0 defs) (hss : s.size ≤ 120) :
    Calls Try.prog 68 #[.pointer (some ⟨M, 0, none⟩), gv] w (Did w0 M (.slice dA defs.length dc) s n m (stepMatch defs s p gs m)) := by
  obtain ⟨b, kv, nv, rfl, hb, hkid, hnv⟩ := hg
  obtain ⟨A, c, rfl, _, _⟩ := hkid.form
  have hv := hok.goals.head.val
  have hat := hok.at_
  have h1 := hok.nch
  have h2 := hok.nev
  have hops := (valid_kids hv).1
  obtain ⟨op, text, num, lo, hi, kids⟩ := p
  have ht : op = 11 ∨ op = 13 ∨ op = 14 ∨ op = 15 ∨ op = 16 ∨ op = 17 ∨ op = 18 ∨ op = 19 ∨ op = 20 ∨ op = 21 ∨ isSimple op := by
    simp only [Pat.op] at hops
    unfold isSimple
    omega
  rcases ht with rfl | rfl | rfl | rfl | rfl | rfl | rfl | rfl | rfl | rfl | hsi
  · by_cases hlt : m.at_ < s.size
    · rw [show stepMatch defs s (.mk 11 text num lo hi kids) gs m = .go gs (m.choose (⟨0, .mk 11 text num lo hi kids, 0⟩ :: gs) (m.at_ + 1)) by show Out.go gs (if m.at_ < s.size then _ else _) = _; rw [if_pos hlt]]
      exact match_arb_yes h hb hkid hnv hlt (by omega) hss rfl
    · rw [show stepMatch defs s (.mk 11 text num lo hi kids) gs m = .go gs m by show Out.go gs (if m.at_ < s.size then _ else _) = _; rw [if_neg hlt]]
      exact match_arb_no h hb hnv hlt
  · have hl := kids_one hv (.inl rfl)
    match kids, hl with
    | [k0], _ => exact match_arbno h hb hkid hnv (by omega)
  · have hl := kids_two hv (.inl rfl)
    match kids, hl with
    | [k0, k1], _ => exact match_cat h hb hkid hnv
  · have hl := kids_two hv (.inr rfl)
    match kids, hl with
    | [k0, k1], _ => exact match_alt h hb hkid hnv (by omega)
  · have hl := kids_one hv (.inr (.inl rfl))
    match kids, hl with
    | [k0], _ => exact match_assign h hb hkid hnv
  · have hl := kids_one hv (.inr (.inr rfl))
    match kids, hl with
    | [k0], _ => exact match_immediate h hb hkid hnv
  · exact match_cursor h hb hnv (by omega)
  · exact match_fence h hb hnv (by omega)
  · have hn := valid_var hv (.inr (.inr (.inr rfl)))
    have hn0 : 0 ≤ num := hn.1
    have hn1 : num < (defs.length : Int) := hn.2
    have hlt : num.toNat < defs.length := by omega
    rw [show stepMatch defs s (.mk 20 text num lo hi kids) gs m = .go (⟨0, defs[num.toNat], 0⟩ :: gs) m by
      show Out.go (⟨0, defs.getD num.toNat _, 0⟩ :: gs) m = _
      simp [List.getD, hlt]]
    exact match_defer (num := num) h hb hnv (Int.toNat_of_nonneg hn0).symm hlt rfl hdefs
  · exact match_abort h hb hnv
  · rw [stepMatch_simple (p := .mk op text num lo hi kids) hsi]
    have hw := valid_words hv
    simp only [Pat.op, Pat.text, Pat.num] at hw
    cases hz : oneEnd op text num lo hi s m.at_ with
    | some z =>
      simp only [Pat.op, Pat.text, Pat.num, Pat.lo, Pat.hi, hz]
      exact match_some h hb hnv hsi hw hss hat hz
    | none =>
      simp only [Pat.op, Pat.text, Pat.num, Pat.lo, Pat.hi, hz]
      exact match_none h hb hnv hsi hw hss hat hz

set_option maxRecDepth 100000 in
set_option maxHeartbeats 1000000 in
theorem exec_match {w0 w : World} {M : Nat} {dv : Value} {s : ByteArray} {n : Nat} {m : Mst} {o : Out} {v1 v2 v3 v4 v5 v6 v7 v8 : Value} {b : Nat}
    (hb : w.heap[b]? = some (.cells #[.int .i64 0, v1, v2, v3, v4, v5, v6, v7, v8] TG (0, 0)))
    (h : Calls Try.prog 68 #[.pointer (some ⟨M, 0, none⟩), .pointer (some ⟨b, 0, none⟩)] w (Did w0 M dv s n m o)) :
    Calls Try.prog 38 #[.pointer (some ⟨M, 0, none⟩), .pointer (some ⟨b, 0, none⟩)] w (Did w0 M dv s n m o) := by
  have b0 := cell_of_row w b 0 _ _ _ hb
  simp at b0
  have H := Lib.hid h
  clear h hb
  cases o with
  | go gs' m' =>
    go_enter Try.func38, Try.ntmps38
    go_wp2_with fail
    refine H.out.mono ?_
    rintro e w' ⟨gv, cv, ev, hv, hs, rfl, h1, h2⟩
    have H1 := Lib.hid h1
    have H2 := Lib.hid h2
    clear h1 h2
    go_wp2_with fail
    go_ret3
    exact did_go H1.out H2.out
  | fail =>
    go_enter Try.func38, Try.ntmps38
    go_wp2_with fail
    refine H.out.mono ?_
    rintro e w' ⟨p, cv, ev, hv, hs, rfl, h2⟩
    have H2 := Lib.hid h2
    clear h2
    go_wp2_with fail
    go_ret3
    exact did_fail H2.out
  | stop =>
    go_enter Try.func38, Try.ntmps38
    go_wp2_with fail
    refine H.out.mono ?_
    rintro e w' ⟨cv, ev, hv, hs, rfl, h2⟩
    have H2 := Lib.hid h2
    clear h2
    go_wp2_with fail
    go_ret3
    exact did_stop H2.out

theorem execute_any {w0 w : World} {M : Nat} {dA : Option Addr} {dc : Nat} {s : ByteArray} {n : Nat} {m : Mst} {cv ev hv : Value} {hs : List Value} {defs : List Pat} {k : Nat} {g : Goal} {gs : List Goal} {gv : Value}
    (h : ImplAt w0 w M (.slice dA defs.length dc) s n m cv ev hv hs) (hg : GoalsAt w0 w (g :: gs) gv) (hok : Ok defs s k (g :: gs) m) (hk : k ≤ 5000) (hd : DefsOk defs) (hdefs : RowIn w0 dA 0 defs) (hss : s.size ≤ 120) :
    Calls Try.prog 38 #[.pointer (some ⟨M, 0, none⟩), gv] w (Did w0 M (.slice dA defs.length dc) s n m (step defs s g gs m)) := by
  have hg' := hg
  obtain ⟨b, kv, nv, rfl, hb, hkid, hnv⟩ := hg
  obtain ⟨A, c, rfl, _, _⟩ := hkid.form
  have hv := hok.goals.head.val
  have h1 := hok.ncap
  have h2 := hok.nev
  obtain ⟨kind, p, fr⟩ := g
  have hkind := hok.goals.head.kind
  simp only at hkind hv
  rcases hkind with ⟨rfl, rfl⟩ | ⟨rfl, ho⟩ | ⟨rfl, ho⟩ | ⟨rfl, ho⟩ | ⟨rfl, ho⟩
  · exact exec_match hb (match_any h hg' hok hk hd hdefs hss)
  · obtain ⟨op, text, num, lo, hi, kids⟩ := p
    exact exec_cap h hb hnv (by omega)
  · obtain ⟨op, text, num, lo, hi, kids⟩ := p
    exact exec_event h hb hnv (by omega)
  · have hl := kids_one hv (.inl ho)
    obtain ⟨op, text, num, lo, hi, kids⟩ := p
    match kids, hl with
    | [k0], _ => exact exec_extend h hb hkid hnv
  · obtain ⟨op, text, num, lo, hi, kids⟩ := p
    by_cases hf : (m.at_ : Int) = fr
    · rw [show step defs s ⟨4, .mk op text num lo hi kids, fr⟩ gs m = .fail by show (if (m.at_ : Int) = fr then Out.fail else _) = _; rw [if_pos hf]]
      exact exec_check_fail h hb hkid hnv (by simp [hf])
    · rw [show step defs s ⟨4, .mk op text num lo hi kids, fr⟩ gs m = .go (⟨0, .mk op text num lo hi kids, 0⟩ :: gs) m by show (if (m.at_ : Int) = fr then Out.fail else _) = _; rw [if_neg hf]]
      exact exec_check_go h hb hkid hnv (by simp [hf])

end Go.Proofs.Ytndefbecoahfhaa

/- What MatchPattern's answer is said with. No walk in sight. -/
namespace Go.Proofs.Ytndefbecoahfhaa
open Go.RowKit

abbrev TR : TypeId := 33
/-- A match's value. -/
abbrev matchV (r : Res) (fr : Int) (cv ev : Value) : Value := .agg #[.bool r.found, .bool r.stopped, .bool r.exhausted, .int .i64 fr, .int .i64 r.at_, .int .i64 r.steps, cv, ev]
/-- The answer: its captures and events lie in memory of the call's own. -/
def MatchIs (w0 : World) (r : Res) (fr : Int) (e : Ending) (w' : World) : Prop :=
  ∃ cv ev, e = .returned (matchV r fr cv ev) ∧ HasRow w' w0.heap.size TK 3 cv r.caps.length (capCells r.caps) ∧ HasRow w' w0.heap.size TK 3 ev r.events.length (capCells r.events) ∧ (cv.ownBlock = none ∨ cv.ownBlock ≠ ev.ownBlock) ∧ Below w0.heap.size w0 w'
def Res.none : Res := ⟨false, false, false, 0, 0, [], []⟩
/-- The machine's start. -/
abbrev Mst.start (at_ : Nat) : Mst := ⟨at_, [], [], []⟩
/-- What MatchPattern answers. -/
def answers (defs : List Pat) (p : Pat) (s : ByteArray) (fr fuel : Int) : Bool := validD defs p && decide (s.size ≤ 120) && decide (0 ≤ fr) && decide (fr ≤ s.size) && decide (0 ≤ fuel) && decide (fuel ≤ 4000)
def matchRes (defs : List Pat) (p : Pat) (s : ByteArray) (fr fuel : Int) : Res := if answers defs p s fr fuel then play defs s fuel.toNat 0 [⟨0, p, 0⟩] (.start fr.toNat) else .none
def matchFrom (r : Res) (fr : Int) : Int := if r.found then fr else 0

/-- The cells of a match that nothing was written to. -/
abbrev zeroM : Array Value := #[.bool false, .bool false, .bool false, .int .i64 0, .int .i64 0, .int .i64 0, .slice none 0 0, .slice none 0 0]

theorem validD_defs {defs : List Pat} {p : Pat} (h : validD defs p = true) (hs : Smalls defs) : DefsOk defs ∧ valid p defs.length = true := by
  simp only [validD, validP, Bool.and_eq_true, List.all_eq_true, decide_eq_true_eq] at h
  exact ⟨⟨h.1.1, fun j hj => (h.2 _ (List.getElem_mem hj)).2, hs⟩, h.1.2.2⟩

theorem ok_start {defs : List Pat} {p : Pat} {s : ByteArray} {at_ : Nat} (h : valid p defs.length = true) (hp : Small p) (ha : at_ ≤ s.size) : Ok defs s 0 [⟨0, p, 0⟩] (.start at_) :=
  ⟨GoalsOk.cons (GoalOk.plain h hp) (fun x hx => (by cases hx)), ha, ⟨fun c hc => (by cases hc), by simp, fun c hc => (by cases hc)⟩, Nat.le_refl _, Nat.le_refl _, Nat.le_refl _⟩

theorem validDefinitions_is (b : Bool) (defs : List Pat) (A : Option Addr) (c : Nat) (p : Pat) (kv : Value) (w : World) (hs : Smalls defs) (hp : Small p) (hd : RowIn w A 0 defs) (hin : KidsIn w p kv) (hdl : defs.length ≤ 1099511627776) (hb : validD defs p = b) :
    Calls Try.prog 37 #[.slice A defs.length c, p.v kv] w fun e w' => e = .returned (.bool b) ∧ Below w.heap.size w w' := by
  subst hb
  exact validDefinitions_any defs A c p kv w hs hp hd hin hdl


/-- What holds at the head of MatchPattern's loop; k rounds at most are to come. -/
def LoopRel (w2 : World) (defs : List Pat) (dA : Option Addr) (dc : Nat) (s : ByteArray) (M fuel : Nat) (RES : Res) (k : Nat) (gv : Value) (wr : World) : Prop :=
  ∃ n gs m cv ev hv hs, n + k = fuel ∧ GoalsAt w2 wr gs gv ∧ ImplAt w2 wr M (.slice dA defs.length dc) s n m cv ev hv hs ∧ Ok defs s n gs m ∧ play defs s k n gs m = RES

theorem GoalsAt.ptr_cons {w0 w : World} {g : Goal} {gs : List Goal} {v : Value} (h : GoalsAt w0 w (g :: gs) v) : ∃ b, v = .pointer (some ⟨b, 0, none⟩) := by
  obtain ⟨b, _, _, h, _⟩ := h
  exact ⟨b, h⟩
theorem HasRow.base_le {w : World} {base base' : Nat} {e : TypeId} {size : Nat} {v : Value} {n : Nat} {xs : List Value} (h : HasRow w base e size v n xs) (hb : base' ≤ base) : HasRow w base' e size v n xs := by
  refine ⟨h.1, ?_⟩
  rcases h.2 with hn | ⟨g, cap, cur, e, h1, rest⟩
  · exact .inl hn
  · exact .inr ⟨g, cap, cur, e, Nat.le_trans hb h1, rest⟩

section
variable {w0 w : World} {M : Nat} {dv : Value} {s : ByteArray} {n : Nat} {m : Mst} {cv ev hv : Value} {hs : List Value}
theorem ImplAt.tick (h : ImplAt w0 w M dv s n m cv ev hv hs) (z : Int) (hz : z = ((n + 1 : Nat) : Int)) : ImplAt w0 (w.setCell ⟨M, 8, none⟩ (.int .i64 z)) M dv s (n + 1) m cv ev hv hs := by
  subst hz
  exact ImplAt.set h.blk rfl h.base h.caps h.evs h.chs h.are h.apart h.below
theorem ImplAt.setAt (h : ImplAt w0 w M dv s n m cv ev hv hs) (z : Nat) : ImplAt w0 (w.setCell ⟨M, 2, none⟩ (.int .i64 z)) M dv s n { m with at_ := z } cv ev hv hs :=
  ImplAt.set (m := { m with at_ := z }) h.blk rfl h.base h.caps h.evs h.chs h.are h.apart h.below
theorem ImplAt.keepSet (h : ImplAt w0 w M dv s n m cv ev hv hs) (k : Nat) (u : Value) : KeepT TG w (w.setCell ⟨M, k, none⟩ u) := KeepT.set (a := ⟨M, k, none⟩) h.blk (by decide) u

/-- The last choice is taken away. -/
theorem ImplAt.pop {cs : List Choice} {c : Choice} {g hc : Nat} (h : ImplAt w0 w M dv s n m cv ev (.slice (some ⟨g, 0, none⟩) (cs.length + 1) hc) hs) (hcs : m.choices = cs ++ [c]) :
    ∃ a b, hs = a ++ b ∧ ChoiceIs w0 w c b ∧ a.length = cs.length * 4 ∧ ImplAt w0 (w.setCell ⟨M, 11, none⟩ (.slice (some ⟨g, 0, none⟩) cs.length hc)) M dv s n { m with choices := cs } cv ev (.slice (some ⟨g, 0, none⟩) cs.length hc) a := by
  have h6 := h.are
  have h5 := h.chs
  rw [hcs] at h6 h5
  obtain ⟨a, b, rfl, h1, h2⟩ := ChoicesAre.pop cs hs h6
  have hla := ChoicesAre.len cs a h1
  refine ⟨a, b, rfl, h2, hla, ImplAt.set (m := { m with choices := cs }) h.blk rfl h.base h.caps h.evs ?_ h1 h.apart h.below⟩
  have hl : (cs ++ [c]).length = cs.length + 1 := by simp
  rw [hl] at h5
  have := h5.cut (k := cs.length) (c := hc) (by omega) (by have := h5.form; obtain ⟨A, cap, e, h7, _⟩ := this; cases e; omega) (Nat.le_refl _)
  simpa [← hla] using this
/-- The captures are cut. -/
theorem ImplAt.cut {g cc k : Nat} (h : ImplAt w0 w M dv s n m (.slice (some ⟨g, 0, none⟩) m.caps.length cc) ev hv hs) (hk : k ≤ m.caps.length) :
    ImplAt w0 (w.setCell ⟨M, 9, none⟩ (.slice (some ⟨g, 0, none⟩) k k)) M dv s n { m with caps := m.caps.take k } (.slice (some ⟨g, 0, none⟩) k k) ev hv hs := by
  have hc : m.caps.length ≤ cc := by obtain ⟨A, cap, e, h7, _⟩ := h.caps.form; cases e; omega
  refine ImplAt.set (m := { m with caps := m.caps.take k }) h.blk rfl h.base ?_ h.evs h.chs h.are h.apart h.below
  have := h.caps.cut hk (Nat.le_refl k) (by omega)
  rw [capCells_take] at this
  simpa [Nat.min_eq_left hk] using this
theorem ImplAt.cut_nil {k : Nat} (h : ImplAt w0 w M dv s n m (.slice none 0 0) ev hv hs) (hl : m.caps.length = 0) (hk : k = 0) :
    ImplAt w0 (w.setCell ⟨M, 9, none⟩ (.slice none 0 0)) M dv s n { m with caps := m.caps.take k } (.slice none 0 0) ev hv hs := by
  subst hk
  exact ImplAt.set (m := { m with caps := m.caps.take 0 }) h.blk rfl h.base (by simpa [capCells] using HasRow.nil w w0.heap.size TK 3) h.evs h.chs h.are h.apart h.below
end

theorem implAt_start {w w2 : World} {dv : Value} {s : ByteArray} {fr : Nat} (hl : Later w w2) (o : Obj) :
    ImplAt w ((w2.alloc (.cells (mCells dv s fr 0 (.slice none 0 0) (.slice none 0 0) (.slice none 0 0)) TM)).alloc o) w2.heap.size dv s 0 (.start fr) (.slice none 0 0) (.slice none 0 0) (.slice none 0 0) [] :=
  ⟨((Later.refl _).alloc o).has (heap_alloc_new w2 _), hl.size, HasRow.nil _ _ _ _, HasRow.nil _ _ _ _, HasRow.nil _ _ _ _, rfl, .inl rfl, (hl.alloc _).alloc _⟩

theorem cells_r {x : World} {b : Nat} {v0 v1 v2 v3 v4 v5 v6 v7 : Value} (h : x.heap[b]? = some (.cells #[v0, v1, v2, v3, v4, v5, v6, v7] TR (0, 0))) :
    x.cell? ⟨b, 0, none⟩ = some v0 ∧ x.cell? ⟨b, 1, none⟩ = some v1 ∧ x.cell? ⟨b, 2, none⟩ = some v2 ∧ x.cell? ⟨b, 3, none⟩ = some v3 ∧ x.cell? ⟨b, 4, none⟩ = some v4 ∧ x.cell? ⟨b, 5, none⟩ = some v5 ∧ x.cell? ⟨b, 6, none⟩ = some v6 ∧ x.cell? ⟨b, 7, none⟩ = some v7 :=
  ⟨cell_of_row x b 0 _ _ _ h, cell_of_row x b 1 _ _ _ h, cell_of_row x b 2 _ _ _ h, cell_of_row x b 3 _ _ _ h, cell_of_row x b 4 _ _ _ h, cell_of_row x b 5 _ _ _ h, cell_of_row x b 6 _ _ _ h, cell_of_row x b 7 _ _ _ h⟩
theorem frozen_r {x : World} {b : Nat} {cs : Array Value} {t : TypeId} (h : x.heap[b]? = some (.cells cs t (0, 0))) :
    x.frozen? ⟨b, 0, none⟩ = false ∧ x.frozen? ⟨b, 1, none⟩ = false ∧ x.frozen? ⟨b, 2, none⟩ = false ∧ x.frozen? ⟨b, 3, none⟩ = false ∧ x.frozen? ⟨b, 4, none⟩ = false ∧ x.frozen? ⟨b, 5, none⟩ = false ∧ x.frozen? ⟨b, 6, none⟩ = false ∧ x.frozen? ⟨b, 7, none⟩ = false :=
  ⟨frozen_of_row x b 0 _ _ h, frozen_of_row x b 1 _ _ h, frozen_of_row x b 2 _ _ h, frozen_of_row x b 3 _ _ h, frozen_of_row x b 4 _ _ h, frozen_of_row x b 5 _ _ h, frozen_of_row x b 6 _ _ h, frozen_of_row x b 7 _ _ h⟩

/-- Only the block b was written to. -/
def OnlyAt (b : Nat) (w x : World) : Prop := Below b w x ∧ ∀ k, k ≠ b → x.heap[k]? = w.heap[k]?
theorem OnlyAt.refl (b : Nat) (w : World) : OnlyAt b w w := ⟨Below.refl _ _, fun _ _ => rfl⟩
theorem OnlyAt.set {b : Nat} {w x : World} (h : OnlyAt b w x) (o : Nat) (u : Value) : OnlyAt b w (x.setCell ⟨b, o, none⟩ u) :=
  ⟨h.1.setCell (Nat.le_refl _) u, fun k hk => by rw [Below.heap_setCell _ _ _ _ hk]; exact h.2 k hk⟩
theorem OnlyAt.row {b : Nat} {w x : World} (h : OnlyAt b w x) {base : Nat} {e : TypeId} {size : Nat} {v : Value} {n : Nat} {xs : List Value} {cs : Array Value} {t : TypeId} (hr : HasRow w base e size v n xs) (hb : w.heap[b]? = some (.cells cs t (0, 0))) (hne : e ≠ t) : HasRow x base e size v n xs :=
  hr.same fun k hk => h.2 k (by obtain ⟨_, _, c, hc⟩ := hr.lt k hk; exact ne_of_type hc hb hne)

theorem matchIs_mk {w w2 w' x : World} {RB : Nat} {r : Res} {fr : Int} {cv ev : Value} (hl : Later w w2) (hc : HasRow w' w2.heap.size TK 3 cv r.caps.length (capCells r.caps)) (he : HasRow w' w2.heap.size TK 3 ev r.events.length (capCells r.events)) (ha : cv.ownBlock = none ∨ cv.ownBlock ≠ ev.ownBlock) (hb : Below w2.heap.size w2 w') (hRB : w'.heap[RB]? = some (.cells zeroM TR (0, 0))) (hlt : w.heap.size ≤ RB) (ho : OnlyAt RB w' x) :
    MatchIs w r fr (.returned (matchV r fr cv ev)) x :=
  ⟨cv, ev, rfl, (ho.row hc hRB (by decide)).base_le hl.size, (ho.row he hRB (by decide)).base_le hl.size, ha, Below.trans (show Below w.heap.size w w' from Later.trans hl hb) (ho.1.mono hlt)⟩

theorem top_cells {j : Nat} {w0 w x : World} {M : Nat} {dv : Value} {s : ByteArray} {n : Nat} {m : Mst} {cv ev : Value} {a : List Value} {k g hc : Nat} {v0 v1 v2 v3 : Value}
    (h : ImplAt w0 w M dv s n m cv ev (.slice (some ⟨g, 0, none⟩) k hc) (a ++ [v0, v1, v2, v3])) (ha : a.length = j * 4) (hl : Later w x) :
    x.cell? ⟨g, j * 4, none⟩ = some v0 ∧ x.cell? ⟨g, j * 4 + 1, none⟩ = some v1 ∧ x.cell? ⟨g, j * 4 + 2, none⟩ = some v2 ∧ x.cell? ⟨g, j * 4 + 3, none⟩ = some v3 := by
  have hc := h.chs.cells (g := g) rfl
  have hg := (h.chs.lt g rfl).2.1
  have at_ : ∀ i u, (a ++ [v0, v1, v2, v3])[j * 4 + i]? = some u → x.cell? ⟨g, j * 4 + i, none⟩ = some u := fun i u hu => (hl.cell _ hg).trans (hc _ u hu)
  refine ⟨at_ 0 v0 ?_, at_ 1 v1 ?_, at_ 2 v2 ?_, at_ 3 v3 ?_⟩ <;> rw [← ha, List.getElem?_append_right (by omega)] <;> simp
theorem cells_c {x : World} {b : Nat} {v0 v1 v2 v3 : Value} (h : x.heap[b]? = some (.cells #[v0, v1, v2, v3] TC (0, 0))) :
    x.cell? ⟨b, 0, none⟩ = some v0 ∧ x.cell? ⟨b, 1, none⟩ = some v1 ∧ x.cell? ⟨b, 2, none⟩ = some v2 ∧ x.cell? ⟨b, 3, none⟩ = some v3 :=
  ⟨cell_of_row x b 0 _ _ _ h, cell_of_row x b 1 _ _ _ h, cell_of_row x b 2 _ _ _ h, cell_of_row x b 3 _ _ _ h⟩
theorem heap_set_other {w : World} {b M k : Nat} {o : Obj} {u : Value} (h : w.heap[b]? = some o) (hne : b ≠ M) : (w.setCell ⟨M, k, none⟩ u).heap[b]? = some o := by
  rw [Below.heap_setCell _ _ _ _ hne]; exact h

end Go.Proofs.Ytndefbecoahfhaa

/- The endings of a pattern as a plain function; the matcher finds the first of them. No walk in sight. -/
namespace Go.Proofs.Ytndefbecoahfhaa
open Go.RowKit

structure End where
  at_ : Nat
  caps : List Cap
/-- The endings, whether the match must stop behind them, and what is left of the budget; none: it was exceeded. -/
abbrev EvR := Option (List End × Bool × Nat)
def End.join (e x : End) : End := ⟨x.at_, e.caps ++ x.caps⟩
/-- What a pattern (f) has from each of some endings on; least is the offset that they must exceed. -/
def afterE (f : Nat → Nat → EvR) (least : Int) : List End → List End → Bool → Nat → EvR
  | [], acc, stop, b => some (acc, stop, b)
  | e :: es, acc, stop, b =>
    if (e.at_ : Int) ≤ least then afterE f least es acc stop b else
    match f b e.at_ with
    | none => none
    | some (l, inner, b1) => if l.length ≤ b1 then (if inner then some (acc ++ l.map e.join, true, b1 - l.length) else afterE f least es (acc ++ l.map e.join) stop (b1 - l.length)) else none
def arbE (s : ByteArray) (at_ : Nat) : List End := (List.range (s.size + 1 - at_)).map fun i => ⟨at_ + i, []⟩
/-- n: how deep; b: what is left of the budget. -/
def ev (defs : List Pat) (s : ByteArray) : Nat → Nat → Pat → Nat → EvR
  | 0, _, _, _ => none
  | _ + 1, 0, _, _ => none
  | n + 1, b + 1, p, at_ =>
    if p.op = 11 then (if (arbE s at_).length ≤ b then some (arbE s at_, false, b - (arbE s at_).length) else none)
    else if p.op = 13 then (match ev defs s n b (p.kid 0) at_ with
      | none => none
      | some (l, st, b1) => afterE (fun b a => ev defs s n b p a) at_ l [⟨at_, []⟩] st b1)
    else if p.op = 14 then (match ev defs s n b (p.kid 0) at_ with
      | none => none
      | some (l, st, b1) => afterE (fun b a => ev defs s n b (p.kid 1) a) (-1) l [] st b1)
    else if p.op = 15 then (match ev defs s n b (p.kid 0) at_ with
      | none => none
      | some (l, st, b1) => if st then some (l, true, b1) else match ev defs s n b1 (p.kid 1) at_ with
        | none => none
        | some (l2, st2, b2) => some (l ++ l2, st2, b2))
    else if p.op = 16 then (match ev defs s n b (p.kid 0) at_ with
      | none => none
      | some (l, st, b1) => some (l.map fun e => ⟨e.at_, e.caps ++ [⟨p.num, at_, e.at_⟩]⟩, st, b1))
    else if p.op = 17 then ev defs s n b (p.kid 0) at_
    else if p.op = 18 then some ([⟨at_, []⟩], false, b)
    else if p.op = 19 then some ([⟨at_, []⟩], true, b)
    else if p.op = 20 then ev defs s n b (defs.getD p.num.toNat (.mk 0 ByteArray.empty 0 0 0 [])) at_
    else if p.op = 21 then some ([], true, b)
    else match oneEnd p.op p.text p.num p.lo p.hi s at_ with
      | some e => some ([⟨e, []⟩], false, b)
      | none => some ([], false, b)

/-! ### What a match comes to -/
inductive Oc where
  | found (at_ : Nat) (caps : List Cap)
  | stopped
  | fail
  | never
def Oc.or : Oc → Oc → Oc
  | .fail, x => x
  | r, _ => r
theorem Oc.or_assoc (a b c : Oc) : (a.or b).or c = a.or (b.or c) := by cases a <;> rfl
theorem Oc.or_fail (a : Oc) : a.or .fail = a := by cases a <;> rfl
/-- What a result says. -/
def Res.oc (r : Res) : Oc := if r.found then .found r.at_ r.caps else if r.stopped then .stopped else .fail
theorem play_oc {defs : List Pat} {s : ByteArray} : ∀ (k n n' : Nat) (gs : List Goal) (m : Mst), (play defs s k n gs m).oc = (play defs s k n' gs m).oc ∧ (play defs s k n gs m).exhausted = (play defs s k n' gs m).exhausted
  | k, n, n', [], m => by rw [play_nil, play_nil]; exact ⟨rfl, rfl⟩
  | 0, n, n', g :: gs, m => by rw [play_zero, play_zero]; exact ⟨rfl, rfl⟩
  | k + 1, n, n', g :: gs, m => by
    cases e : step defs s g gs m with
    | go gs' m' => rw [play_go e, play_go e]; exact play_oc k _ _ gs' m'
    | stop => rw [play_stop e, play_stop e]; exact ⟨rfl, rfl⟩
    | fail =>
      rcases List.eq_nil_or_concat m.choices with h0 | ⟨cs, c, h0⟩
      · rw [play_none e h0, play_none e h0]; exact ⟨rfl, rfl⟩
      · rw [List.concat_eq_append] at h0
        rw [play_last e h0, play_last e h0]
        split
        · exact ⟨rfl, rfl⟩
        · exact play_oc k _ _ c.goals _
open Classical in
/-- What a match comes to, if its fuel is enough. -/
noncomputable def out (defs : List Pat) (s : ByteArray) (gs : List Goal) (m : Mst) : Oc := if h : ∃ k, (play defs s k 0 gs m).exhausted = false then (play defs s h.choose 0 gs m).oc else .never
section
variable {defs : List Pat} {s : ByteArray}
theorem out_of {k n : Nat} {gs : List Goal} {m : Mst} (h : (play defs s k n gs m).exhausted = false) : out defs s gs m = (play defs s k n gs m).oc := by
  have h0 : (play defs s k 0 gs m).exhausted = false := by rw [(play_oc k 0 n gs m).2]; exact h
  have hex : ∃ k, (play defs s k 0 gs m).exhausted = false := ⟨k, h0⟩
  unfold out
  rw [dif_pos hex]
  have hc := hex.choose_spec
  rw [(play_oc k n 0 gs m).1]
  have e1 := play_more defs s hex.choose 0 gs m k hc
  have e2 := play_more defs s k 0 gs m hex.choose h0
  rw [← e1, ← e2, Nat.add_comm]
theorem out_never {gs : List Goal} {m : Mst} (h : ∀ k, (play defs s k 0 gs m).exhausted = true) : out defs s gs m = .never := by
  unfold out
  rw [dif_neg]
  rintro ⟨k, hk⟩
  rw [h k] at hk
  cases hk
theorem out_eq {gs gs' : List Goal} {m m' : Mst} (h : ∀ k, ∃ n n', play defs s (k + 1) n gs m = play defs s k n' gs' m') : out defs s gs m = out defs s gs' m' := by
  by_cases hex : ∃ k, (play defs s k 0 gs' m').exhausted = false
  · obtain ⟨k, hk⟩ := hex
    obtain ⟨n, n', e⟩ := h k
    have hk' : (play defs s k n' gs' m').exhausted = false := by rw [(play_oc k n' 0 gs' m').2]; exact hk
    rw [out_of hk', out_of (n := n) (k := k + 1) (by rw [e]; exact hk'), e]
  · have h1 : ∀ k, (play defs s k 0 gs' m').exhausted = true := fun k => by
      cases e : (play defs s k 0 gs' m').exhausted with
      | true => rfl
      | false => exact absurd ⟨k, e⟩ hex
    rw [out_never h1, out_never]
    intro k
    cases k with
    | zero =>
      cases gs with
      | nil =>
        obtain ⟨n, n', e⟩ := h 0
        rw [play_nil] at e
        have := (play_oc (defs := defs) (s := s) 0 n' 0 gs' m').2
        rw [← e, h1 0] at this
        cases this
      | cons g gs => rw [play_zero]
    | succ k =>
      obtain ⟨n, n', e⟩ := h k
      rw [(play_oc (k + 1) 0 n gs m).2, e, (play_oc k n' 0 gs' m').2]
      exact h1 k
theorem out_nil (m : Mst) : out defs s [] m = .found m.at_ m.caps := by rw [out_of (k := 0) (n := 0) (by rw [play_nil]), play_nil]; rfl
theorem out_go {g : Goal} {gs gs' : List Goal} {m m' : Mst} (h : step defs s g gs m = .go gs' m') : out defs s (g :: gs) m = out defs s gs' m' := out_eq fun k => ⟨0, 1, play_go h k 0⟩
theorem out_stop {g : Goal} {gs : List Goal} {m : Mst} (h : step defs s g gs m = .stop) : out defs s (g :: gs) m = .stopped := by rw [out_of (k := 1) (n := 0) (by rw [play_stop h]), play_stop h]; rfl
/-- What a failure comes to. -/
noncomputable def back (defs : List Pat) (s : ByteArray) (caps events : List Cap) (cs : List Choice) : Oc :=
  match cs.getLast? with
  | none => .fail
  | some c => if c.stop then .stopped else out defs s c.goals ⟨c.at_, caps.take c.ncap, events, cs.dropLast⟩
theorem back_nil (caps events : List Cap) : back defs s caps events [] = .fail := rfl
theorem back_last (caps events : List Cap) (cs : List Choice) (c : Choice) : back defs s caps events (cs ++ [c]) = if c.stop then .stopped else out defs s c.goals ⟨c.at_, caps.take c.ncap, events, cs⟩ := by simp [back]
theorem out_fail {g : Goal} {gs : List Goal} {m : Mst} (h : step defs s g gs m = .fail) : out defs s (g :: gs) m = back defs s m.caps m.events m.choices := by
  rcases List.eq_nil_or_concat m.choices with h0 | ⟨cs, c, h0⟩
  · rw [h0, back_nil, out_of (k := 1) (n := 0) (by rw [play_none h h0]), play_none h h0]; rfl
  · rw [List.concat_eq_append] at h0
    rw [h0, back_last]
    split
    · rename_i hs
      have e := play_last h h0 0 0
      rw [if_pos hs] at e
      rw [out_of (k := 1) (n := 0) (by rw [e]), e]; rfl
    · rename_i hs
      exact out_eq fun k => ⟨0, 1, by rw [play_last h h0 k 0, if_neg hs]⟩
end
end Go.Proofs.Ytndefbecoahfhaa

/- The matcher finds the first ending. No walk in sight. -/
namespace Go.Proofs.Ytndefbecoahfhaa
open Go.RowKit

section
variable {defs : List Pat} {s : ByteArray}
/-- How a step stands to older choices. -/
def Out.under (cs : List Choice) : Out → Out
  | .go gs m => .go gs { m with choices := cs ++ m.choices }
  | .fail => .fail
  | .stop => .stop
theorem stepMatch_under (p : Pat) (gs : List Goal) (m : Mst) (cs : List Choice) : stepMatch defs s p gs { m with choices := cs ++ m.choices } = (stepMatch defs s p gs m).under cs := by
  unfold stepMatch
  by_cases h11 : p.op = 11
  · rw [if_pos h11, if_pos h11]
    simp only [Out.under, Mst.choose]
    split <;> simp [List.append_assoc]
  rw [if_neg h11, if_neg h11]
  by_cases h13 : p.op = 13
  · rw [if_pos h13, if_pos h13]
    simp [Out.under, Mst.choose, List.append_assoc]
  rw [if_neg h13, if_neg h13]
  by_cases h14 : p.op = 14
  · rw [if_pos h14, if_pos h14]
    rfl
  rw [if_neg h14, if_neg h14]
  by_cases h15 : p.op = 15
  · rw [if_pos h15, if_pos h15]
    simp [Out.under, Mst.choose, List.append_assoc]
  rw [if_neg h15, if_neg h15]
  by_cases h16 : p.op = 16
  · rw [if_pos h16, if_pos h16]
    rfl
  rw [if_neg h16, if_neg h16]
  by_cases h17 : p.op = 17
  · rw [if_pos h17, if_pos h17]
    rfl
  rw [if_neg h17, if_neg h17]
  by_cases h18 : p.op = 18
  · rw [if_pos h18, if_pos h18]
    rfl
  rw [if_neg h18, if_neg h18]
  by_cases h19 : p.op = 19
  · rw [if_pos h19, if_pos h19]
    simp [Out.under, Mst.choose, List.append_assoc]
  rw [if_neg h19, if_neg h19]
  by_cases h20 : p.op = 20
  · rw [if_pos h20, if_pos h20]
    rfl
  rw [if_neg h20, if_neg h20]
  by_cases h21 : p.op = 21
  · rw [if_pos h21, if_pos h21]
    rfl
  rw [if_neg h21, if_neg h21]
  dsimp only
  cases oneEnd p.op p.text p.num p.lo p.hi s m.at_ <;> rfl
theorem step_under (g : Goal) (gs : List Goal) (m : Mst) (cs : List Choice) : step defs s g gs { m with choices := cs ++ m.choices } = (step defs s g gs m).under cs := by
  unfold step
  by_cases k1 : g.kind = 1
  · rw [if_pos k1, if_pos k1]; rfl
  rw [if_neg k1, if_neg k1]
  by_cases k2 : g.kind = 2
  · rw [if_pos k2, if_pos k2]; rfl
  rw [if_neg k2, if_neg k2]
  by_cases k3 : g.kind = 3
  · rw [if_pos k3, if_pos k3]; rfl
  rw [if_neg k3, if_neg k3]
  by_cases k4 : g.kind = 4
  · rw [if_pos k4, if_pos k4]; split <;> rfl
  rw [if_neg k4, if_neg k4]
  exact stepMatch_under g.p gs m cs
/-- The captures begin with B, and no choice cuts into them. -/
def Based (B : List Cap) (m : Mst) : Prop := B <+: m.caps ∧ ∀ c ∈ m.choices, B.length ≤ c.ncap
theorem Based.choose {B : List Cap} {m : Mst} (h : Based B m) (gs : List Goal) (a : Nat) : Based B (m.choose gs a) := by
  refine ⟨h.1, fun c hc => ?_⟩
  rcases List.mem_append.1 hc with hc | hc
  · exact h.2 c hc
  · rw [List.mem_singleton.1 hc]; exact h.1.length_le
theorem step_based {B : List Cap} {g : Goal} {gs gs' : List Goal} {m m' : Mst} (h : step defs s g gs m = .go gs' m') (hb : Based B m) : Based B m' := by
  unfold step at h
  split at h
  · cases h; exact ⟨hb.1.trans (List.prefix_append _ _), hb.2⟩
  split at h
  · cases h; exact hb
  split at h
  · cases h; exact hb
  split at h
  · split at h
    · cases h
    · cases h; exact hb
  unfold stepMatch at h
  split at h
  · cases h
    split
    · exact hb.choose _ _
    · exact hb
  split at h
  · cases h; exact hb.choose _ _
  split at h
  · cases h; exact hb
  split at h
  · cases h; exact hb.choose _ _
  split at h
  · cases h; exact hb
  split at h
  · cases h; exact hb
  split at h
  · cases h; exact hb
  split at h
  · cases h
    refine ⟨hb.1, fun c hc => ?_⟩
    rcases List.mem_append.1 hc with hc | hc
    · exact hb.2 c hc
    · rw [List.mem_singleton.1 hc]; exact hb.1.length_le
  split at h
  · cases h; exact hb
  split at h
  · cases h
  split at h
  · cases h; exact hb
  · cases h
theorem Based.pop {B : List Cap} {m : Mst} {ds : List Choice} {d : Choice} (h : Based B m) (hd : m.choices = ds ++ [d]) (a : Nat) (ev : List Cap) : Based B ⟨a, m.caps.take d.ncap, ev, ds⟩ := by
  have h1 := h.2 d (by rw [hd]; simp)
  refine ⟨?_, fun c hc => h.2 c (by rw [hd]; exact List.mem_append_left _ hc)⟩
  rw [List.prefix_take_iff]
  exact ⟨h.1, h1⟩
/-- A match that fails among its own choices goes on with the older ones. -/
theorem play_fall {B : List Cap} : ∀ (k n : Nat) (gs : List Goal) (m : Mst), Based B m → (play defs s k n gs m).exhausted = false → (play defs s k n gs m).oc = .fail →
    ∃ k' n' ev caps', B <+: caps' ∧ ∀ (x : Nat) (cs : List Choice) (c : Choice), play defs s (k + x) n gs { m with choices := (cs ++ [c]) ++ m.choices } =
      if c.stop then ⟨false, true, false, 0, n', [], ev⟩ else play defs s (k' + x) n' c.goals ⟨c.at_, caps'.take c.ncap, ev, cs⟩
  | k, n, [], m, _, _, ho => by rw [play_nil] at ho; cases ho
  | 0, n, g :: gs, m, _, he, _ => by rw [play_zero] at he; cases he
  | k + 1, n, g :: gs, m, hb, he, ho => by
    cases e : step defs s g gs m with
    | go gs' m' =>
      rw [play_go e] at he ho
      obtain ⟨k', n', ev, caps', h1, h2⟩ := play_fall k (n + 1) gs' m' (step_based e hb) he ho
      refine ⟨k', n', ev, caps', h1, fun x cs c => ?_⟩
      have e2 := step_under (defs := defs) (s := s) g gs m (cs ++ [c])
      rw [e] at e2
      rw [show k + 1 + x = (k + x) + 1 by omega, play_go e2, h2 x cs c]
    | stop => rw [play_stop e] at ho; cases ho
    | fail =>
      rcases List.eq_nil_or_concat m.choices with h0 | ⟨ds, d, h0⟩
      · refine ⟨k, n + 1, m.events, m.caps, hb.1, fun x cs c => ?_⟩
        have e2 := step_under (defs := defs) (s := s) g gs m (cs ++ [c])
        rw [e] at e2
        rw [show k + 1 + x = (k + x) + 1 by omega, play_last e2 (cs := cs) (c := c) (by simp [h0])]
      · rw [List.concat_eq_append] at h0
        rw [play_last e h0] at he ho
        split at ho
        · cases ho
        · rename_i hs
          rw [if_neg hs] at he
          obtain ⟨k', n', ev, caps', h1, h2⟩ := play_fall k (n + 1) d.goals _ (hb.pop h0 d.at_ m.events) he ho
          refine ⟨k', n', ev, caps', h1, fun x cs c => ?_⟩
          have e2 := step_under (defs := defs) (s := s) g gs m (cs ++ [c])
          rw [e] at e2
          rw [show k + 1 + x = (k + x) + 1 by omega, play_last e2 (cs := (cs ++ [c]) ++ ds) (c := d) (by simp [h0]), if_neg hs]
          exact h2 x cs c
/-- One that does not fail is as it was. -/
theorem play_under : ∀ (k n : Nat) (gs : List Goal) (m : Mst) (cs : List Choice), ((play defs s k n gs m).exhausted = true → (play defs s k n gs { m with choices := cs ++ m.choices }).exhausted = true) ∧
    ((play defs s k n gs m).exhausted = false → (play defs s k n gs m).oc ≠ .fail → play defs s k n gs { m with choices := cs ++ m.choices } = play defs s k n gs m)
  | k, n, [], m, cs => by rw [play_nil, play_nil]; exact ⟨fun h => h, fun _ _ => rfl⟩
  | 0, n, g :: gs, m, cs => by rw [play_zero, play_zero]; exact ⟨fun h => h, fun _ _ => rfl⟩
  | k + 1, n, g :: gs, m, cs => by
    have e2 := step_under (defs := defs) (s := s) g gs m cs
    cases e : step defs s g gs m with
    | go gs' m' => rw [e] at e2; rw [play_go e, play_go e2]; exact play_under k (n + 1) gs' m' cs
    | stop => rw [e] at e2; rw [play_stop e, play_stop e2]; exact ⟨fun h => h, fun _ _ => rfl⟩
    | fail =>
      rw [e] at e2
      rcases List.eq_nil_or_concat m.choices with h0 | ⟨ds, d, h0⟩
      · rw [play_none e h0]
        exact ⟨fun h => (by cases h), fun _ h => absurd rfl h⟩
      · rw [List.concat_eq_append] at h0
        rw [play_last e h0, play_last e2 (cs := cs ++ ds) (c := d) (by simp [h0])]
        split
        · exact ⟨fun h => h, fun _ _ => rfl⟩
        · exact play_under k (n + 1) d.goals _ cs
def SameEv (a b : Out) : Prop := (∃ gs' m' ev', a = .go gs' m' ∧ b = .go gs' { m' with events := ev' }) ∨ (a = .stop ∧ b = .stop) ∨ (a = .fail ∧ b = .fail)
theorem stepMatch_events (p : Pat) (gs : List Goal) (m : Mst) (ev : List Cap) : SameEv (stepMatch defs s p gs m) (stepMatch defs s p gs { m with events := ev }) := by
  unfold stepMatch
  by_cases h11 : p.op = 11
  · rw [if_pos h11, if_pos h11]
    split <;> exact .inl ⟨_, _, _, rfl, rfl⟩
  rw [if_neg h11, if_neg h11]
  by_cases h13 : p.op = 13
  · rw [if_pos h13, if_pos h13]
    exact .inl ⟨_, _, _, rfl, rfl⟩
  rw [if_neg h13, if_neg h13]
  by_cases h14 : p.op = 14
  · rw [if_pos h14, if_pos h14]
    exact .inl ⟨_, _, _, rfl, rfl⟩
  rw [if_neg h14, if_neg h14]
  by_cases h15 : p.op = 15
  · rw [if_pos h15, if_pos h15]
    exact .inl ⟨_, _, _, rfl, rfl⟩
  rw [if_neg h15, if_neg h15]
  by_cases h16 : p.op = 16
  · rw [if_pos h16, if_pos h16]
    exact .inl ⟨_, _, _, rfl, rfl⟩
  rw [if_neg h16, if_neg h16]
  by_cases h17 : p.op = 17
  · rw [if_pos h17, if_pos h17]
    exact .inl ⟨_, _, _, rfl, rfl⟩
  rw [if_neg h17, if_neg h17]
  by_cases h18 : p.op = 18
  · rw [if_pos h18, if_pos h18]
    exact .inl ⟨_, _, _, rfl, rfl⟩
  rw [if_neg h18, if_neg h18]
  by_cases h19 : p.op = 19
  · rw [if_pos h19, if_pos h19]
    exact .inl ⟨_, _, _, rfl, rfl⟩
  rw [if_neg h19, if_neg h19]
  by_cases h20 : p.op = 20
  · rw [if_pos h20, if_pos h20]
    exact .inl ⟨_, _, _, rfl, rfl⟩
  rw [if_neg h20, if_neg h20]
  by_cases h21 : p.op = 21
  · rw [if_pos h21, if_pos h21]
    exact .inr (.inl ⟨rfl, rfl⟩)
  rw [if_neg h21, if_neg h21]
  dsimp only
  cases oneEnd p.op p.text p.num p.lo p.hi s m.at_ with
  | some e => exact .inl ⟨_, _, _, rfl, rfl⟩
  | none => exact .inr (.inr ⟨rfl, rfl⟩)
theorem step_events (g : Goal) (gs : List Goal) (m : Mst) (ev : List Cap) : SameEv (step defs s g gs m) (step defs s g gs { m with events := ev }) := by
  unfold step
  by_cases k1 : g.kind = 1
  · rw [if_pos k1, if_pos k1]; exact .inl ⟨_, _, _, rfl, rfl⟩
  rw [if_neg k1, if_neg k1]
  by_cases k2 : g.kind = 2
  · rw [if_pos k2, if_pos k2]; exact .inl ⟨_, _, _, rfl, rfl⟩
  rw [if_neg k2, if_neg k2]
  by_cases k3 : g.kind = 3
  · rw [if_pos k3, if_pos k3]; exact .inl ⟨_, _, _, rfl, rfl⟩
  rw [if_neg k3, if_neg k3]
  by_cases k4 : g.kind = 4
  · rw [if_pos k4, if_pos k4]
    split
    · exact .inr (.inr ⟨rfl, rfl⟩)
    · exact .inl ⟨_, _, _, rfl, rfl⟩
  rw [if_neg k4, if_neg k4]
  exact stepMatch_events g.p gs m ev
/-- The events change nothing. -/
theorem play_events : ∀ (k n : Nat) (gs : List Goal) (m : Mst) (ev : List Cap), (play defs s k n gs { m with events := ev }).oc = (play defs s k n gs m).oc ∧ (play defs s k n gs { m with events := ev }).exhausted = (play defs s k n gs m).exhausted
  | k, n, [], m, ev => by rw [play_nil, play_nil]; exact ⟨rfl, rfl⟩
  | 0, n, g :: gs, m, ev => by rw [play_zero, play_zero]; exact ⟨rfl, rfl⟩
  | k + 1, n, g :: gs, m, ev => by
    have hev := step_events (defs := defs) (s := s) g gs m ev
    rcases hev with ⟨gs', m', ev', e, e2⟩ | ⟨e, e2⟩ | ⟨e, e2⟩
    · rw [play_go e, play_go e2]; exact play_events k (n + 1) gs' m' ev'
    · rw [play_stop e, play_stop e2]; exact ⟨rfl, rfl⟩
    · rcases List.eq_nil_or_concat m.choices with h0 | ⟨ds, d, h0⟩
      · rw [play_none e h0, play_none e2 h0]; exact ⟨rfl, rfl⟩
      · rw [List.concat_eq_append] at h0
        rw [play_last e h0, play_last e2 h0]
        split
        · exact ⟨rfl, rfl⟩
        · exact play_events k (n + 1) d.goals ⟨d.at_, m.caps.take d.ncap, m.events, ds⟩ ev
theorem out_events (gs : List Goal) (m : Mst) (ev : List Cap) : out defs s gs { m with events := ev } = out defs s gs m := by
  by_cases hex : ∃ k, (play defs s k 0 gs m).exhausted = false
  · obtain ⟨k, hk⟩ := hex
    have h2 := play_events (defs := defs) (s := s) k 0 gs m ev
    rw [out_of hk, out_of (k := k) (n := 0) (by rw [h2.2]; exact hk), h2.1]
  · have h1 : ∀ k, (play defs s k 0 gs m).exhausted = true := fun k => by
      cases e : (play defs s k 0 gs m).exhausted with
      | true => rfl
      | false => exact absurd ⟨k, e⟩ hex
    rw [out_never h1, out_never (fun k => by rw [(play_events (defs := defs) (s := s) k 0 gs m ev).2]; exact h1 k)]
/-- What goals come to, with no choices. -/
noncomputable def Rn (defs : List Pat) (s : ByteArray) (gs : List Goal) (a : Nat) (caps : List Cap) : Oc := out defs s gs ⟨a, caps, [], []⟩
theorem rn_of (gs : List Goal) (a : Nat) (caps ev : List Cap) : out defs s gs ⟨a, caps, ev, []⟩ = Rn defs s gs a caps := out_events gs ⟨a, caps, [], []⟩ ev
/-- With one older choice. -/
theorem out_one (gs : List Goal) (a : Nat) (caps ev : List Cap) (c : Choice) (hc : c.ncap ≤ caps.length) :
    out defs s gs ⟨a, caps, ev, [c]⟩ = (Rn defs s gs a caps).or (if c.stop then .stopped else Rn defs s c.goals c.at_ (caps.take c.ncap)) := by
  have hm : ∀ ev, (⟨a, caps, ev, [c]⟩ : Mst) = { (⟨a, caps, ev, []⟩ : Mst) with choices := [c] ++ [] } := fun _ => rfl
  by_cases hex : ∃ k, (play defs s k 0 gs ⟨a, caps, ev, []⟩).exhausted = false
  · obtain ⟨k, hk⟩ := hex
    rw [← rn_of gs a caps ev, out_of hk]
    by_cases ho : (play defs s k 0 gs ⟨a, caps, ev, []⟩).oc = .fail
    · rw [ho]
      obtain ⟨k', n', ev', caps', h1, h2⟩ := play_fall (B := caps) k 0 gs ⟨a, caps, ev, []⟩ ⟨List.prefix_refl _, by simp⟩ hk ho
      have h3 : ∀ x, play defs s (k + x) 0 gs ⟨a, caps, ev, [c]⟩ = if c.stop then ⟨false, true, false, 0, n', [], ev'⟩ else play defs s (k' + x) n' c.goals ⟨c.at_, caps'.take c.ncap, ev', []⟩ := fun x => h2 x [] c
      have hcap : caps'.take c.ncap = caps.take c.ncap := by
        obtain ⟨t, rfl⟩ := h1
        rw [List.take_append_of_le_length hc]
      show _ = (if c.stop then Oc.stopped else _)
      split
      · rename_i hs
        have h4 := h3 0
        rw [if_pos hs] at h4
        rw [out_of (k := k + 0) (n := 0) (by rw [h4]), h4]
        rfl
      · rename_i hs
        simp only [if_neg hs, hcap] at h3
        rw [← rn_of c.goals c.at_ _ ev']
        by_cases hex2 : ∃ j, (play defs s j 0 c.goals ⟨c.at_, caps.take c.ncap, ev', []⟩).exhausted = false
        · obtain ⟨j, hj⟩ := hex2
          have hj' : (play defs s (k' + j) n' c.goals ⟨c.at_, caps.take c.ncap, ev', []⟩).exhausted = false := by
            rw [(play_oc _ n' 0 _ _).2, Nat.add_comm, play_more _ _ _ _ _ _ _ hj]; exact hj
          rw [out_of hj', out_of (k := k + j) (n := 0) (by rw [h3]; exact hj'), h3]
        · have h1' : ∀ j, (play defs s j 0 c.goals ⟨c.at_, caps.take c.ncap, ev', []⟩).exhausted = true := fun j => by
            cases e : (play defs s j 0 c.goals ⟨c.at_, caps.take c.ncap, ev', []⟩).exhausted with
            | true => rfl
            | false => exact absurd ⟨j, e⟩ hex2
          rw [out_never h1', out_never]
          intro j
          cases e : (play defs s j 0 gs ⟨a, caps, ev, [c]⟩).exhausted with
          | true => rfl
          | false =>
            have := play_more defs s j 0 gs ⟨a, caps, ev, [c]⟩ k e
            rw [Nat.add_comm, h3] at this
            have h5 := h1' (k' + j)
            rw [(play_oc _ 0 n' _ _).2, this, e] at h5
            cases h5
    · have h2 := (play_under k 0 gs ⟨a, caps, ev, []⟩ [c]).2 hk ho
      have h3 : play defs s k 0 gs ⟨a, caps, ev, [c]⟩ = play defs s k 0 gs ⟨a, caps, ev, []⟩ := h2
      rw [out_of (k := k) (n := 0) (by rw [h3]; exact hk), h3]
      cases e : (play defs s k 0 gs ⟨a, caps, ev, []⟩).oc with
      | fail => exact absurd e ho
      | found => rfl
      | stopped => rfl
      | never => rfl
  · have h1 : ∀ k, (play defs s k 0 gs ⟨a, caps, ev, []⟩).exhausted = true := fun k => by
      cases e : (play defs s k 0 gs ⟨a, caps, ev, []⟩).exhausted with
      | true => rfl
      | false => exact absurd ⟨k, e⟩ hex
    have h9 : ∀ k, (play defs s k 0 gs ⟨a, caps, ev, [c]⟩).exhausted = true := fun k => (play_under k 0 gs ⟨a, caps, ev, []⟩ [c]).1 (h1 k)
    rw [← rn_of gs a caps ev, out_never h1, out_never h9]
    rfl
end
end Go.Proofs.Ytndefbecoahfhaa

/- A pattern's goals come to what its endings say, one after the other. No walk in sight. -/
namespace Go.Proofs.Ytndefbecoahfhaa
open Go.RowKit

section
variable {defs : List Pat} {s : ByteArray}
/-! ### The laws of goals without choices -/
theorem rn_nil (a : Nat) (caps : List Cap) : Rn defs s [] a caps = .found a caps := out_nil _
theorem rn_cap (p : Pat) (fr : Int) (gs : List Goal) (a : Nat) (caps : List Cap) : Rn defs s (⟨1, p, fr⟩ :: gs) a caps = Rn defs s gs a (caps ++ [⟨p.num, fr, a⟩]) := by
  unfold Rn; rw [out_go (gs' := gs) (m' := ⟨a, caps ++ [⟨p.num, fr, a⟩], [], []⟩) (by simp [step, Mst.cap])]
theorem rn_imm (p : Pat) (fr : Int) (gs : List Goal) (a : Nat) (caps : List Cap) : Rn defs s (⟨2, p, fr⟩ :: gs) a caps = Rn defs s gs a caps := by
  rw [← rn_of gs a caps [⟨p.num, fr, a⟩]]; unfold Rn; rw [out_go (gs' := gs) (m' := ⟨a, caps, [⟨p.num, fr, a⟩], []⟩) (by simp [step, Mst.event])]
theorem rn_ext (p : Pat) (fr : Int) (gs : List Goal) (a : Nat) (caps : List Cap) : Rn defs s (⟨3, p, fr⟩ :: gs) a caps = Rn defs s (⟨0, p.kid 0, 0⟩ :: ⟨4, p, a⟩ :: gs) a caps := by
  unfold Rn; exact out_go (by simp [step])
theorem rn_chk (p : Pat) (fr : Int) (gs : List Goal) (a : Nat) (caps : List Cap) : Rn defs s (⟨4, p, fr⟩ :: gs) a caps = if (a : Int) = fr then .fail else Rn defs s (⟨0, p, 0⟩ :: gs) a caps := by
  unfold Rn
  split
  · rename_i h
    rw [out_fail (by simp [step, h]), back_nil]
  · rename_i h
    exact out_go (by simp [step, h])
section
variable (p : Pat) (fr : Int) (gs : List Goal) (a : Nat) (caps : List Cap)
theorem rn_arb (h : p.op = 11) : Rn defs s (⟨0, p, fr⟩ :: gs) a caps = (Rn defs s gs a caps).or (if a < s.size then Rn defs s (⟨0, p, 0⟩ :: gs) (a + 1) caps else .fail) := by
  by_cases hlt : a < s.size
  · rw [if_pos hlt]
    have e : step defs s ⟨0, p, fr⟩ gs ⟨a, caps, [], []⟩ = .go gs ⟨a, caps, [], [⟨false, ⟨0, p, 0⟩ :: gs, a + 1, caps.length⟩]⟩ := by simp [step, stepMatch, h, hlt, Mst.choose]
    unfold Rn
    rw [out_go e, out_one _ _ _ _ _ (Nat.le_refl _)]
    simp [Rn]
  · rw [if_neg hlt, Oc.or_fail]
    have e : step defs s ⟨0, p, fr⟩ gs ⟨a, caps, [], []⟩ = .go gs ⟨a, caps, [], []⟩ := by simp [step, stepMatch, h, hlt]
    unfold Rn
    rw [out_go e]
theorem rn_arbno (h : p.op = 13) : Rn defs s (⟨0, p, fr⟩ :: gs) a caps = (Rn defs s gs a caps).or (Rn defs s (⟨3, p, 0⟩ :: gs) a caps) := by
  have e : step defs s ⟨0, p, fr⟩ gs ⟨a, caps, [], []⟩ = .go gs ⟨a, caps, [], [⟨false, ⟨3, p, 0⟩ :: gs, a, caps.length⟩]⟩ := by simp [step, stepMatch, h, Mst.choose]
  unfold Rn
  rw [out_go e, out_one _ _ _ _ _ (Nat.le_refl _)]
  simp [Rn]
theorem rn_cat (h : p.op = 14) : Rn defs s (⟨0, p, fr⟩ :: gs) a caps = Rn defs s (⟨0, p.kid 0, 0⟩ :: ⟨0, p.kid 1, 0⟩ :: gs) a caps := by
  unfold Rn; exact out_go (by simp [step, stepMatch, h])
theorem rn_alt (h : p.op = 15) : Rn defs s (⟨0, p, fr⟩ :: gs) a caps = (Rn defs s (⟨0, p.kid 0, 0⟩ :: gs) a caps).or (Rn defs s (⟨0, p.kid 1, 0⟩ :: gs) a caps) := by
  have e : step defs s ⟨0, p, fr⟩ gs ⟨a, caps, [], []⟩ = .go (⟨0, p.kid 0, 0⟩ :: gs) ⟨a, caps, [], [⟨false, ⟨0, p.kid 1, 0⟩ :: gs, a, caps.length⟩]⟩ := by simp [step, stepMatch, h, Mst.choose]
  unfold Rn
  rw [out_go e, out_one _ _ _ _ _ (Nat.le_refl _)]
  simp [Rn]
theorem rn_assign (h : p.op = 16) : Rn defs s (⟨0, p, fr⟩ :: gs) a caps = Rn defs s (⟨0, p.kid 0, 0⟩ :: ⟨1, p, a⟩ :: gs) a caps := by
  unfold Rn; exact out_go (by simp [step, stepMatch, h])
theorem rn_immediate (h : p.op = 17) : Rn defs s (⟨0, p, fr⟩ :: gs) a caps = Rn defs s (⟨0, p.kid 0, 0⟩ :: ⟨2, p, a⟩ :: gs) a caps := by
  unfold Rn; exact out_go (by simp [step, stepMatch, h])
theorem rn_cursor (h : p.op = 18) : Rn defs s (⟨0, p, fr⟩ :: gs) a caps = Rn defs s gs a caps := by
  rw [← rn_of gs a caps [⟨p.num, a, -1⟩]]; unfold Rn; rw [out_go (gs' := gs) (m' := ⟨a, caps, [⟨p.num, a, -1⟩], []⟩) (by simp [step, stepMatch, h, Mst.event])]
theorem rn_fence (h : p.op = 19) : Rn defs s (⟨0, p, fr⟩ :: gs) a caps = (Rn defs s gs a caps).or .stopped := by
  have e : step defs s ⟨0, p, fr⟩ gs ⟨a, caps, [], []⟩ = .go gs ⟨a, caps, [], [⟨true, [], a, caps.length⟩]⟩ := by simp [step, stepMatch, h]
  unfold Rn
  rw [out_go e, out_one _ _ _ _ _ (Nat.le_refl _)]
  simp [Rn]
theorem rn_defer (h : p.op = 20) : Rn defs s (⟨0, p, fr⟩ :: gs) a caps = Rn defs s (⟨0, defs.getD p.num.toNat (.mk 0 ByteArray.empty 0 0 0 []), 0⟩ :: gs) a caps := by
  unfold Rn; exact out_go (by simp [step, stepMatch, h])
theorem rn_abort (h : p.op = 21) : Rn defs s (⟨0, p, fr⟩ :: gs) a caps = .stopped := by
  unfold Rn; rw [out_stop (by simp [step, stepMatch, h])]
theorem rn_simple (h : p.op ≠ 11 ∧ p.op ≠ 13 ∧ p.op ≠ 14 ∧ p.op ≠ 15 ∧ p.op ≠ 16 ∧ p.op ≠ 17 ∧ p.op ≠ 18 ∧ p.op ≠ 19 ∧ p.op ≠ 20 ∧ p.op ≠ 21) :
    Rn defs s (⟨0, p, fr⟩ :: gs) a caps = match oneEnd p.op p.text p.num p.lo p.hi s a with | some e => Rn defs s gs e caps | none => .fail := by
  obtain ⟨h1, h2, h3, h4, h5, h6, h7, h8, h9, h10⟩ := h
  unfold Rn
  cases ho : oneEnd p.op p.text p.num p.lo p.hi s a with
  | some e => rw [out_go (gs' := gs) (m' := ⟨e, caps, [], []⟩) (by simp [step, stepMatch, h1, h2, h3, h4, h5, h6, h7, h8, h9, h10, ho])]
  | none => rw [out_fail (by simp [step, stepMatch, h1, h2, h3, h4, h5, h6, h7, h8, h9, h10, ho]), back_nil]
end

/-! ### The endings, tried in their order -/
noncomputable def tryAll (defs : List Pat) (s : ByteArray) (gs : List Goal) (caps : List Cap) : List End → Bool → Oc
  | [], st => if st then .stopped else .fail
  | e :: es, st => (Rn defs s gs e.at_ (caps ++ e.caps)).or (tryAll defs s gs caps es st)
theorem try_append (gs : List Goal) (caps : List Cap) (l l2 : List End) (st : Bool) : tryAll defs s gs caps (l ++ l2) st = (tryAll defs s gs caps l false).or (tryAll defs s gs caps l2 st) := by
  induction l with
  | nil => rfl
  | cons e es ih => simp only [List.cons_append, tryAll, ih, Oc.or_assoc]
theorem try_stop (gs : List Goal) (caps : List Cap) (l : List End) (x : Oc) : (tryAll defs s gs caps l true).or x = tryAll defs s gs caps l true := by
  induction l with
  | nil => rfl
  | cons e es ih => simp only [tryAll, Oc.or_assoc, ih]
theorem try_join (gs : List Goal) (caps : List Cap) (e : End) (l : List End) (st : Bool) : tryAll defs s gs (caps ++ e.caps) l st = tryAll defs s gs caps (l.map e.join) st := by
  induction l with
  | nil => rfl
  | cons x es ih => simp only [List.map_cons, tryAll, ih, End.join, List.append_assoc]
theorem try_map (gs gs2 : List Goal) (caps : List Cap) (f : End → End) (h : ∀ e caps, Rn defs s gs e.at_ (caps ++ e.caps) = Rn defs s gs2 (f e).at_ (caps ++ (f e).caps)) (l : List End) (st : Bool) : tryAll defs s gs caps l st = tryAll defs s gs2 caps (l.map f) st := by
  induction l with
  | nil => rfl
  | cons x es ih => simp only [List.map_cons, tryAll, ih, h x caps]
/-- Where endings may lie. -/
def Within (s : ByteArray) (a : Nat) (l : List End) : Prop := ∀ e ∈ l, a ≤ e.at_ ∧ e.at_ ≤ s.size
theorem after_try {f : Nat → Nat → EvR} {least : Int} {lo : Nat} {gs gs1 : List Goal} {caps : List Cap}
    (hf : ∀ (b a : Nat) l st b', lo ≤ a → a ≤ s.size → ¬ (a : Int) ≤ least → f b a = some (l, st, b') → ∀ caps, Rn defs s gs1 a caps = tryAll defs s gs caps l st)
    (hl : ∀ (a : Nat) caps, lo ≤ a → (a : Int) ≤ least → Rn defs s gs1 a caps = .fail) :
    ∀ (es acc : List End) (stop : Bool) (b : Nat) (L : List End) (st : Bool) (b' : Nat), Within s lo es → afterE f least es acc stop b = some (L, st, b') →
      (tryAll defs s gs caps acc false).or (tryAll defs s gs1 caps es stop) = tryAll defs s gs caps L st
  | [], acc, stop, b, L, st, b', _, h => by
    simp only [afterE, Option.some.injEq, Prod.mk.injEq] at h
    obtain ⟨rfl, rfl, rfl⟩ := h
    have := try_append (defs := defs) (s := s) gs caps acc [] stop
    rw [List.append_nil] at this
    rw [this]
    rfl
  | e :: es, acc, stop, b, L, st, b', hs, h => by
    have hs' : Within s lo es := fun x hx => hs x (List.mem_cons_of_mem _ hx)
    have hs0 := hs e List.mem_cons_self
    simp only [afterE] at h
    simp only [tryAll]
    split at h
    · rename_i hle
      rw [hl _ _ hs0.1 hle]
      exact after_try hf hl es acc stop b L st b' hs' h
    · rename_i hle
      cases hfe : f b e.at_ with
      | none => rw [hfe] at h; cases h
      | some r =>
        obtain ⟨l, inner, b1⟩ := r
        rw [hfe] at h
        simp only at h
        have hr := hf b e.at_ l inner b1 hs0.1 hs0.2 hle hfe (caps ++ e.caps)
        rw [try_join] at hr
        rw [hr, ← Oc.or_assoc]
        split at h
        · split at h
          · rename_i hin
            cases h
            rw [← try_append, hin, try_stop]
          · rename_i hin
            have hin : inner = false := by simpa using hin
            rw [← try_append, hin]
            exact after_try hf hl es _ stop _ L st b' hs' h
        · cases h

/-! ### Where endings lie -/
theorem oneEnd_ge {op : Int} {text : ByteArray} {num lo hi : Int} {s : ByteArray} {p e : Nat} (hp : p ≤ s.size) (h : oneEnd op text num lo hi s p = some e) : p ≤ e := by
  unfold oneEnd at h
  by_cases o1 : op = 1
  · subst o1
    simp at h
    obtain ⟨_, rfl⟩ := h
    omega
  by_cases o2 : op = 2
  · subst o2
    simp at h
    obtain ⟨_, rfl⟩ := h
    omega
  by_cases o3 : op = 3
  · subst o3
    simp at h
    obtain ⟨_, rfl⟩ := h
    omega
  by_cases o4 : op = 4
  · subst o4
    simp at h
    obtain ⟨_, rfl⟩ := h
    omega
  by_cases o5 : op = 5
  · subst o5
    simp at h
    obtain ⟨_, rfl⟩ := h
    omega
  by_cases o6 : op = 6
  · subst o6
    simp at h
    obtain ⟨_, rfl⟩ := h
    omega
  by_cases o7 : op = 7
  · subst o7
    simp at h
    obtain ⟨_, rfl⟩ := h
    omega
  by_cases o8 : op = 8
  · subst o8
    simp at h
    obtain ⟨_, rfl⟩ := h
    omega
  by_cases o9 : op = 9
  · subst o9
    simp at h
    obtain ⟨_, rfl⟩ := h
    omega
  by_cases o10 : op = 10
  · subst o10
    simp at h
    obtain ⟨_, rfl⟩ := h
    omega
  by_cases o12 : op = 12
  · subst o12
    simp at h
    omega
  by_cases o22 : op = 22
  · subst o22
    simp at h
    omega
  simp [o1, o2, o3, o4, o5, o6, o7, o8, o9, o10, o12, o22] at h
theorem after_within {f : Nat → Nat → EvR} {least : Int} {a : Nat} (hf : ∀ b x l st b', x ≤ s.size → a ≤ x → f b x = some (l, st, b') → Within s a l) :
    ∀ (es acc : List End) (stop : Bool) (b : Nat) (L : List End) (st : Bool) (b' : Nat), Within s a es → Within s a acc → afterE f least es acc stop b = some (L, st, b') → Within s a L
  | [], acc, stop, b, L, st, b', _, ha, h => by
    simp only [afterE, Option.some.injEq, Prod.mk.injEq] at h
    rw [← h.1]; exact ha
  | e :: es, acc, stop, b, L, st, b', he, ha, h => by
    have he' : Within s a es := fun x hx => he x (List.mem_cons_of_mem _ hx)
    simp only [afterE] at h
    split at h
    · exact after_within hf es acc stop b L st b' he' ha h
    · cases hfe : f b e.at_ with
      | none => rw [hfe] at h; cases h
      | some r =>
        obtain ⟨l, inner, b1⟩ := r
        rw [hfe] at h
        simp only at h
        have hl := hf b e.at_ l inner b1 (he e List.mem_cons_self).2 (he e List.mem_cons_self).1 hfe
        have hacc : Within s a (acc ++ l.map e.join) := fun x hx => by
          rcases List.mem_append.1 hx with hx | hx
          · exact ha x hx
          · obtain ⟨y, hy, rfl⟩ := List.mem_map.1 hx
            exact hl y hy
        split at h
        · split at h
          · cases h; exact hacc
          · exact after_within hf es _ stop _ L st b' he' hacc h
        · cases h
theorem Within.one {a : Nat} (h : a ≤ s.size) : Within s a [⟨a, []⟩] := fun e he => by rw [List.mem_singleton.1 he]; exact ⟨Nat.le_refl _, h⟩
theorem Within.nil (a : Nat) : Within s a [] := fun e he => by simp at he
theorem Within.weak {a b : Nat} {l : List End} (h : Within s b l) (hab : a ≤ b) : Within s a l := fun e he => ⟨Nat.le_trans hab (h e he).1, (h e he).2⟩
def DefsOkV (defs : List Pat) : Prop := ∀ j (h : j < defs.length), valid defs[j] defs.length = true
theorem defs_valid (hd : DefsOkV defs) {p : Pat} (hv : valid p defs.length = true) (h : p.op = 20) : valid (defs.getD p.num.toNat (.mk 0 ByteArray.empty 0 0 0 [])) defs.length = true := by
  have hn := valid_num hv
  unfold okNum at hn
  rw [if_neg (by omega), if_pos (by omega)] at hn
  simp only [Bool.and_eq_true, decide_eq_true_eq] at hn
  have hj : p.num.toNat < defs.length := by omega
  rw [List.getD_eq_getElem?_getD, List.getElem?_eq_getElem hj]
  exact hd _ hj
theorem kid_v {p : Pat} {n : Int} (hv : valid p n = true) (i : Nat) (hi : (i : Int) < kidsOf p.op) : valid (p.kid i) n = true := by
  have hk := (valid_kids hv).2
  rw [valid_eq, Bool.and_eq_true] at hv
  have hi' : i < p.kids.length := by omega
  have := (validAll_iff _ _).1 hv.2 i hi'
  unfold Pat.kid
  rw [List.getD_eq_getElem?_getD, List.getElem?_eq_getElem hi']
  exact this
theorem ev_within (hd : DefsOkV defs) : ∀ (n b : Nat) (p : Pat) (a : Nat) (l : List End) (st : Bool) (b' : Nat), valid p defs.length = true → a ≤ s.size → ev defs s n b p a = some (l, st, b') → Within s a l
  | 0, b, p, a, l, st, b', _, _, h => by simp [ev] at h
  | n + 1, 0, p, a, l, st, b', _, _, h => by simp [ev] at h
  | n + 1, b + 1, p, a, l, st, b', hv, ha, h => by
    have ih := ev_within hd n
    rw [ev] at h
    by_cases h11 : p.op = 11
    · rw [if_pos h11] at h
      split at h
      · cases h
        intro e he
        simp only [arbE, List.mem_map, List.mem_range] at he
        obtain ⟨i, hi, rfl⟩ := he
        exact ⟨by simp, by simp; omega⟩
      · cases h
    rw [if_neg h11] at h
    by_cases h13 : p.op = 13
    · rw [if_pos h13] at h
      cases h0 : ev defs s n b (p.kid 0) a with
      | none => rw [h0] at h; cases h
      | some r =>
        obtain ⟨l0, s0, b0⟩ := r
        rw [h0] at h
        exact after_within (fun b x l st b' hx hax hf => (ih b p x l st b' hv hx hf).weak hax) _ _ _ _ _ _ _ (ih _ _ _ _ _ _ (kid_v hv 0 (by rw [h13]; decide)) ha h0) (Within.one ha) h
    rw [if_neg h13] at h
    by_cases h14 : p.op = 14
    · rw [if_pos h14] at h
      cases h0 : ev defs s n b (p.kid 0) a with
      | none => rw [h0] at h; cases h
      | some r =>
        obtain ⟨l0, s0, b0⟩ := r
        rw [h0] at h
        exact after_within (fun b x l st b' hx hax hf => (ih b _ x l st b' (kid_v hv 1 (by rw [h14]; decide)) hx hf).weak hax) _ _ _ _ _ _ _ (ih _ _ _ _ _ _ (kid_v hv 0 (by rw [h14]; decide)) ha h0) (Within.nil a) h
    rw [if_neg h14] at h
    by_cases h15 : p.op = 15
    · rw [if_pos h15] at h
      cases h0 : ev defs s n b (p.kid 0) a with
      | none => rw [h0] at h; cases h
      | some r =>
        obtain ⟨l0, s0, b0⟩ := r
        rw [h0] at h
        have w0 := ih _ _ _ _ _ _ (kid_v hv 0 (by rw [h15]; decide)) ha h0
        simp only at h
        split at h
        · cases h; exact w0
        · cases h1 : ev defs s n b0 (p.kid 1) a with
          | none => rw [h1] at h; cases h
          | some r =>
            obtain ⟨l1, s1, b1⟩ := r
            rw [h1] at h
            cases h
            have w1 := ih _ _ _ _ _ _ (kid_v hv 1 (by rw [h15]; decide)) ha h1
            intro e he
            rcases List.mem_append.1 he with he | he
            · exact w0 e he
            · exact w1 e he
    rw [if_neg h15] at h
    by_cases h16 : p.op = 16
    · rw [if_pos h16] at h
      cases h0 : ev defs s n b (p.kid 0) a with
      | none => rw [h0] at h; cases h
      | some r =>
        obtain ⟨l0, s0, b0⟩ := r
        rw [h0] at h
        cases h
        have w0 := ih _ _ _ _ _ _ (kid_v hv 0 (by rw [h16]; decide)) ha h0
        intro e he
        obtain ⟨y, hy, rfl⟩ := List.mem_map.1 he
        exact w0 y hy
    rw [if_neg h16] at h
    by_cases h17 : p.op = 17
    · rw [if_pos h17] at h
      exact ih _ _ _ _ _ _ (kid_v hv 0 (by rw [h17]; decide)) ha h
    rw [if_neg h17] at h
    by_cases h18 : p.op = 18
    · rw [if_pos h18] at h; cases h; exact Within.one ha
    rw [if_neg h18] at h
    by_cases h19 : p.op = 19
    · rw [if_pos h19] at h; cases h; exact Within.one ha
    rw [if_neg h19] at h
    by_cases h20 : p.op = 20
    · rw [if_pos h20] at h
      exact ih _ _ _ _ _ _ (defs_valid hd hv h20) ha h
    rw [if_neg h20] at h
    by_cases h21 : p.op = 21
    · rw [if_pos h21] at h; cases h; exact Within.nil a
    rw [if_neg h21] at h
    cases ho : oneEnd p.op p.text p.num p.lo p.hi s a with
    | none => rw [ho] at h; cases h; exact Within.nil a
    | some e =>
      rw [ho] at h
      cases h
      intro x hx
      rw [List.mem_singleton.1 hx]
      exact ⟨oneEnd_ge ha ho, oneEnd_le (valid_words hv) ha ho⟩
end
end Go.Proofs.Ytndefbecoahfhaa
