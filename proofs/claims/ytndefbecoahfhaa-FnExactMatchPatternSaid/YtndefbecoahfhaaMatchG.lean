/- impl's match. Printed by gen_match.py. -/
import Derived.Test.YtndefbecoahfhaaMatchBase
namespace Go.Proofs.Ytndefbecoahfhaa
open Go.RowKit

set_option maxRecDepth 100000 in
set_option maxHeartbeats 1000000 in
theorem match_alt {w0 w : World} {M : Nat} {dv : Value} {s : ByteArray} {n : Nat} {m : Mst} {cv ev hv : Value} {hs : List Value} {text : ByteArray} {num lo hi : Int} {k0 k1 : Pat} {A : Option Addr} {c : Nat} {fr : Int} {nv : Value} {gs : List Goal} {b : Nat} 
    (h : ImplAt w0 w M dv s n m cv ev hv hs) (hb : w.heap[b]? = some (.cells #[.int .i64 0, .int .i64 15, .string text, .int .i64 num, .int .i64 lo, .int .i64 hi, .slice A 2 c, .int .i64 fr, nv] TG (0, 0)))
    (hkid : KidsIn w0 (.mk 15 text num lo hi [k0, k1]) (.slice A 2 c)) (hnv : GoalsAt w0 w gs nv) (hch : m.choices.length ≤ 5000) :
    Calls Try.prog 68 #[.pointer (some ⟨M, 0, none⟩), .pointer (some ⟨b, 0, none⟩)] w (Did w0 M dv s n m (.go (⟨0, k0, 0⟩ :: gs) (m.choose (⟨0, k1, 0⟩ :: gs) m.at_))) := by
  have hblk := h.blk
  obtain ⟨np, rfl⟩ := hnv.ptr
  obtain ⟨cA, cc, rfl, _, _⟩ := h.caps.form
  obtain ⟨eA, ec, rfl, _, _⟩ := h.evs.form
  obtain ⟨hA, hc, rfl, _, _⟩ := h.chs.form
  obtain ⟨b0, b1, b2, b3, b4, b5, b6, b7, b8⟩ := cells_g hb
  have HI := Lib.hid h
  have HN := Lib.hid hnv
  have HB := Lib.hid hb
  have HR := Lib.hid (kids_row hkid)
  have HKID := Lib.hid hkid
  have hbel := h.below.size
  have hMb : ¬ M = b := ne_of_type hblk hb (by decide)
  have hbM : ¬ b = M := fun e => hMb e.symm
  clear h hnv hb hkid
  go_enter Try.func68, Try.ntmps68
  go_wp2_with fail
  clear b0 b1 b2 b3 b4 b5 b6 b7 b8
  -- region 2: 17 operations, the last []
  refine wpU_begin [] [] (by kernel_rfl) (fun w1 hw1 => ?_)
  obtain ⟨hl1, hp1⟩ := drew_alloc hw1
  have HP1 := Lib.hid hp1
  have HM1 := Lib.hid (hl1.has hblk)
  have HL1 := Lib.hid hl1
  clear hw1 hl1 hp1 hblk
  refine wpU_take 0 (some 16) (v := ?_) rfl rfl (by kernel_rfl) (fun _ _ _ h => h) rfl (fun x hx => ?_) ?_
  rotate_left 1
  · obtain ⟨m0, m1, m2, m8, m9, m10, m11⟩ := cells_m (hx.has HM1.out); obtain ⟨p0, p1, p2, p3, p4, p5⟩ := cells_p (hx.has HP1.out); go_simp; first | done | with_reducible rfl | rw [if_neg (by omega)] | rw [if_pos (by omega)]
  simp only [Act.put, List.setIfInBounds_toArray, List.set_cons_zero, List.set_cons_succ]
  refine wpU_take 1 (some 17) (v := ?_) rfl rfl (by kernel_rfl) (fun _ _ _ h => h) rfl (fun x hx => ?_) ?_
  rotate_left 1
  · go_simp; first | done | with_reducible rfl | rw [if_neg (by omega)] | rw [if_pos (by omega)]
  simp only [Act.put, List.setIfInBounds_toArray, List.set_cons_zero, List.set_cons_succ]
  refine wpU_take 2 (some 18) (v := ?_) rfl rfl (by kernel_rfl) (fun _ _ _ h => h) rfl (fun x hx => ?_) ?_
  rotate_left 1
  · go_simp; first | done | with_reducible rfl | rw [if_neg (by omega)] | rw [if_pos (by omega)]
  simp only [Act.put, List.setIfInBounds_toArray, List.set_cons_zero, List.set_cons_succ]
  refine wpU_take 3 (some 19) (v := ?_) rfl rfl (by kernel_rfl) (fun _ _ _ h => h) rfl (fun x hx => ?_) ?_
  rotate_left 1
  · go_simp; first | done | with_reducible rfl | rw [if_neg (by omega)] | rw [if_pos (by omega)]
  simp only [Act.put, List.setIfInBounds_toArray, List.set_cons_zero, List.set_cons_succ]
  refine wpU_take 4 (some 20) (v := ?_) rfl rfl (by kernel_rfl) (fun _ _ _ h => h) rfl (fun x hx => ?_) ?_
  rotate_left 1
  · obtain ⟨m0, m1, m2, m8, m9, m10, m11⟩ := cells_m (hx.has HM1.out); obtain ⟨p0, p1, p2, p3, p4, p5⟩ := cells_p (hx.has HP1.out); go_simp; first | done | with_reducible rfl | rw [if_neg (by omega)] | rw [if_pos (by omega)]
  simp only [Act.put, List.setIfInBounds_toArray, List.set_cons_zero, List.set_cons_succ]
  refine wpU_take 5 (some 21) (v := ?_) rfl rfl (by kernel_rfl) (fun _ _ _ h => h) rfl (fun x hx => ?_) ?_
  rotate_left 1
  · go_simp; first | done | with_reducible rfl | rw [if_neg (by omega)] | rw [if_pos (by omega)]
  simp only [Act.put, List.setIfInBounds_toArray, List.set_cons_zero, List.set_cons_succ]
  refine wpU_take 6 (some 22) (v := ?_) rfl rfl (by kernel_rfl) (fun _ _ _ h => h) rfl (fun x hx => ?_) ?_
  rotate_left 1
  · go_simp; first | done | with_reducible rfl | rw [if_neg (by omega)] | rw [if_pos (by omega)]
  simp only [Act.put, List.setIfInBounds_toArray, List.set_cons_zero, List.set_cons_succ]
  refine wpU_take 7 (some 23) (v := ?_) rfl rfl (by kernel_rfl) (fun _ _ _ h => h) rfl (fun x hx => ?_) ?_
  rotate_left 1
  · go_simp; first | done | with_reducible rfl | rw [if_neg (by omega)] | rw [if_pos (by omega)]
  simp only [Act.put, List.setIfInBounds_toArray, List.set_cons_zero, List.set_cons_succ]
  refine wpU_take 8 (some 24) (v := ?_) rfl rfl (by kernel_rfl) (fun _ _ _ h => h) rfl (fun x hx => ?_) ?_
  rotate_left 1
  · obtain ⟨m0, m1, m2, m8, m9, m10, m11⟩ := cells_m (hx.has HM1.out); obtain ⟨p0, p1, p2, p3, p4, p5⟩ := cells_p (hx.has HP1.out); go_simp; first | done | with_reducible rfl | rw [if_neg (by omega)] | rw [if_pos (by omega)]
  simp only [Act.put, List.setIfInBounds_toArray, List.set_cons_zero, List.set_cons_succ]
  refine wpU_step 9 (by kernel_rfl) rfl rfl ?_  -- call value (Go.Operand.func 78)
  go_wp2_with fail
  refine (simple_else text num lo hi A 2 c s m.at_ _ 15 (by omega)).mono ?_
  rintro e w2 ⟨rfl, hb2⟩
  go_wp2_with fail
  refine ⟨hb2, ?_⟩
  have HI2 := Lib.hid (HI.out.later (HL1.out.trans hb2))
  have HN2 := Lib.hid (HN.out.later (HL1.out.trans hb2))
  have HB2 := Lib.hid ((HL1.out.trans hb2).has HB.out)
  have HP2 := Lib.hid (Later.has hb2 HP1.out)
  clear HP1 HM1 HI HN HB HL1 hb2
  refine wpU_take 10 (some 15) (v := ?_) rfl rfl (by kernel_rfl) (fun _ _ _ h => h) rfl (fun x hx => ?_) ?_
  rotate_left 1
  · go_simp; first | done | with_reducible rfl | rw [if_neg (by omega)] | rw [if_pos (by omega)]
  simp only [Act.put, List.setIfInBounds_toArray, List.set_cons_zero, List.set_cons_succ]
  refine wpU_take 11 (some 26) (v := ?_) rfl rfl (by kernel_rfl) (fun _ _ _ h => h) rfl (fun x hx => ?_) ?_
  rotate_left 1
  · go_simp; first | done | with_reducible rfl | rw [if_neg (by omega)] | rw [if_pos (by omega)]
  simp only [Act.put, List.setIfInBounds_toArray, List.set_cons_zero, List.set_cons_succ]
  refine wpU_take 12 (some 27) (v := ?_) rfl rfl (by kernel_rfl) (fun _ _ _ h => h) rfl (fun x hx => ?_) ?_
  rotate_left 1
  · go_simp; first | done | with_reducible rfl | rw [if_neg (by omega)] | rw [if_pos (by omega)]
  simp only [Act.put, List.setIfInBounds_toArray, List.set_cons_zero, List.set_cons_succ]
  refine wpU_take 13 (some 28) (v := ?_) rfl rfl (by kernel_rfl) (fun _ _ _ h => h) rfl (fun x hx => ?_) ?_
  rotate_left 1
  · go_simp; first | done | with_reducible rfl | rw [if_neg (by omega)] | rw [if_pos (by omega)]
  simp only [Act.put, List.setIfInBounds_toArray, List.set_cons_zero, List.set_cons_succ]
  refine wpU_take 14 (some 8) (v := ?_) rfl rfl (by kernel_rfl) (fun _ _ _ h => h) rfl (fun x hx => ?_) ?_
  rotate_left 1
  · go_simp; first | done | with_reducible rfl | rw [if_neg (by omega)] | rw [if_pos (by omega)]
  simp only [Act.put, List.setIfInBounds_toArray, List.set_cons_zero, List.set_cons_succ]
  refine wpU_take 15 (some 9) (v := ?_) rfl rfl (by kernel_rfl) (fun _ _ _ h => h) rfl (fun x hx => ?_) ?_
  rotate_left 1
  · go_simp; first | done | with_reducible rfl | rw [if_neg (by omega)] | rw [if_pos (by omega)]
  simp only [Act.put, List.setIfInBounds_toArray, List.set_cons_zero, List.set_cons_succ]
  refine wpU_take 16 (some 10) (v := ?_) rfl rfl (by kernel_rfl) (fun _ _ _ h => h) rfl (fun x hx => ?_) ?_
  rotate_left 1
  · go_simp; first | done | with_reducible rfl | rw [if_neg (by omega)] | rw [if_pos (by omega)]
  simp only [Act.put, List.setIfInBounds_toArray, List.set_cons_zero, List.set_cons_succ]
  refine wpU_last [] (by kernel_rfl) rfl rfl ?_
  obtain ⟨m0, m1, m2, m8, m9, m10, m11⟩ := cells_m HI2.out.blk
  obtain ⟨p0, p1, p2, p3, p4, p5⟩ := cells_p HP2.out
  obtain ⟨b0, b1, b2, b3, b4, b5, b6, b7, b8⟩ := cells_g HB2.out
  go_wp2_with fail
  clear m0 m1 m2 m8 m9 m10 m11 p0 p1 p2 p3 p4 p5 b0 b1 b2 b3 b4 b5 b6 b7 b8
  -- region 18: 16 operations, the last [15]
  refine wpU_begin [15] [] (by kernel_rfl) (fun w3 hw3 => ?_)
  have hl3 := drew_later hw3
  have HI3 := Lib.hid (HI2.out.later hl3)
  have HN3 := Lib.hid (HN2.out.later hl3)
  have HB3 := Lib.hid (hl3.has HB2.out)
  have HP3 := Lib.hid (hl3.has HP2.out)
  clear hw3 hl3 HI2 HN2 HB2 HP2
  obtain ⟨g1, kA1, kc1, hA1, hk1, he1⟩ := kid_cells HR.out (j := 1) (by simp) HI3.out.below
  simp only [List.getElem_cons_succ, List.getElem_cons_zero] at hk1 he1
  have HK1 := Lib.hid hk1
  have HE1 := Lib.hid he1
  clear hk1 he1
  subst hA1
  refine wpU_take 0 (some 105) (v := ?_) rfl rfl (by kernel_rfl) (fun _ _ _ h => h) rfl (fun x hx => ?_) ?_
  rotate_left 1
  · go_simp; first | done | with_reducible rfl | rw [if_neg (by omega)] | rw [if_pos (by omega)]
  simp only [Act.put, List.setIfInBounds_toArray, List.set_cons_zero, List.set_cons_succ]
  refine wpU_take 1 (some 106) (v := ?_) rfl rfl (by kernel_rfl) (fun _ _ _ h => h) rfl (fun x hx => ?_) ?_
  rotate_left 1
  · go_simp; first | done | with_reducible rfl | rw [if_neg (by omega)] | rw [if_pos (by omega)]
  simp only [Act.put, List.setIfInBounds_toArray, List.set_cons_zero, List.set_cons_succ]
  refine wpU_take 2 (some 107) (v := ?_) rfl rfl (by kernel_rfl) (fun _ _ _ h => h) rfl (fun x hx => ?_) ?_
  rotate_left 1
  · obtain ⟨m0, m1, m2, m8, m9, m10, m11⟩ := cells_m (hx.has HI3.out.blk); obtain ⟨p0, p1, p2, p3, p4, p5⟩ := cells_p (hx.has HP3.out); obtain ⟨b0, b1, b2, b3, b4, b5, b6, b7, b8⟩ := cells_g (hx.has HB3.out); obtain ⟨e10, e11, e12, e13, e14, e15⟩ := HE1.out.below hx; simp only [Nat.one_mul, Nat.reduceAdd] at e10 e11 e12 e13 e14 e15; go_simp; first | done | with_reducible rfl | rw [if_neg (by omega)] | rw [if_pos (by omega)]
  simp only [Act.put, List.setIfInBounds_toArray, List.set_cons_zero, List.set_cons_succ]
  refine wpU_take 3 (some 108) (v := ?_) rfl rfl (by kernel_rfl) (fun _ _ _ h => h) rfl (fun x hx => ?_) ?_
  rotate_left 1
  · go_simp; first | done | with_reducible rfl | rw [if_neg (by omega)] | rw [if_pos (by omega)]
  simp only [Act.put, List.setIfInBounds_toArray, List.set_cons_zero, List.set_cons_succ]
  refine wpU_take 4 (some 109) (v := ?_) rfl rfl (by kernel_rfl) (fun _ _ _ h => h) rfl (fun x hx => ?_) ?_
  rotate_left 1
  · obtain ⟨m0, m1, m2, m8, m9, m10, m11⟩ := cells_m (hx.has HI3.out.blk); obtain ⟨p0, p1, p2, p3, p4, p5⟩ := cells_p (hx.has HP3.out); obtain ⟨b0, b1, b2, b3, b4, b5, b6, b7, b8⟩ := cells_g (hx.has HB3.out); obtain ⟨e10, e11, e12, e13, e14, e15⟩ := HE1.out.below hx; simp only [Nat.one_mul, Nat.reduceAdd] at e10 e11 e12 e13 e14 e15; go_simp; first | done | with_reducible rfl | rw [if_neg (by omega)] | rw [if_pos (by omega)]
  simp only [Act.put, List.setIfInBounds_toArray, List.set_cons_zero, List.set_cons_succ]
  refine wpU_take 5 (some 110) (v := ?_) rfl rfl (by kernel_rfl) (fun _ _ _ h => h) rfl (fun x hx => ?_) ?_
  rotate_left 1
  · go_simp; first | done | with_reducible rfl | rw [if_neg (by omega)] | rw [if_pos (by omega)]
  simp only [Act.put, List.setIfInBounds_toArray, List.set_cons_zero, List.set_cons_succ]
  refine wpU_take 6 (some 111) (v := ?_) rfl rfl (by kernel_rfl) (fun _ _ _ h => h) rfl (fun x hx => ?_) ?_
  rotate_left 1
  · go_simp; first | done | with_reducible rfl | rw [if_neg (by omega)] | rw [if_pos (by omega)]
  simp only [Act.put, List.setIfInBounds_toArray, List.set_cons_zero, List.set_cons_succ]
  refine wpU_take 7 (some 112) (v := ?_) rfl rfl (by kernel_rfl) (fun _ _ _ h => h) rfl (fun x hx => ?_) ?_
  rotate_left 1
  · go_simp; first | done | with_reducible rfl | rw [if_neg (by omega)] | rw [if_pos (by omega)]
  simp only [Act.put, List.setIfInBounds_toArray, List.set_cons_zero, List.set_cons_succ]
  refine wpU_take 8 (some 113) (v := ?_) rfl rfl (by kernel_rfl) (fun _ _ _ h => h) rfl (fun x hx => ?_) ?_
  rotate_left 1
  · obtain ⟨m0, m1, m2, m8, m9, m10, m11⟩ := cells_m (hx.has HI3.out.blk); obtain ⟨p0, p1, p2, p3, p4, p5⟩ := cells_p (hx.has HP3.out); obtain ⟨b0, b1, b2, b3, b4, b5, b6, b7, b8⟩ := cells_g (hx.has HB3.out); obtain ⟨e10, e11, e12, e13, e14, e15⟩ := HE1.out.below hx; simp only [Nat.one_mul, Nat.reduceAdd] at e10 e11 e12 e13 e14 e15; go_simp; first | done | with_reducible rfl | rw [if_neg (by omega)] | rw [if_pos (by omega)]
  simp only [Act.put, List.setIfInBounds_toArray, List.set_cons_zero, List.set_cons_succ]
  refine wpU_take 9 (some 114) (v := ?_) rfl rfl (by kernel_rfl) (fun _ _ _ h => h) rfl (fun x hx => ?_) ?_
  rotate_left 1
  · go_simp; first | done | with_reducible rfl | rw [if_neg (by omega)] | rw [if_pos (by omega)]
  simp only [Act.put, List.setIfInBounds_toArray, List.set_cons_zero, List.set_cons_succ]
  refine wpU_take 11 (some 116) (v := ?_) rfl rfl (by kernel_rfl) (fun _ _ _ h => h) rfl (fun x hx => ?_) ?_
  rotate_left 1
  · go_simp; first | done | with_reducible rfl | rw [if_neg (by omega)] | rw [if_pos (by omega)]
  simp only [Act.put, List.setIfInBounds_toArray, List.set_cons_zero, List.set_cons_succ]
  refine wpU_take 12 (some 117) (v := ?_) rfl rfl (by kernel_rfl) (fun _ _ _ h => h) rfl (fun x hx => ?_) ?_
  rotate_left 1
  · go_simp; first | done | with_reducible rfl | rw [if_neg (by omega)] | rw [if_pos (by omega)]
  simp only [Act.put, List.setIfInBounds_toArray, List.set_cons_zero, List.set_cons_succ]
  refine wpU_take 13 (some 118) (v := ?_) rfl rfl (by kernel_rfl) (fun _ _ _ h => h) rfl (fun x hx => ?_) ?_
  rotate_left 1
  · go_simp; first | done | with_reducible rfl | rw [if_neg (by omega)] | rw [if_pos (by omega)]
  simp only [Act.put, List.setIfInBounds_toArray, List.set_cons_zero, List.set_cons_succ]
  refine wpU_take 14 (some 119) (v := ?_) rfl rfl (by kernel_rfl) (fun _ _ _ h => h) rfl (fun x hx => ?_) ?_
  rotate_left 1
  · obtain ⟨m0, m1, m2, m8, m9, m10, m11⟩ := cells_m (hx.has HI3.out.blk); obtain ⟨p0, p1, p2, p3, p4, p5⟩ := cells_p (hx.has HP3.out); obtain ⟨b0, b1, b2, b3, b4, b5, b6, b7, b8⟩ := cells_g (hx.has HB3.out); obtain ⟨e10, e11, e12, e13, e14, e15⟩ := HE1.out.below hx; simp only [Nat.one_mul, Nat.reduceAdd] at e10 e11 e12 e13 e14 e15; go_simp; first | done | with_reducible rfl | rw [if_neg (by omega)] | rw [if_pos (by omega)]
  simp only [Act.put, List.setIfInBounds_toArray, List.set_cons_zero, List.set_cons_succ]
  refine wpU_step 10 (by kernel_rfl) rfl rfl ?_  -- box 
  go_wp2_with fail
  refine ⟨(Later.refl _).alloc _, ?_⟩
  refine wpU_last [_] (by kernel_rfl) rfl rfl ?_
  simp only [List.getElem_toArray, List.getElem_cons_succ, List.getElem_cons_zero]
  go_wp2_with fail
  refine (choose_at2 m.at_ (HI3.out.later ((Later.refl _).alloc _)) (HN3.out.push ⟨0, k1, 0⟩ HK1.out) hch _ rfl).mono ?_
  rintro e w4 ⟨rfl, hv4, hs4, hI4, hK4, hK5⟩
  have HI4 := Lib.hid hI4
  have HB4 := Lib.hid (((KeepT.later ((Later.refl w3).alloc _)).trans hK4) b _ HB3.out)
  have HN4 := Lib.hid (HN3.out.keep ((KeepT.later ((Later.refl w3).alloc _)).trans hK4) _ _)
  have HP4 := Lib.hid (((KeepT.later ((Later.refl w3).alloc _)).trans hK5) _ _ HP3.out)
  clear hI4 hK4 hK5
  go_wp2_with fail
  -- region 19: 13 operations, the last []
  refine wpU_begin [] [] (by kernel_rfl) (fun w5 hw5 => ?_)
  have hl5 := drew_later hw5
  have HI5 := Lib.hid (HI4.out.later hl5)
  have HN5 := Lib.hid (HN4.out.later hl5)
  have HB5 := Lib.hid (hl5.has HB4.out)
  have HP5 := Lib.hid (hl5.has HP4.out)
  clear hw5 hl5 HI4 HN4 HB4 HP4
  obtain ⟨g0, kA0, kc0, hA0, hk0, he0⟩ := kid_cells HR.out (j := 0) (by simp) HI5.out.below
  simp only [List.getElem_cons_zero] at hk0 he0
  have HK0 := Lib.hid hk0
  have HE0 := Lib.hid he0
  clear hk0 he0
  obtain rfl : g1 = g0 := by cases hA0; rfl
  clear hA0
  refine wpU_take 0 (some 121) (v := ?_) rfl rfl (by kernel_rfl) (fun _ _ _ h => h) rfl (fun x hx => ?_) ?_
  rotate_left 1
  · go_simp; first | done | with_reducible rfl | rw [if_neg (by omega)] | rw [if_pos (by omega)]
  simp only [Act.put, List.setIfInBounds_toArray, List.set_cons_zero, List.set_cons_succ]
  refine wpU_take 1 (some 122) (v := ?_) rfl rfl (by kernel_rfl) (fun _ _ _ h => h) rfl (fun x hx => ?_) ?_
  rotate_left 1
  · obtain ⟨m0, m1, m2, m8, m9, m10, m11⟩ := cells_m (hx.has HI5.out.blk); obtain ⟨p0, p1, p2, p3, p4, p5⟩ := cells_p (hx.has HP5.out); obtain ⟨b0, b1, b2, b3, b4, b5, b6, b7, b8⟩ := cells_g (hx.has HB5.out); obtain ⟨e00, e01, e02, e03, e04, e05⟩ := HE0.out.below hx; simp only [Nat.zero_mul, Nat.zero_add] at e00 e01 e02 e03 e04 e05; go_simp; first | done | with_reducible rfl | rw [if_neg (by omega)] | rw [if_pos (by omega)]
  simp only [Act.put, List.setIfInBounds_toArray, List.set_cons_zero, List.set_cons_succ]
  refine wpU_take 2 (some 123) (v := ?_) rfl rfl (by kernel_rfl) (fun _ _ _ h => h) rfl (fun x hx => ?_) ?_
  rotate_left 1
  · go_simp; first | done | with_reducible rfl | rw [if_neg (by omega)] | rw [if_pos (by omega)]
  simp only [Act.put, List.setIfInBounds_toArray, List.set_cons_zero, List.set_cons_succ]
  refine wpU_take 3 (some 124) (v := ?_) rfl rfl (by kernel_rfl) (fun _ _ _ h => h) rfl (fun x hx => ?_) ?_
  rotate_left 1
  · obtain ⟨m0, m1, m2, m8, m9, m10, m11⟩ := cells_m (hx.has HI5.out.blk); obtain ⟨p0, p1, p2, p3, p4, p5⟩ := cells_p (hx.has HP5.out); obtain ⟨b0, b1, b2, b3, b4, b5, b6, b7, b8⟩ := cells_g (hx.has HB5.out); obtain ⟨e00, e01, e02, e03, e04, e05⟩ := HE0.out.below hx; simp only [Nat.zero_mul, Nat.zero_add] at e00 e01 e02 e03 e04 e05; go_simp; first | done | with_reducible rfl | rw [if_neg (by omega)] | rw [if_pos (by omega)]
  simp only [Act.put, List.setIfInBounds_toArray, List.set_cons_zero, List.set_cons_succ]
  refine wpU_take 4 (some 125) (v := ?_) rfl rfl (by kernel_rfl) (fun _ _ _ h => h) rfl (fun x hx => ?_) ?_
  rotate_left 1
  · go_simp; first | done | with_reducible rfl | rw [if_neg (by omega)] | rw [if_pos (by omega)]
  simp only [Act.put, List.setIfInBounds_toArray, List.set_cons_zero, List.set_cons_succ]
  refine wpU_take 5 (some 126) (v := ?_) rfl rfl (by kernel_rfl) (fun _ _ _ h => h) rfl (fun x hx => ?_) ?_
  rotate_left 1
  · go_simp; first | done | with_reducible rfl | rw [if_neg (by omega)] | rw [if_pos (by omega)]
  simp only [Act.put, List.setIfInBounds_toArray, List.set_cons_zero, List.set_cons_succ]
  refine wpU_take 6 (some 127) (v := ?_) rfl rfl (by kernel_rfl) (fun _ _ _ h => h) rfl (fun x hx => ?_) ?_
  rotate_left 1
  · go_simp; first | done | with_reducible rfl | rw [if_neg (by omega)] | rw [if_pos (by omega)]
  simp only [Act.put, List.setIfInBounds_toArray, List.set_cons_zero, List.set_cons_succ]
  refine wpU_take 7 (some 128) (v := ?_) rfl rfl (by kernel_rfl) (fun _ _ _ h => h) rfl (fun x hx => ?_) ?_
  rotate_left 1
  · obtain ⟨m0, m1, m2, m8, m9, m10, m11⟩ := cells_m (hx.has HI5.out.blk); obtain ⟨p0, p1, p2, p3, p4, p5⟩ := cells_p (hx.has HP5.out); obtain ⟨b0, b1, b2, b3, b4, b5, b6, b7, b8⟩ := cells_g (hx.has HB5.out); obtain ⟨e00, e01, e02, e03, e04, e05⟩ := HE0.out.below hx; simp only [Nat.zero_mul, Nat.zero_add] at e00 e01 e02 e03 e04 e05; go_simp; first | done | with_reducible rfl | rw [if_neg (by omega)] | rw [if_pos (by omega)]
  simp only [Act.put, List.setIfInBounds_toArray, List.set_cons_zero, List.set_cons_succ]
  refine wpU_take 8 (some 129) (v := ?_) rfl rfl (by kernel_rfl) (fun _ _ _ h => h) rfl (fun x hx => ?_) ?_
  rotate_left 1
  · go_simp; first | done | with_reducible rfl | rw [if_neg (by omega)] | rw [if_pos (by omega)]
  simp only [Act.put, List.setIfInBounds_toArray, List.set_cons_zero, List.set_cons_succ]
  refine wpU_step 9 (by kernel_rfl) rfl rfl ?_  -- box 
  go_wp2_with fail
  refine ⟨(Later.refl _).alloc _, ?_⟩
  refine wpU_take 10 (some 4) (v := ?_) rfl rfl (by kernel_rfl) (fun _ _ _ h => h) rfl (fun x hx => ?_) ?_
  rotate_left 1
  · go_simp; first | done | with_reducible rfl | rw [if_neg (by omega)] | rw [if_pos (by omega)]
  simp only [Act.put, List.setIfInBounds_toArray, List.set_cons_zero, List.set_cons_succ]
  refine wpU_take 11 (some 5) (v := ?_) rfl rfl (by kernel_rfl) (fun _ _ _ h => h) rfl (fun x hx => ?_) ?_
  rotate_left 1
  · go_simp; first | done | with_reducible rfl | rw [if_neg (by omega)] | rw [if_pos (by omega)]
  simp only [Act.put, List.setIfInBounds_toArray, List.set_cons_zero, List.set_cons_succ]
  refine wpU_take 12 (some 6) (v := ?_) rfl rfl (by kernel_rfl) (fun _ _ _ h => h) rfl (fun x hx => ?_) ?_
  rotate_left 1
  · go_simp; first | done | with_reducible rfl | rw [if_neg (by omega)] | rw [if_pos (by omega)]
  simp only [Act.put, List.setIfInBounds_toArray, List.set_cons_zero, List.set_cons_succ]
  refine wpU_last [] (by kernel_rfl) rfl rfl ?_
  go_wp2_with fail
  go_ret3
  exact did_go (gv := .pointer (some ⟨w5.heap.size, 0, none⟩)) (HN5.out.pushAt ⟨0, k0, 0⟩ HK0.out _ rfl) (HI5.out.later ((Later.refl _).alloc _))

end Go.Proofs.Ytndefbecoahfhaa
