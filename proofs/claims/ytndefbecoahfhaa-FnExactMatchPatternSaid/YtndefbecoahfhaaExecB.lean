/- impl's execute: four of its five kinds. Printed by gen_exec.py. -/
import Derived.Test.YtndefbecoahfhaaMatchBase
namespace Go.Proofs.Ytndefbecoahfhaa
open Go.RowKit

set_option maxRecDepth 100000 in
set_option maxHeartbeats 1000000 in
theorem exec_extend {w0 w : World} {M : Nat} {dv : Value} {s : ByteArray} {n : Nat} {m : Mst} {cv ev hv : Value} {hs : List Value} {text : ByteArray} {op num lo hi : Int} {k0 : Pat} {A : Option Addr} {c : Nat} {fr : Int} {nv : Value} {gs : List Goal} {b : Nat} 
    (h : ImplAt w0 w M dv s n m cv ev hv hs) (hb : w.heap[b]? = some (.cells #[.int .i64 3, .int .i64 op, .string text, .int .i64 num, .int .i64 lo, .int .i64 hi, .slice A 1 c, .int .i64 fr, nv] TG (0, 0)))
    (hkid : KidsIn w0 (.mk op text num lo hi [k0]) (.slice A 1 c)) (hnv : GoalsAt w0 w gs nv) :
    Calls Try.prog 38 #[.pointer (some ⟨M, 0, none⟩), .pointer (some ⟨b, 0, none⟩)] w (Did w0 M dv s n m (.go (⟨0, k0, 0⟩ :: ⟨4, .mk op text num lo hi [k0], m.at_⟩ :: gs) m)) := by
  have hblk := h.blk
  obtain ⟨np, rfl⟩ := hnv.ptr
  obtain ⟨cA, cc, rfl, _, _⟩ := h.caps.form
  obtain ⟨eA, ec, rfl, _, _⟩ := h.evs.form
  obtain ⟨hA, hc, rfl, _, _⟩ := h.chs.form
  obtain ⟨b0, b1, b2, b3, b4, b5, b6, b7, b8⟩ := cells_g hb
  have HI := Lib.hid h
  have HN := Lib.hid hnv
  have HB := Lib.hid hb
  have HR := Lib.hid (kids_row hkid)
  have HKID := Lib.hid hkid
  have hbel := h.below.size
  have hMb : ¬ M = b := ne_of_type hblk hb (by decide)
  have hbM : ¬ b = M := fun e => hMb e.symm
  clear h hnv hb hblk hkid
  go_enter Try.func38, Try.ntmps38
  go_wp2_with fail
  clear b0 b1 b2 b3 b4 b5 b6 b7 b8
  -- region 9: 26 operations, the last []
  refine wpU_begin [] [] (by kernel_rfl) (fun w3 hw3 => ?_)
  have hl3 := drew_later hw3
  have HI3 := Lib.hid (HI.out.later hl3)
  have HN3 := Lib.hid (HN.out.later hl3)
  have HB3 := Lib.hid (hl3.has HB.out)
  clear hw3 hl3 HI HN HB
  obtain ⟨g0, kA0, kc0, hA0, hk0, he0⟩ := kid_cells HR.out (j := 0) (by simp) HI3.out.below
  simp only [List.getElem_cons_zero] at hk0 he0
  have HK0 := Lib.hid hk0
  have HE0 := Lib.hid he0
  clear hk0 he0
  subst hA0
  refine wpU_take 0 (some 75) (v := ?_) rfl rfl (by kernel_rfl) (fun _ _ _ h => h) rfl (fun x hx => ?_) ?_
  rotate_left 1
  · go_simp; first | done | with_reducible rfl | rw [if_neg (by omega)] | rw [if_pos (by omega)]
  simp only [Act.put, List.setIfInBounds_toArray, List.set_cons_zero, List.set_cons_succ]
  refine wpU_take 1 (some 76) (v := ?_) rfl rfl (by kernel_rfl) (fun _ _ _ h => h) rfl (fun x hx => ?_) ?_
  rotate_left 1
  · go_simp; first | done | with_reducible rfl | rw [if_neg (by omega)] | rw [if_pos (by omega)]
  simp only [Act.put, List.setIfInBounds_toArray, List.set_cons_zero, List.set_cons_succ]
  refine wpU_take 2 (some 77) (v := ?_) rfl rfl (by kernel_rfl) (fun _ _ _ h => h) rfl (fun x hx => ?_) ?_
  rotate_left 1
  · go_simp; first | done | with_reducible rfl | rw [if_neg (by omega)] | rw [if_pos (by omega)]
  simp only [Act.put, List.setIfInBounds_toArray, List.set_cons_zero, List.set_cons_succ]
  refine wpU_take 3 (some 78) (v := ?_) rfl rfl (by kernel_rfl) (fun _ _ _ h => h) rfl (fun x hx => ?_) ?_
  rotate_left 1
  · go_simp; first | done | with_reducible rfl | rw [if_neg (by omega)] | rw [if_pos (by omega)]
  simp only [Act.put, List.setIfInBounds_toArray, List.set_cons_zero, List.set_cons_succ]
  refine wpU_take 4 (some 79) (v := ?_) rfl rfl (by kernel_rfl) (fun _ _ _ h => h) rfl (fun x hx => ?_) ?_
  rotate_left 1
  · obtain ⟨m0, m1, m2, m8, m9, m10, m11⟩ := cells_m (hx.has HI3.out.blk); obtain ⟨b0, b1, b2, b3, b4, b5, b6, b7, b8⟩ := cells_g (hx.has HB3.out); obtain ⟨e00, e01, e02, e03, e04, e05⟩ := HE0.out.below hx; simp only [Nat.zero_mul, Nat.zero_add] at e00 e01 e02 e03 e04 e05; go_simp; first | done | with_reducible rfl | rw [if_neg (by omega)] | rw [if_pos (by omega)]
  simp only [Act.put, List.setIfInBounds_toArray, List.set_cons_zero, List.set_cons_succ]
  refine wpU_take 5 (some 80) (v := ?_) rfl rfl (by kernel_rfl) (fun _ _ _ h => h) rfl (fun x hx => ?_) ?_
  rotate_left 1
  · go_simp; first | done | with_reducible rfl | rw [if_neg (by omega)] | rw [if_pos (by omega)]
  simp only [Act.put, List.setIfInBounds_toArray, List.set_cons_zero, List.set_cons_succ]
  refine wpU_take 6 (some 81) (v := ?_) rfl rfl (by kernel_rfl) (fun _ _ _ h => h) rfl (fun x hx => ?_) ?_
  rotate_left 1
  · obtain ⟨m0, m1, m2, m8, m9, m10, m11⟩ := cells_m (hx.has HI3.out.blk); obtain ⟨b0, b1, b2, b3, b4, b5, b6, b7, b8⟩ := cells_g (hx.has HB3.out); obtain ⟨e00, e01, e02, e03, e04, e05⟩ := HE0.out.below hx; simp only [Nat.zero_mul, Nat.zero_add] at e00 e01 e02 e03 e04 e05; go_simp; first | done | with_reducible rfl | rw [if_neg (by omega)] | rw [if_pos (by omega)]
  simp only [Act.put, List.setIfInBounds_toArray, List.set_cons_zero, List.set_cons_succ]
  refine wpU_take 7 (some 82) (v := ?_) rfl rfl (by kernel_rfl) (fun _ _ _ h => h) rfl (fun x hx => ?_) ?_
  rotate_left 1
  · go_simp; first | done | with_reducible rfl | rw [if_neg (by omega)] | rw [if_pos (by omega)]
  simp only [Act.put, List.setIfInBounds_toArray, List.set_cons_zero, List.set_cons_succ]
  refine wpU_take 8 (some 83) (v := ?_) rfl rfl (by kernel_rfl) (fun _ _ _ h => h) rfl (fun x hx => ?_) ?_
  rotate_left 1
  · go_simp; first | done | with_reducible rfl | rw [if_neg (by omega)] | rw [if_pos (by omega)]
  simp only [Act.put, List.setIfInBounds_toArray, List.set_cons_zero, List.set_cons_succ]
  refine wpU_take 9 (some 84) (v := ?_) rfl rfl (by kernel_rfl) (fun _ _ _ h => h) rfl (fun x hx => ?_) ?_
  rotate_left 1
  · go_simp; first | done | with_reducible rfl | rw [if_neg (by omega)] | rw [if_pos (by omega)]
  simp only [Act.put, List.setIfInBounds_toArray, List.set_cons_zero, List.set_cons_succ]
  refine wpU_take 10 (some 85) (v := ?_) rfl rfl (by kernel_rfl) (fun _ _ _ h => h) rfl (fun x hx => ?_) ?_
  rotate_left 1
  · obtain ⟨m0, m1, m2, m8, m9, m10, m11⟩ := cells_m (hx.has HI3.out.blk); obtain ⟨b0, b1, b2, b3, b4, b5, b6, b7, b8⟩ := cells_g (hx.has HB3.out); obtain ⟨e00, e01, e02, e03, e04, e05⟩ := HE0.out.below hx; simp only [Nat.zero_mul, Nat.zero_add] at e00 e01 e02 e03 e04 e05; go_simp; first | done | with_reducible rfl | rw [if_neg (by omega)] | rw [if_pos (by omega)]
  simp only [Act.put, List.setIfInBounds_toArray, List.set_cons_zero, List.set_cons_succ]
  refine wpU_take 11 (some 86) (v := ?_) rfl rfl (by kernel_rfl) (fun _ _ _ h => h) rfl (fun x hx => ?_) ?_
  rotate_left 1
  · go_simp; first | done | with_reducible rfl | rw [if_neg (by omega)] | rw [if_pos (by omega)]
  simp only [Act.put, List.setIfInBounds_toArray, List.set_cons_zero, List.set_cons_succ]
  refine wpU_take 12 (some 87) (v := ?_) rfl rfl (by kernel_rfl) (fun _ _ _ h => h) rfl (fun x hx => ?_) ?_
  rotate_left 1
  · go_simp; first | done | with_reducible rfl | rw [if_neg (by omega)] | rw [if_pos (by omega)]
  simp only [Act.put, List.setIfInBounds_toArray, List.set_cons_zero, List.set_cons_succ]
  refine wpU_take 13 (some 88) (v := ?_) rfl rfl (by kernel_rfl) (fun _ _ _ h => h) rfl (fun x hx => ?_) ?_
  rotate_left 1
  · go_simp; first | done | with_reducible rfl | rw [if_neg (by omega)] | rw [if_pos (by omega)]
  simp only [Act.put, List.setIfInBounds_toArray, List.set_cons_zero, List.set_cons_succ]
  refine wpU_take 14 (some 89) (v := ?_) rfl rfl (by kernel_rfl) (fun _ _ _ h => h) rfl (fun x hx => ?_) ?_
  rotate_left 1
  · obtain ⟨m0, m1, m2, m8, m9, m10, m11⟩ := cells_m (hx.has HI3.out.blk); obtain ⟨b0, b1, b2, b3, b4, b5, b6, b7, b8⟩ := cells_g (hx.has HB3.out); obtain ⟨e00, e01, e02, e03, e04, e05⟩ := HE0.out.below hx; simp only [Nat.zero_mul, Nat.zero_add] at e00 e01 e02 e03 e04 e05; go_simp; first | done | with_reducible rfl | rw [if_neg (by omega)] | rw [if_pos (by omega)]
  simp only [Act.put, List.setIfInBounds_toArray, List.set_cons_zero, List.set_cons_succ]
  refine wpU_take 15 (some 90) (v := ?_) rfl rfl (by kernel_rfl) (fun _ _ _ h => h) rfl (fun x hx => ?_) ?_
  rotate_left 1
  · go_simp; first | done | with_reducible rfl | rw [if_neg (by omega)] | rw [if_pos (by omega)]
  simp only [Act.put, List.setIfInBounds_toArray, List.set_cons_zero, List.set_cons_succ]
  refine wpU_take 16 (some 91) (v := ?_) rfl rfl (by kernel_rfl) (fun _ _ _ h => h) rfl (fun x hx => ?_) ?_
  rotate_left 1
  · go_simp; first | done | with_reducible rfl | rw [if_neg (by omega)] | rw [if_pos (by omega)]
  simp only [Act.put, List.setIfInBounds_toArray, List.set_cons_zero, List.set_cons_succ]
  refine wpU_take 17 (some 92) (v := ?_) rfl rfl (by kernel_rfl) (fun _ _ _ h => h) rfl (fun x hx => ?_) ?_
  rotate_left 1
  · go_simp; first | done | with_reducible rfl | rw [if_neg (by omega)] | rw [if_pos (by omega)]
  simp only [Act.put, List.setIfInBounds_toArray, List.set_cons_zero, List.set_cons_succ]
  refine wpU_take 18 (some 93) (v := ?_) rfl rfl (by kernel_rfl) (fun _ _ _ h => h) rfl (fun x hx => ?_) ?_
  rotate_left 1
  · obtain ⟨m0, m1, m2, m8, m9, m10, m11⟩ := cells_m (hx.has HI3.out.blk); obtain ⟨b0, b1, b2, b3, b4, b5, b6, b7, b8⟩ := cells_g (hx.has HB3.out); obtain ⟨e00, e01, e02, e03, e04, e05⟩ := HE0.out.below hx; simp only [Nat.zero_mul, Nat.zero_add] at e00 e01 e02 e03 e04 e05; go_simp; first | done | with_reducible rfl | rw [if_neg (by omega)] | rw [if_pos (by omega)]
  simp only [Act.put, List.setIfInBounds_toArray, List.set_cons_zero, List.set_cons_succ]
  refine wpU_take 19 (some 94) (v := ?_) rfl rfl (by kernel_rfl) (fun _ _ _ h => h) rfl (fun x hx => ?_) ?_
  rotate_left 1
  · go_simp; first | done | with_reducible rfl | rw [if_neg (by omega)] | rw [if_pos (by omega)]
  simp only [Act.put, List.setIfInBounds_toArray, List.set_cons_zero, List.set_cons_succ]
  refine wpU_step 20 (by kernel_rfl) rfl rfl ?_  -- box 
  go_wp2_with fail
  refine ⟨(Later.refl _).alloc _, ?_⟩
  refine wpU_take 21 (some 96) (v := ?_) rfl rfl (by kernel_rfl) (fun _ _ _ h => h) rfl (fun x hx => ?_) ?_
  rotate_left 1
  · go_simp; first | done | with_reducible rfl | rw [if_neg (by omega)] | rw [if_pos (by omega)]
  simp only [Act.put, List.setIfInBounds_toArray, List.set_cons_zero, List.set_cons_succ]
  refine wpU_step 22 (by kernel_rfl) rfl rfl ?_  -- box 
  go_wp2_with fail
  refine ⟨(Later.refl _).alloc _, ?_⟩
  refine wpU_take 23 (some 4) (v := ?_) rfl rfl (by kernel_rfl) (fun _ _ _ h => h) rfl (fun x hx => ?_) ?_
  rotate_left 1
  · go_simp; first | done | with_reducible rfl | rw [if_neg (by omega)] | rw [if_pos (by omega)]
  simp only [Act.put, List.setIfInBounds_toArray, List.set_cons_zero, List.set_cons_succ]
  refine wpU_take 24 (some 5) (v := ?_) rfl rfl (by kernel_rfl) (fun _ _ _ h => h) rfl (fun x hx => ?_) ?_
  rotate_left 1
  · go_simp; first | done | with_reducible rfl | rw [if_neg (by omega)] | rw [if_pos (by omega)]
  simp only [Act.put, List.setIfInBounds_toArray, List.set_cons_zero, List.set_cons_succ]
  refine wpU_take 25 (some 6) (v := ?_) rfl rfl (by kernel_rfl) (fun _ _ _ h => h) rfl (fun x hx => ?_) ?_
  rotate_left 1
  · go_simp; first | done | with_reducible rfl | rw [if_neg (by omega)] | rw [if_pos (by omega)]
  simp only [Act.put, List.setIfInBounds_toArray, List.set_cons_zero, List.set_cons_succ]
  refine wpU_last [] (by kernel_rfl) rfl rfl ?_
  go_wp2_with fail
  go_ret3
  exact did_go (gv := .pointer (some ⟨w3.heap.size + 1, 0, none⟩)) ((HN3.out.push ⟨4, .mk op text num lo hi [k0], m.at_⟩ HKID.out).pushAt ⟨0, k0, 0⟩ HK0.out _ (by simp)) (HI3.out.later (((Later.refl _).alloc _).alloc _))

set_option maxRecDepth 100000 in
set_option maxHeartbeats 1000000 in
theorem exec_check_go {w0 w : World} {M : Nat} {dv : Value} {s : ByteArray} {n : Nat} {m : Mst} {cv ev hv : Value} {hs : List Value} {text : ByteArray} {op num lo hi : Int} {l : Nat} {kids : List Pat} {A : Option Addr} {c : Nat} {fr : Int} {nv : Value} {gs : List Goal} {b : Nat} 
    (h : ImplAt w0 w M dv s n m cv ev hv hs) (hb : w.heap[b]? = some (.cells #[.int .i64 4, .int .i64 op, .string text, .int .i64 num, .int .i64 lo, .int .i64 hi, .slice A l c, .int .i64 fr, nv] TG (0, 0)))
    (hkid : KidsIn w0 (.mk op text num lo hi kids) (.slice A l c)) (hnv : GoalsAt w0 w gs nv) (hne : ((m.at_ : Int) != fr) = true) :
    Calls Try.prog 38 #[.pointer (some ⟨M, 0, none⟩), .pointer (some ⟨b, 0, none⟩)] w (Did w0 M dv s n m (.go (⟨0, .mk op text num lo hi kids, 0⟩ :: gs) m)) := by
  have hblk := h.blk
  obtain ⟨np, rfl⟩ := hnv.ptr
  obtain ⟨cA, cc, rfl, _, _⟩ := h.caps.form
  obtain ⟨eA, ec, rfl, _, _⟩ := h.evs.form
  obtain ⟨hA, hc, rfl, _, _⟩ := h.chs.form
  obtain ⟨b0, b1, b2, b3, b4, b5, b6, b7, b8⟩ := cells_g hb
  have HI := Lib.hid h
  have HN := Lib.hid hnv
  have HB := Lib.hid hb
  have HR := Lib.hid (kids_row hkid)
  have HKID := Lib.hid hkid
  have hbel := h.below.size
  have hMb : ¬ M = b := ne_of_type hblk hb (by decide)
  have hbM : ¬ b = M := fun e => hMb e.symm
  clear h hnv hb hblk hkid
  go_enter Try.func38, Try.ntmps38
  go_wp2_with fail
  clear b0 b1 b2 b3 b4 b5 b6 b7 b8
  -- region 11: 22 operations, the last []
  refine wpU_begin [] [] (by kernel_rfl) (fun w3 hw3 => ?_)
  have hl3 := drew_later hw3
  have HI3 := Lib.hid (HI.out.later hl3)
  have HN3 := Lib.hid (HN.out.later hl3)
  have HB3 := Lib.hid (hl3.has HB.out)
  clear hw3 hl3 HI HN HB
  refine wpU_take 0 (some 100) (v := ?_) rfl rfl (by kernel_rfl) (fun _ _ _ h => h) rfl (fun x hx => ?_) ?_
  rotate_left 1
  · go_simp; first | done | with_reducible rfl | rw [if_neg (by omega)] | rw [if_pos (by omega)]
  simp only [Act.put, List.setIfInBounds_toArray, List.set_cons_zero, List.set_cons_succ]
  refine wpU_take 1 (some 101) (v := ?_) rfl rfl (by kernel_rfl) (fun _ _ _ h => h) rfl (fun x hx => ?_) ?_
  rotate_left 1
  · go_simp; first | done | with_reducible rfl | rw [if_neg (by omega)] | rw [if_pos (by omega)]
  simp only [Act.put, List.setIfInBounds_toArray, List.set_cons_zero, List.set_cons_succ]
  refine wpU_take 2 (some 102) (v := ?_) rfl rfl (by kernel_rfl) (fun _ _ _ h => h) rfl (fun x hx => ?_) ?_
  rotate_left 1
  · go_simp; first | done | with_reducible rfl | rw [if_neg (by omega)] | rw [if_pos (by omega)]
  simp only [Act.put, List.setIfInBounds_toArray, List.set_cons_zero, List.set_cons_succ]
  refine wpU_take 3 (some 103) (v := ?_) rfl rfl (by kernel_rfl) (fun _ _ _ h => h) rfl (fun x hx => ?_) ?_
  rotate_left 1
  · obtain ⟨m0, m1, m2, m8, m9, m10, m11⟩ := cells_m (hx.has HI3.out.blk); obtain ⟨b0, b1, b2, b3, b4, b5, b6, b7, b8⟩ := cells_g (hx.has HB3.out); go_simp; first | done | with_reducible rfl | rw [if_neg (by omega)] | rw [if_pos (by omega)]
  simp only [Act.put, List.setIfInBounds_toArray, List.set_cons_zero, List.set_cons_succ]
  refine wpU_take 4 (some 104) (v := ?_) rfl rfl (by kernel_rfl) (fun _ _ _ h => h) rfl (fun x hx => ?_) ?_
  rotate_left 1
  · go_simp; first | done | with_reducible rfl | rw [if_neg (by omega)] | rw [if_pos (by omega)]
  simp only [Act.put, List.setIfInBounds_toArray, List.set_cons_zero, List.set_cons_succ]
  refine wpU_take 5 (some 105) (v := ?_) rfl rfl (by kernel_rfl) (fun _ _ _ h => h) rfl (fun x hx => ?_) ?_
  rotate_left 1
  · go_simp; first | done | with_reducible rfl | rw [if_neg (by omega)] | rw [if_pos (by omega)]
  simp only [Act.put, List.setIfInBounds_toArray, List.set_cons_zero, List.set_cons_succ]
  refine wpU_take 6 (some 106) (v := ?_) rfl rfl (by kernel_rfl) (fun _ _ _ h => h) rfl (fun x hx => ?_) ?_
  rotate_left 1
  · go_simp; first | done | with_reducible rfl | rw [if_neg (by omega)] | rw [if_pos (by omega)]
  simp only [Act.put, List.setIfInBounds_toArray, List.set_cons_zero, List.set_cons_succ]
  refine wpU_take 7 (some 107) (v := ?_) rfl rfl (by kernel_rfl) (fun _ _ _ h => h) rfl (fun x hx => ?_) ?_
  rotate_left 1
  · obtain ⟨m0, m1, m2, m8, m9, m10, m11⟩ := cells_m (hx.has HI3.out.blk); obtain ⟨b0, b1, b2, b3, b4, b5, b6, b7, b8⟩ := cells_g (hx.has HB3.out); go_simp; first | done | with_reducible rfl | rw [if_neg (by omega)] | rw [if_pos (by omega)]
  simp only [Act.put, List.setIfInBounds_toArray, List.set_cons_zero, List.set_cons_succ]
  refine wpU_take 8 (some 108) (v := ?_) rfl rfl (by kernel_rfl) (fun _ _ _ h => h) rfl (fun x hx => ?_) ?_
  rotate_left 1
  · go_simp; first | done | with_reducible rfl | rw [if_neg (by omega)] | rw [if_pos (by omega)]
  simp only [Act.put, List.setIfInBounds_toArray, List.set_cons_zero, List.set_cons_succ]
  refine wpU_take 10 (some 110) (v := ?_) rfl rfl (by kernel_rfl) (fun _ _ _ h => h) rfl (fun x hx => ?_) ?_
  rotate_left 1
  · go_simp; first | done | with_reducible rfl | rw [if_neg (by omega)] | rw [if_pos (by omega)]
  simp only [Act.put, List.setIfInBounds_toArray, List.set_cons_zero, List.set_cons_succ]
  refine wpU_take 11 (some 111) (v := ?_) rfl rfl (by kernel_rfl) (fun _ _ _ h => h) rfl (fun x hx => ?_) ?_
  rotate_left 1
  · go_simp; first | done | with_reducible rfl | rw [if_neg (by omega)] | rw [if_pos (by omega)]
  simp only [Act.put, List.setIfInBounds_toArray, List.set_cons_zero, List.set_cons_succ]
  refine wpU_take 12 (some 112) (v := ?_) rfl rfl (by kernel_rfl) (fun _ _ _ h => h) rfl (fun x hx => ?_) ?_
  rotate_left 1
  · go_simp; first | done | with_reducible rfl | rw [if_neg (by omega)] | rw [if_pos (by omega)]
  simp only [Act.put, List.setIfInBounds_toArray, List.set_cons_zero, List.set_cons_succ]
  refine wpU_take 13 (some 113) (v := ?_) rfl rfl (by kernel_rfl) (fun _ _ _ h => h) rfl (fun x hx => ?_) ?_
  rotate_left 1
  · obtain ⟨m0, m1, m2, m8, m9, m10, m11⟩ := cells_m (hx.has HI3.out.blk); obtain ⟨b0, b1, b2, b3, b4, b5, b6, b7, b8⟩ := cells_g (hx.has HB3.out); go_simp; first | done | with_reducible rfl | rw [if_neg (by omega)] | rw [if_pos (by omega)]
  simp only [Act.put, List.setIfInBounds_toArray, List.set_cons_zero, List.set_cons_succ]
  refine wpU_take 14 (some 114) (v := ?_) rfl rfl (by kernel_rfl) (fun _ _ _ h => h) rfl (fun x hx => ?_) ?_
  rotate_left 1
  · go_simp; first | done | with_reducible rfl | rw [if_neg (by omega)] | rw [if_pos (by omega)]
  simp only [Act.put, List.setIfInBounds_toArray, List.set_cons_zero, List.set_cons_succ]
  refine wpU_take 15 (some 115) (v := ?_) rfl rfl (by kernel_rfl) (fun _ _ _ h => h) rfl (fun x hx => ?_) ?_
  rotate_left 1
  · go_simp; first | done | with_reducible rfl | rw [if_neg (by omega)] | rw [if_pos (by omega)]
  simp only [Act.put, List.setIfInBounds_toArray, List.set_cons_zero, List.set_cons_succ]
  refine wpU_take 16 (some 116) (v := ?_) rfl rfl (by kernel_rfl) (fun _ _ _ h => h) rfl (fun x hx => ?_) ?_
  rotate_left 1
  · go_simp; first | done | with_reducible rfl | rw [if_neg (by omega)] | rw [if_pos (by omega)]
  simp only [Act.put, List.setIfInBounds_toArray, List.set_cons_zero, List.set_cons_succ]
  refine wpU_take 17 (some 117) (v := ?_) rfl rfl (by kernel_rfl) (fun _ _ _ h => h) rfl (fun x hx => ?_) ?_
  rotate_left 1
  · obtain ⟨m0, m1, m2, m8, m9, m10, m11⟩ := cells_m (hx.has HI3.out.blk); obtain ⟨b0, b1, b2, b3, b4, b5, b6, b7, b8⟩ := cells_g (hx.has HB3.out); go_simp; first | done | with_reducible rfl | rw [if_neg (by omega)] | rw [if_pos (by omega)]
  simp only [Act.put, List.setIfInBounds_toArray, List.set_cons_zero, List.set_cons_succ]
  refine wpU_take 18 (some 118) (v := ?_) rfl rfl (by kernel_rfl) (fun _ _ _ h => h) rfl (fun x hx => ?_) ?_
  rotate_left 1
  · go_simp; first | done | with_reducible rfl | rw [if_neg (by omega)] | rw [if_pos (by omega)]
  simp only [Act.put, List.setIfInBounds_toArray, List.set_cons_zero, List.set_cons_succ]
  refine wpU_step 9 (by kernel_rfl) rfl rfl ?_  -- box 
  go_wp2_with fail
  refine ⟨(Later.refl _).alloc _, ?_⟩
  refine wpU_take 19 (some 4) (v := ?_) rfl rfl (by kernel_rfl) (fun _ _ _ h => h) rfl (fun x hx => ?_) ?_
  rotate_left 1
  · go_simp; first | done | with_reducible rfl | rw [if_neg (by omega)] | rw [if_pos (by omega)]
  simp only [Act.put, List.setIfInBounds_toArray, List.set_cons_zero, List.set_cons_succ]
  refine wpU_take 20 (some 5) (v := ?_) rfl rfl (by kernel_rfl) (fun _ _ _ h => h) rfl (fun x hx => ?_) ?_
  rotate_left 1
  · go_simp; first | done | with_reducible rfl | rw [if_neg (by omega)] | rw [if_pos (by omega)]
  simp only [Act.put, List.setIfInBounds_toArray, List.set_cons_zero, List.set_cons_succ]
  refine wpU_take 21 (some 6) (v := ?_) rfl rfl (by kernel_rfl) (fun _ _ _ h => h) rfl (fun x hx => ?_) ?_
  rotate_left 1
  · go_simp; first | done | with_reducible rfl | rw [if_neg (by omega)] | rw [if_pos (by omega)]
  simp only [Act.put, List.setIfInBounds_toArray, List.set_cons_zero, List.set_cons_succ]
  refine wpU_last [] (by kernel_rfl) rfl rfl ?_
  go_wp2_with fail
  go_ret3
  exact did_go (gv := .pointer (some ⟨w3.heap.size, 0, none⟩)) (HN3.out.pushAt ⟨0, .mk op text num lo hi kids, 0⟩ HKID.out _ rfl) (HI3.out.later ((Later.refl _).alloc _))

set_option maxRecDepth 100000 in
set_option maxHeartbeats 1000000 in
theorem exec_check_fail {w0 w : World} {M : Nat} {dv : Value} {s : ByteArray} {n : Nat} {m : Mst} {cv ev hv : Value} {hs : List Value} {text : ByteArray} {op num lo hi : Int} {l : Nat} {kids : List Pat} {A : Option Addr} {c : Nat} {fr : Int} {nv : Value} {gs : List Goal} {b : Nat} 
    (h : ImplAt w0 w M dv s n m cv ev hv hs) (hb : w.heap[b]? = some (.cells #[.int .i64 4, .int .i64 op, .string text, .int .i64 num, .int .i64 lo, .int .i64 hi, .slice A l c, .int .i64 fr, nv] TG (0, 0)))
    (hkid : KidsIn w0 (.mk op text num lo hi kids) (.slice A l c)) (hnv : GoalsAt w0 w gs nv) (hne : ((m.at_ : Int) != fr) = false) :
    Calls Try.prog 38 #[.pointer (some ⟨M, 0, none⟩), .pointer (some ⟨b, 0, none⟩)] w (Did w0 M dv s n m (.fail)) := by
  have hblk := h.blk
  obtain ⟨np, rfl⟩ := hnv.ptr
  obtain ⟨cA, cc, rfl, _, _⟩ := h.caps.form
  obtain ⟨eA, ec, rfl, _, _⟩ := h.evs.form
  obtain ⟨hA, hc, rfl, _, _⟩ := h.chs.form
  obtain ⟨b0, b1, b2, b3, b4, b5, b6, b7, b8⟩ := cells_g hb
  have HI := Lib.hid h
  have HN := Lib.hid hnv
  have HB := Lib.hid hb
  have HR := Lib.hid (kids_row hkid)
  have HKID := Lib.hid hkid
  have hbel := h.below.size
  have hMb : ¬ M = b := ne_of_type hblk hb (by decide)
  have hbM : ¬ b = M := fun e => hMb e.symm
  clear h hnv hb hblk hkid
  go_enter Try.func38, Try.ntmps38
  go_wp2_with fail
  clear b0 b1 b2 b3 b4 b5 b6 b7 b8
  -- region 11: 22 operations, the last []
  refine wpU_begin [] [] (by kernel_rfl) (fun w3 hw3 => ?_)
  have hl3 := drew_later hw3
  have HI3 := Lib.hid (HI.out.later hl3)
  have HN3 := Lib.hid (HN.out.later hl3)
  have HB3 := Lib.hid (hl3.has HB.out)
  clear hw3 hl3 HI HN HB
  refine wpU_take 0 (some 100) (v := ?_) rfl rfl (by kernel_rfl) (fun _ _ _ h => h) rfl (fun x hx => ?_) ?_
  rotate_left 1
  · go_simp; first | done | with_reducible rfl | rw [if_neg (by omega)] | rw [if_pos (by omega)]
  simp only [Act.put, List.setIfInBounds_toArray, List.set_cons_zero, List.set_cons_succ]
  refine wpU_take 1 (some 101) (v := ?_) rfl rfl (by kernel_rfl) (fun _ _ _ h => h) rfl (fun x hx => ?_) ?_
  rotate_left 1
  · go_simp; first | done | with_reducible rfl | rw [if_neg (by omega)] | rw [if_pos (by omega)]
  simp only [Act.put, List.setIfInBounds_toArray, List.set_cons_zero, List.set_cons_succ]
  refine wpU_take 2 (some 102) (v := ?_) rfl rfl (by kernel_rfl) (fun _ _ _ h => h) rfl (fun x hx => ?_) ?_
  rotate_left 1
  · go_simp; first | done | with_reducible rfl | rw [if_neg (by omega)] | rw [if_pos (by omega)]
  simp only [Act.put, List.setIfInBounds_toArray, List.set_cons_zero, List.set_cons_succ]
  refine wpU_take 3 (some 103) (v := ?_) rfl rfl (by kernel_rfl) (fun _ _ _ h => h) rfl (fun x hx => ?_) ?_
  rotate_left 1
  · obtain ⟨m0, m1, m2, m8, m9, m10, m11⟩ := cells_m (hx.has HI3.out.blk); obtain ⟨b0, b1, b2, b3, b4, b5, b6, b7, b8⟩ := cells_g (hx.has HB3.out); go_simp; first | done | with_reducible rfl | rw [if_neg (by omega)] | rw [if_pos (by omega)]
  simp only [Act.put, List.setIfInBounds_toArray, List.set_cons_zero, List.set_cons_succ]
  refine wpU_take 4 (some 104) (v := ?_) rfl rfl (by kernel_rfl) (fun _ _ _ h => h) rfl (fun x hx => ?_) ?_
  rotate_left 1
  · go_simp; first | done | with_reducible rfl | rw [if_neg (by omega)] | rw [if_pos (by omega)]
  simp only [Act.put, List.setIfInBounds_toArray, List.set_cons_zero, List.set_cons_succ]
  refine wpU_take 5 (some 105) (v := ?_) rfl rfl (by kernel_rfl) (fun _ _ _ h => h) rfl (fun x hx => ?_) ?_
  rotate_left 1
  · go_simp; first | done | with_reducible rfl | rw [if_neg (by omega)] | rw [if_pos (by omega)]
  simp only [Act.put, List.setIfInBounds_toArray, List.set_cons_zero, List.set_cons_succ]
  refine wpU_take 6 (some 106) (v := ?_) rfl rfl (by kernel_rfl) (fun _ _ _ h => h) rfl (fun x hx => ?_) ?_
  rotate_left 1
  · go_simp; first | done | with_reducible rfl | rw [if_neg (by omega)] | rw [if_pos (by omega)]
  simp only [Act.put, List.setIfInBounds_toArray, List.set_cons_zero, List.set_cons_succ]
  refine wpU_take 7 (some 107) (v := ?_) rfl rfl (by kernel_rfl) (fun _ _ _ h => h) rfl (fun x hx => ?_) ?_
  rotate_left 1
  · obtain ⟨m0, m1, m2, m8, m9, m10, m11⟩ := cells_m (hx.has HI3.out.blk); obtain ⟨b0, b1, b2, b3, b4, b5, b6, b7, b8⟩ := cells_g (hx.has HB3.out); go_simp; first | done | with_reducible rfl | rw [if_neg (by omega)] | rw [if_pos (by omega)]
  simp only [Act.put, List.setIfInBounds_toArray, List.set_cons_zero, List.set_cons_succ]
  refine wpU_take 8 (some 108) (v := ?_) rfl rfl (by kernel_rfl) (fun _ _ _ h => h) rfl (fun x hx => ?_) ?_
  rotate_left 1
  · go_simp; first | done | with_reducible rfl | rw [if_neg (by omega)] | rw [if_pos (by omega)]
  simp only [Act.put, List.setIfInBounds_toArray, List.set_cons_zero, List.set_cons_succ]
  refine wpU_take 10 (some 110) (v := ?_) rfl rfl (by kernel_rfl) (fun _ _ _ h => h) rfl (fun x hx => ?_) ?_
  rotate_left 1
  · go_simp; first | done | with_reducible rfl | rw [if_neg (by omega)] | rw [if_pos (by omega)]
  simp only [Act.put, List.setIfInBounds_toArray, List.set_cons_zero, List.set_cons_succ]
  refine wpU_take 11 (some 111) (v := ?_) rfl rfl (by kernel_rfl) (fun _ _ _ h => h) rfl (fun x hx => ?_) ?_
  rotate_left 1
  · go_simp; first | done | with_reducible rfl | rw [if_neg (by omega)] | rw [if_pos (by omega)]
  simp only [Act.put, List.setIfInBounds_toArray, List.set_cons_zero, List.set_cons_succ]
  refine wpU_take 12 (some 112) (v := ?_) rfl rfl (by kernel_rfl) (fun _ _ _ h => h) rfl (fun x hx => ?_) ?_
  rotate_left 1
  · go_simp; first | done | with_reducible rfl | rw [if_neg (by omega)] | rw [if_pos (by omega)]
  simp only [Act.put, List.setIfInBounds_toArray, List.set_cons_zero, List.set_cons_succ]
  refine wpU_take 13 (some 113) (v := ?_) rfl rfl (by kernel_rfl) (fun _ _ _ h => h) rfl (fun x hx => ?_) ?_
  rotate_left 1
  · obtain ⟨m0, m1, m2, m8, m9, m10, m11⟩ := cells_m (hx.has HI3.out.blk); obtain ⟨b0, b1, b2, b3, b4, b5, b6, b7, b8⟩ := cells_g (hx.has HB3.out); go_simp; first | done | with_reducible rfl | rw [if_neg (by omega)] | rw [if_pos (by omega)]
  simp only [Act.put, List.setIfInBounds_toArray, List.set_cons_zero, List.set_cons_succ]
  refine wpU_take 14 (some 114) (v := ?_) rfl rfl (by kernel_rfl) (fun _ _ _ h => h) rfl (fun x hx => ?_) ?_
  rotate_left 1
  · go_simp; first | done | with_reducible rfl | rw [if_neg (by omega)] | rw [if_pos (by omega)]
  simp only [Act.put, List.setIfInBounds_toArray, List.set_cons_zero, List.set_cons_succ]
  refine wpU_take 15 (some 115) (v := ?_) rfl rfl (by kernel_rfl) (fun _ _ _ h => h) rfl (fun x hx => ?_) ?_
  rotate_left 1
  · go_simp; first | done | with_reducible rfl | rw [if_neg (by omega)] | rw [if_pos (by omega)]
  simp only [Act.put, List.setIfInBounds_toArray, List.set_cons_zero, List.set_cons_succ]
  refine wpU_take 16 (some 116) (v := ?_) rfl rfl (by kernel_rfl) (fun _ _ _ h => h) rfl (fun x hx => ?_) ?_
  rotate_left 1
  · go_simp; first | done | with_reducible rfl | rw [if_neg (by omega)] | rw [if_pos (by omega)]
  simp only [Act.put, List.setIfInBounds_toArray, List.set_cons_zero, List.set_cons_succ]
  refine wpU_take 17 (some 117) (v := ?_) rfl rfl (by kernel_rfl) (fun _ _ _ h => h) rfl (fun x hx => ?_) ?_
  rotate_left 1
  · obtain ⟨m0, m1, m2, m8, m9, m10, m11⟩ := cells_m (hx.has HI3.out.blk); obtain ⟨b0, b1, b2, b3, b4, b5, b6, b7, b8⟩ := cells_g (hx.has HB3.out); go_simp; first | done | with_reducible rfl | rw [if_neg (by omega)] | rw [if_pos (by omega)]
  simp only [Act.put, List.setIfInBounds_toArray, List.set_cons_zero, List.set_cons_succ]
  refine wpU_take 18 (some 118) (v := ?_) rfl rfl (by kernel_rfl) (fun _ _ _ h => h) rfl (fun x hx => ?_) ?_
  rotate_left 1
  · go_simp; first | done | with_reducible rfl | rw [if_neg (by omega)] | rw [if_pos (by omega)]
  simp only [Act.put, List.setIfInBounds_toArray, List.set_cons_zero, List.set_cons_succ]
  refine wpU_step 9 (by kernel_rfl) rfl rfl ?_  -- box 
  go_wp2_with fail
  refine ⟨(Later.refl _).alloc _, ?_⟩
  refine wpU_take 19 (some 4) (v := ?_) rfl rfl (by kernel_rfl) (fun _ _ _ h => h) rfl (fun x hx => ?_) ?_
  rotate_left 1
  · go_simp; first | done | with_reducible rfl | rw [if_neg (by omega)] | rw [if_pos (by omega)]
  simp only [Act.put, List.setIfInBounds_toArray, List.set_cons_zero, List.set_cons_succ]
  refine wpU_take 20 (some 5) (v := ?_) rfl rfl (by kernel_rfl) (fun _ _ _ h => h) rfl (fun x hx => ?_) ?_
  rotate_left 1
  · go_simp; first | done | with_reducible rfl | rw [if_neg (by omega)] | rw [if_pos (by omega)]
  simp only [Act.put, List.setIfInBounds_toArray, List.set_cons_zero, List.set_cons_succ]
  refine wpU_take 21 (some 6) (v := ?_) rfl rfl (by kernel_rfl) (fun _ _ _ h => h) rfl (fun x hx => ?_) ?_
  rotate_left 1
  · go_simp; first | done | with_reducible rfl | rw [if_neg (by omega)] | rw [if_pos (by omega)]
  simp only [Act.put, List.setIfInBounds_toArray, List.set_cons_zero, List.set_cons_succ]
  refine wpU_last [] (by kernel_rfl) rfl rfl ?_
  go_wp2_with fail
  go_ret3
  exact did_fail (p := some ⟨w3.heap.size, 0, none⟩) (HI3.out.later ((Later.refl _).alloc _))

end Go.Proofs.Ytndefbecoahfhaa
