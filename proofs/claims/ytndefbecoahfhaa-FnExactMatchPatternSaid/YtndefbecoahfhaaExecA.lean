/- impl's execute: four of its five kinds. Printed by gen_exec.py. -/
import Derived.Test.YtndefbecoahfhaaMatchBase
namespace Go.Proofs.Ytndefbecoahfhaa
open Go.RowKit

set_option maxRecDepth 100000 in
set_option maxHeartbeats 1000000 in
theorem exec_cap {w0 w : World} {M : Nat} {dv : Value} {s : ByteArray} {n : Nat} {m : Mst} {cv ev hv : Value} {hs : List Value} {text : ByteArray} {op num lo hi : Int} {l : Nat} {A : Option Addr} {c : Nat} {fr : Int} {nv : Value} {gs : List Goal} {b : Nat} 
    (h : ImplAt w0 w M dv s n m cv ev hv hs) (hb : w.heap[b]? = some (.cells #[.int .i64 1, .int .i64 op, .string text, .int .i64 num, .int .i64 lo, .int .i64 hi, .slice A l c, .int .i64 fr, nv] TG (0, 0)))
    (hnv : GoalsAt w0 w gs nv) (hne : m.caps.length ≤ 5000) :
    Calls Try.prog 38 #[.pointer (some ⟨M, 0, none⟩), .pointer (some ⟨b, 0, none⟩)] w (Did w0 M dv s n m (.go gs (m.cap ⟨num, fr, m.at_⟩))) := by
  have hblk := h.blk
  obtain ⟨np, rfl⟩ := hnv.ptr
  obtain ⟨cA, cc, rfl, _, _⟩ := h.caps.form
  obtain ⟨eA, ec, rfl, _, _⟩ := h.evs.form
  obtain ⟨hA, hc, rfl, _, _⟩ := h.chs.form
  obtain ⟨b0, b1, b2, b3, b4, b5, b6, b7, b8⟩ := cells_g hb
  have HI := Lib.hid h
  have HN := Lib.hid hnv
  have HB := Lib.hid hb
  skip
  have hbel := h.below.size
  have hMb : ¬ M = b := ne_of_type hblk hb (by decide)
  have hbM : ¬ b = M := fun e => hMb e.symm
  clear h hnv hb hblk
  go_enter Try.func38, Try.ntmps38
  go_wp2_with fail
  clear b0 b1 b2 b3 b4 b5 b6 b7 b8
  -- region 5: 26 operations, the last [21, 22, 23, 24, 25]
  refine wpU_begin [21, 22, 23, 24, 25] [0] (by kernel_rfl) (fun w3 hw3 => ?_)
  have hl3 := drew_later hw3
  have HI3 := Lib.hid (HI.out.later hl3)
  have HN3 := Lib.hid (HN.out.later hl3)
  have HB3 := Lib.hid (hl3.has HB.out)
  clear hw3 hl3 HI HN HB
  refine wpU_pure 0 (some 21) (v := ?_) rfl rfl (by kernel_rfl) (fun _ _ _ h => h) rfl (fun x => ?_) ?_
  rotate_left 1
  · go_simp; first | done | with_reducible rfl | rw [if_neg (by omega)] | rw [if_pos (by omega)]
  simp only [Act.put, List.setIfInBounds_toArray, List.set_cons_zero, List.set_cons_succ]
  refine wpU_take 1 (some 22) (v := ?_) rfl rfl (by kernel_rfl) (fun _ _ _ h => h) rfl (fun x hx => ?_) ?_
  rotate_left 1
  · go_simp; first | done | with_reducible rfl | rw [if_neg (by omega)] | rw [if_pos (by omega)]
  simp only [Act.put, List.setIfInBounds_toArray, List.set_cons_zero, List.set_cons_succ]
  refine wpU_take 2 (some 23) (v := ?_) rfl rfl (by kernel_rfl) (fun _ _ _ h => h) rfl (fun x hx => ?_) ?_
  rotate_left 1
  · go_simp; first | done | with_reducible rfl | rw [if_neg (by omega)] | rw [if_pos (by omega)]
  simp only [Act.put, List.setIfInBounds_toArray, List.set_cons_zero, List.set_cons_succ]
  refine wpU_take 3 (some 24) (v := ?_) rfl rfl (by kernel_rfl) (fun _ _ _ h => h) rfl (fun x hx => ?_) ?_
  rotate_left 1
  · go_simp; first | done | with_reducible rfl | rw [if_neg (by omega)] | rw [if_pos (by omega)]
  simp only [Act.put, List.setIfInBounds_toArray, List.set_cons_zero, List.set_cons_succ]
  refine wpU_take 4 (some 25) (v := ?_) rfl rfl (by kernel_rfl) (fun _ _ _ h => h) rfl (fun x hx => ?_) ?_
  rotate_left 1
  · go_simp; first | done | with_reducible rfl | rw [if_neg (by omega)] | rw [if_pos (by omega)]
  simp only [Act.put, List.setIfInBounds_toArray, List.set_cons_zero, List.set_cons_succ]
  refine wpU_take 5 (some 26) (v := ?_) rfl rfl (by kernel_rfl) (fun _ _ _ h => h) rfl (fun x hx => ?_) ?_
  rotate_left 1
  · obtain ⟨m0, m1, m2, m8, m9, m10, m11⟩ := cells_m (hx.has HI3.out.blk); obtain ⟨b0, b1, b2, b3, b4, b5, b6, b7, b8⟩ := cells_g (hx.has HB3.out); go_simp; first | done | with_reducible rfl | rw [if_neg (by omega)] | rw [if_pos (by omega)]
  simp only [Act.put, List.setIfInBounds_toArray, List.set_cons_zero, List.set_cons_succ]
  refine wpU_take 6 (some 27) (v := ?_) rfl rfl (by kernel_rfl) (fun _ _ _ h => h) rfl (fun x hx => ?_) ?_
  rotate_left 1
  · go_simp; first | done | with_reducible rfl | rw [if_neg (by omega)] | rw [if_pos (by omega)]
  simp only [Act.put, List.setIfInBounds_toArray, List.set_cons_zero, List.set_cons_succ]
  refine wpU_take 7 (some 28) (v := ?_) rfl rfl (by kernel_rfl) (fun _ _ _ h => h) rfl (fun x hx => ?_) ?_
  rotate_left 1
  · go_simp; first | done | with_reducible rfl | rw [if_neg (by omega)] | rw [if_pos (by omega)]
  simp only [Act.put, List.setIfInBounds_toArray, List.set_cons_zero, List.set_cons_succ]
  refine wpU_take 8 (some 29) (v := ?_) rfl rfl (by kernel_rfl) (fun _ _ _ h => h) rfl (fun x hx => ?_) ?_
  rotate_left 1
  · go_simp; first | done | with_reducible rfl | rw [if_neg (by omega)] | rw [if_pos (by omega)]
  simp only [Act.put, List.setIfInBounds_toArray, List.set_cons_zero, List.set_cons_succ]
  refine wpU_take 9 (some 30) (v := ?_) rfl rfl (by kernel_rfl) (fun _ _ _ h => h) rfl (fun x hx => ?_) ?_
  rotate_left 1
  · go_simp; first | done | with_reducible rfl | rw [if_neg (by omega)] | rw [if_pos (by omega)]
  simp only [Act.put, List.setIfInBounds_toArray, List.set_cons_zero, List.set_cons_succ]
  refine wpU_take 10 (some 31) (v := ?_) rfl rfl (by kernel_rfl) (fun _ _ _ h => h) rfl (fun x hx => ?_) ?_
  rotate_left 1
  · obtain ⟨m0, m1, m2, m8, m9, m10, m11⟩ := cells_m (hx.has HI3.out.blk); obtain ⟨b0, b1, b2, b3, b4, b5, b6, b7, b8⟩ := cells_g (hx.has HB3.out); go_simp; first | done | with_reducible rfl | rw [if_neg (by omega)] | rw [if_pos (by omega)]
  simp only [Act.put, List.setIfInBounds_toArray, List.set_cons_zero, List.set_cons_succ]
  refine wpU_take 11 (some 32) (v := ?_) rfl rfl (by kernel_rfl) (fun _ _ _ h => h) rfl (fun x hx => ?_) ?_
  rotate_left 1
  · go_simp; first | done | with_reducible rfl | rw [if_neg (by omega)] | rw [if_pos (by omega)]
  simp only [Act.put, List.setIfInBounds_toArray, List.set_cons_zero, List.set_cons_succ]
  refine wpU_take 12 (some 33) (v := ?_) rfl rfl (by kernel_rfl) (fun _ _ _ h => h) rfl (fun x hx => ?_) ?_
  rotate_left 1
  · go_simp; first | done | with_reducible rfl | rw [if_neg (by omega)] | rw [if_pos (by omega)]
  simp only [Act.put, List.setIfInBounds_toArray, List.set_cons_zero, List.set_cons_succ]
  refine wpU_take 13 (some 34) (v := ?_) rfl rfl (by kernel_rfl) (fun _ _ _ h => h) rfl (fun x hx => ?_) ?_
  rotate_left 1
  · go_simp; first | done | with_reducible rfl | rw [if_neg (by omega)] | rw [if_pos (by omega)]
  simp only [Act.put, List.setIfInBounds_toArray, List.set_cons_zero, List.set_cons_succ]
  refine wpU_take 14 (some 35) (v := ?_) rfl rfl (by kernel_rfl) (fun _ _ _ h => h) rfl (fun x hx => ?_) ?_
  rotate_left 1
  · obtain ⟨m0, m1, m2, m8, m9, m10, m11⟩ := cells_m (hx.has HI3.out.blk); obtain ⟨b0, b1, b2, b3, b4, b5, b6, b7, b8⟩ := cells_g (hx.has HB3.out); go_simp; first | done | with_reducible rfl | rw [if_neg (by omega)] | rw [if_pos (by omega)]
  simp only [Act.put, List.setIfInBounds_toArray, List.set_cons_zero, List.set_cons_succ]
  refine wpU_take 15 (some 36) (v := ?_) rfl rfl (by kernel_rfl) (fun _ _ _ h => h) rfl (fun x hx => ?_) ?_
  rotate_left 1
  · go_simp; first | done | with_reducible rfl | rw [if_neg (by omega)] | rw [if_pos (by omega)]
  simp only [Act.put, List.setIfInBounds_toArray, List.set_cons_zero, List.set_cons_succ]
  refine wpU_take 16 (some 37) (v := ?_) rfl rfl (by kernel_rfl) (fun _ _ _ h => h) rfl (fun x hx => ?_) ?_
  rotate_left 1
  · go_simp; first | done | with_reducible rfl | rw [if_neg (by omega)] | rw [if_pos (by omega)]
  simp only [Act.put, List.setIfInBounds_toArray, List.set_cons_zero, List.set_cons_succ]
  refine wpU_take 17 (some 38) (v := ?_) rfl rfl (by kernel_rfl) (fun _ _ _ h => h) rfl (fun x hx => ?_) ?_
  rotate_left 1
  · go_simp; first | done | with_reducible rfl | rw [if_neg (by omega)] | rw [if_pos (by omega)]
  simp only [Act.put, List.setIfInBounds_toArray, List.set_cons_zero, List.set_cons_succ]
  refine wpU_take 18 (some 39) (v := ?_) rfl rfl (by kernel_rfl) (fun _ _ _ h => h) rfl (fun x hx => ?_) ?_
  rotate_left 1
  · obtain ⟨m0, m1, m2, m8, m9, m10, m11⟩ := cells_m (hx.has HI3.out.blk); obtain ⟨b0, b1, b2, b3, b4, b5, b6, b7, b8⟩ := cells_g (hx.has HB3.out); go_simp; first | done | with_reducible rfl | rw [if_neg (by omega)] | rw [if_pos (by omega)]
  simp only [Act.put, List.setIfInBounds_toArray, List.set_cons_zero, List.set_cons_succ]
  refine wpU_take 19 (some 40) (v := ?_) rfl rfl (by kernel_rfl) (fun _ _ _ h => h) rfl (fun x hx => ?_) ?_
  rotate_left 1
  · go_simp; first | done | with_reducible rfl | rw [if_neg (by omega)] | rw [if_pos (by omega)]
  simp only [Act.put, List.setIfInBounds_toArray, List.set_cons_zero, List.set_cons_succ]
  refine wpU_step 20 (by kernel_rfl) rfl rfl ?_  -- buildSlice 
  go_wp2_with fail
  refine ⟨(Later.refl _).alloc _, ?_⟩
  refine wpU_last [_, _, _, _, _] (by kernel_rfl) rfl rfl ?_
  simp only [List.getElem_toArray, List.getElem_cons_succ, List.getElem_cons_zero]
  obtain ⟨i, hi, hz0, hz1, hz2⟩ := info_parts infoK
  refine wpList_append_has _ rfl _ _ _ rfl w0.heap.size TK i _ 3 24 Try.underlying31 hi hz0 hz1 hz2 rfl _ m.caps.length (capCells m.caps) rfl ((HI3.out.later ((Later.refl _).alloc _)).caps) _ 1 1 [.int .i64 num, .int .i64 fr, .int .i64 m.at_] rfl rfl ?_ ?_ (by omega) ?_ ?_ ?_ ?_
  · exact cells_three _ _ _ _ _
  · intro u hu
    simp only [List.mem_cons, List.not_mem_nil, or_false] at hu
    rcases hu with rfl | rfl | rfl <;> rfl
  · simp only [maxLen]; omega
  · omega
  · exact (HI3.out.later ((Later.refl w3).alloc _)).below.size
  · intro v' w' hrow hgrow hblock
    obtain ⟨vA, vc, rfl, _, _⟩ := hrow.form
    have HI' := Lib.hid (HI3.out.later ((Later.refl w3).alloc (Obj.cells #[.int .i64 num, .int .i64 fr, .int .i64 m.at_] TK)))
    have HG := Lib.hid (HI'.out.grownC hgrow)
    have hM' := HG.out.1
    have hcF := (cells_m hM').2.2.2.2.1
    have hfF := frozen_of_row w' M 9 _ _ hM'
    have hkeep : KeepT TG w3 w' := (KeepT.later ((Later.refl w3).alloc _)).trans HG.out.2.2.2.2.1
    have HB4 := Lib.hid (hkeep b _ HB3.out)
    have HN4 := Lib.hid (HN3.out.keep hkeep _ _)
    have HM := Lib.hid hM'
    have HR := Lib.hid hrow
    have HA := Lib.hid (apart_new' HI'.out.evs HI'.out.apart hblock)
    obtain ⟨b0, b1, b2, b3, b4, b5, b6, b7, b8⟩ := cells_g HB4.out
    clear hM' hrow hgrow hblock hkeep
    go_wp2_with fail
    go_ret3
    exact did_go (HN4.out.keep (KeepT.set (a := ⟨M, 9, none⟩) HM.out (by decide) _) _ _) (ImplAt.set (m := m.cap ⟨num, fr, m.at_⟩) HM.out rfl HI'.out.base (by simpa [Mst.cap, capCells_append, capCells] using HR.out) HG.out.2.1 HG.out.2.2.1 HG.out.2.2.2.1 HA.out HG.out.2.2.2.2.2)

set_option maxRecDepth 100000 in
set_option maxHeartbeats 1000000 in
theorem exec_event {w0 w : World} {M : Nat} {dv : Value} {s : ByteArray} {n : Nat} {m : Mst} {cv ev hv : Value} {hs : List Value} {text : ByteArray} {op num lo hi : Int} {l : Nat} {A : Option Addr} {c : Nat} {fr : Int} {nv : Value} {gs : List Goal} {b : Nat} 
    (h : ImplAt w0 w M dv s n m cv ev hv hs) (hb : w.heap[b]? = some (.cells #[.int .i64 2, .int .i64 op, .string text, .int .i64 num, .int .i64 lo, .int .i64 hi, .slice A l c, .int .i64 fr, nv] TG (0, 0)))
    (hnv : GoalsAt w0 w gs nv) (hne : m.events.length ≤ 5000) :
    Calls Try.prog 38 #[.pointer (some ⟨M, 0, none⟩), .pointer (some ⟨b, 0, none⟩)] w (Did w0 M dv s n m (.go gs (m.event ⟨num, fr, m.at_⟩))) := by
  have hblk := h.blk
  obtain ⟨np, rfl⟩ := hnv.ptr
  obtain ⟨cA, cc, rfl, _, _⟩ := h.caps.form
  obtain ⟨eA, ec, rfl, _, _⟩ := h.evs.form
  obtain ⟨hA, hc, rfl, _, _⟩ := h.chs.form
  obtain ⟨b0, b1, b2, b3, b4, b5, b6, b7, b8⟩ := cells_g hb
  have HI := Lib.hid h
  have HN := Lib.hid hnv
  have HB := Lib.hid hb
  skip
  have hbel := h.below.size
  have hMb : ¬ M = b := ne_of_type hblk hb (by decide)
  have hbM : ¬ b = M := fun e => hMb e.symm
  clear h hnv hb hblk
  go_enter Try.func38, Try.ntmps38
  go_wp2_with fail
  clear b0 b1 b2 b3 b4 b5 b6 b7 b8
  -- region 7: 26 operations, the last [21, 22, 23, 24, 25]
  refine wpU_begin [21, 22, 23, 24, 25] [0] (by kernel_rfl) (fun w3 hw3 => ?_)
  have hl3 := drew_later hw3
  have HI3 := Lib.hid (HI.out.later hl3)
  have HN3 := Lib.hid (HN.out.later hl3)
  have HB3 := Lib.hid (hl3.has HB.out)
  clear hw3 hl3 HI HN HB
  refine wpU_pure 0 (some 48) (v := ?_) rfl rfl (by kernel_rfl) (fun _ _ _ h => h) rfl (fun x => ?_) ?_
  rotate_left 1
  · go_simp; first | done | with_reducible rfl | rw [if_neg (by omega)] | rw [if_pos (by omega)]
  simp only [Act.put, List.setIfInBounds_toArray, List.set_cons_zero, List.set_cons_succ]
  refine wpU_take 1 (some 49) (v := ?_) rfl rfl (by kernel_rfl) (fun _ _ _ h => h) rfl (fun x hx => ?_) ?_
  rotate_left 1
  · go_simp; first | done | with_reducible rfl | rw [if_neg (by omega)] | rw [if_pos (by omega)]
  simp only [Act.put, List.setIfInBounds_toArray, List.set_cons_zero, List.set_cons_succ]
  refine wpU_take 2 (some 50) (v := ?_) rfl rfl (by kernel_rfl) (fun _ _ _ h => h) rfl (fun x hx => ?_) ?_
  rotate_left 1
  · go_simp; first | done | with_reducible rfl | rw [if_neg (by omega)] | rw [if_pos (by omega)]
  simp only [Act.put, List.setIfInBounds_toArray, List.set_cons_zero, List.set_cons_succ]
  refine wpU_take 3 (some 51) (v := ?_) rfl rfl (by kernel_rfl) (fun _ _ _ h => h) rfl (fun x hx => ?_) ?_
  rotate_left 1
  · go_simp; first | done | with_reducible rfl | rw [if_neg (by omega)] | rw [if_pos (by omega)]
  simp only [Act.put, List.setIfInBounds_toArray, List.set_cons_zero, List.set_cons_succ]
  refine wpU_take 4 (some 52) (v := ?_) rfl rfl (by kernel_rfl) (fun _ _ _ h => h) rfl (fun x hx => ?_) ?_
  rotate_left 1
  · go_simp; first | done | with_reducible rfl | rw [if_neg (by omega)] | rw [if_pos (by omega)]
  simp only [Act.put, List.setIfInBounds_toArray, List.set_cons_zero, List.set_cons_succ]
  refine wpU_take 5 (some 53) (v := ?_) rfl rfl (by kernel_rfl) (fun _ _ _ h => h) rfl (fun x hx => ?_) ?_
  rotate_left 1
  · obtain ⟨m0, m1, m2, m8, m9, m10, m11⟩ := cells_m (hx.has HI3.out.blk); obtain ⟨b0, b1, b2, b3, b4, b5, b6, b7, b8⟩ := cells_g (hx.has HB3.out); go_simp; first | done | with_reducible rfl | rw [if_neg (by omega)] | rw [if_pos (by omega)]
  simp only [Act.put, List.setIfInBounds_toArray, List.set_cons_zero, List.set_cons_succ]
  refine wpU_take 6 (some 54) (v := ?_) rfl rfl (by kernel_rfl) (fun _ _ _ h => h) rfl (fun x hx => ?_) ?_
  rotate_left 1
  · go_simp; first | done | with_reducible rfl | rw [if_neg (by omega)] | rw [if_pos (by omega)]
  simp only [Act.put, List.setIfInBounds_toArray, List.set_cons_zero, List.set_cons_succ]
  refine wpU_take 7 (some 55) (v := ?_) rfl rfl (by kernel_rfl) (fun _ _ _ h => h) rfl (fun x hx => ?_) ?_
  rotate_left 1
  · go_simp; first | done | with_reducible rfl | rw [if_neg (by omega)] | rw [if_pos (by omega)]
  simp only [Act.put, List.setIfInBounds_toArray, List.set_cons_zero, List.set_cons_succ]
  refine wpU_take 8 (some 56) (v := ?_) rfl rfl (by kernel_rfl) (fun _ _ _ h => h) rfl (fun x hx => ?_) ?_
  rotate_left 1
  · go_simp; first | done | with_reducible rfl | rw [if_neg (by omega)] | rw [if_pos (by omega)]
  simp only [Act.put, List.setIfInBounds_toArray, List.set_cons_zero, List.set_cons_succ]
  refine wpU_take 9 (some 57) (v := ?_) rfl rfl (by kernel_rfl) (fun _ _ _ h => h) rfl (fun x hx => ?_) ?_
  rotate_left 1
  · go_simp; first | done | with_reducible rfl | rw [if_neg (by omega)] | rw [if_pos (by omega)]
  simp only [Act.put, List.setIfInBounds_toArray, List.set_cons_zero, List.set_cons_succ]
  refine wpU_take 10 (some 58) (v := ?_) rfl rfl (by kernel_rfl) (fun _ _ _ h => h) rfl (fun x hx => ?_) ?_
  rotate_left 1
  · obtain ⟨m0, m1, m2, m8, m9, m10, m11⟩ := cells_m (hx.has HI3.out.blk); obtain ⟨b0, b1, b2, b3, b4, b5, b6, b7, b8⟩ := cells_g (hx.has HB3.out); go_simp; first | done | with_reducible rfl | rw [if_neg (by omega)] | rw [if_pos (by omega)]
  simp only [Act.put, List.setIfInBounds_toArray, List.set_cons_zero, List.set_cons_succ]
  refine wpU_take 11 (some 59) (v := ?_) rfl rfl (by kernel_rfl) (fun _ _ _ h => h) rfl (fun x hx => ?_) ?_
  rotate_left 1
  · go_simp; first | done | with_reducible rfl | rw [if_neg (by omega)] | rw [if_pos (by omega)]
  simp only [Act.put, List.setIfInBounds_toArray, List.set_cons_zero, List.set_cons_succ]
  refine wpU_take 12 (some 60) (v := ?_) rfl rfl (by kernel_rfl) (fun _ _ _ h => h) rfl (fun x hx => ?_) ?_
  rotate_left 1
  · go_simp; first | done | with_reducible rfl | rw [if_neg (by omega)] | rw [if_pos (by omega)]
  simp only [Act.put, List.setIfInBounds_toArray, List.set_cons_zero, List.set_cons_succ]
  refine wpU_take 13 (some 61) (v := ?_) rfl rfl (by kernel_rfl) (fun _ _ _ h => h) rfl (fun x hx => ?_) ?_
  rotate_left 1
  · go_simp; first | done | with_reducible rfl | rw [if_neg (by omega)] | rw [if_pos (by omega)]
  simp only [Act.put, List.setIfInBounds_toArray, List.set_cons_zero, List.set_cons_succ]
  refine wpU_take 14 (some 62) (v := ?_) rfl rfl (by kernel_rfl) (fun _ _ _ h => h) rfl (fun x hx => ?_) ?_
  rotate_left 1
  · obtain ⟨m0, m1, m2, m8, m9, m10, m11⟩ := cells_m (hx.has HI3.out.blk); obtain ⟨b0, b1, b2, b3, b4, b5, b6, b7, b8⟩ := cells_g (hx.has HB3.out); go_simp; first | done | with_reducible rfl | rw [if_neg (by omega)] | rw [if_pos (by omega)]
  simp only [Act.put, List.setIfInBounds_toArray, List.set_cons_zero, List.set_cons_succ]
  refine wpU_take 15 (some 63) (v := ?_) rfl rfl (by kernel_rfl) (fun _ _ _ h => h) rfl (fun x hx => ?_) ?_
  rotate_left 1
  · go_simp; first | done | with_reducible rfl | rw [if_neg (by omega)] | rw [if_pos (by omega)]
  simp only [Act.put, List.setIfInBounds_toArray, List.set_cons_zero, List.set_cons_succ]
  refine wpU_take 16 (some 64) (v := ?_) rfl rfl (by kernel_rfl) (fun _ _ _ h => h) rfl (fun x hx => ?_) ?_
  rotate_left 1
  · go_simp; first | done | with_reducible rfl | rw [if_neg (by omega)] | rw [if_pos (by omega)]
  simp only [Act.put, List.setIfInBounds_toArray, List.set_cons_zero, List.set_cons_succ]
  refine wpU_take 17 (some 65) (v := ?_) rfl rfl (by kernel_rfl) (fun _ _ _ h => h) rfl (fun x hx => ?_) ?_
  rotate_left 1
  · go_simp; first | done | with_reducible rfl | rw [if_neg (by omega)] | rw [if_pos (by omega)]
  simp only [Act.put, List.setIfInBounds_toArray, List.set_cons_zero, List.set_cons_succ]
  refine wpU_take 18 (some 66) (v := ?_) rfl rfl (by kernel_rfl) (fun _ _ _ h => h) rfl (fun x hx => ?_) ?_
  rotate_left 1
  · obtain ⟨m0, m1, m2, m8, m9, m10, m11⟩ := cells_m (hx.has HI3.out.blk); obtain ⟨b0, b1, b2, b3, b4, b5, b6, b7, b8⟩ := cells_g (hx.has HB3.out); go_simp; first | done | with_reducible rfl | rw [if_neg (by omega)] | rw [if_pos (by omega)]
  simp only [Act.put, List.setIfInBounds_toArray, List.set_cons_zero, List.set_cons_succ]
  refine wpU_take 19 (some 67) (v := ?_) rfl rfl (by kernel_rfl) (fun _ _ _ h => h) rfl (fun x hx => ?_) ?_
  rotate_left 1
  · go_simp; first | done | with_reducible rfl | rw [if_neg (by omega)] | rw [if_pos (by omega)]
  simp only [Act.put, List.setIfInBounds_toArray, List.set_cons_zero, List.set_cons_succ]
  refine wpU_step 20 (by kernel_rfl) rfl rfl ?_  -- buildSlice 
  go_wp2_with fail
  refine ⟨(Later.refl _).alloc _, ?_⟩
  refine wpU_last [_, _, _, _, _] (by kernel_rfl) rfl rfl ?_
  simp only [List.getElem_toArray, List.getElem_cons_succ, List.getElem_cons_zero]
  obtain ⟨i, hi, hz0, hz1, hz2⟩ := info_parts infoK
  refine wpList_append_has _ rfl _ _ _ rfl w0.heap.size TK i _ 3 24 Try.underlying31 hi hz0 hz1 hz2 rfl _ m.events.length (capCells m.events) rfl ((HI3.out.later ((Later.refl _).alloc _)).evs) _ 1 1 [.int .i64 num, .int .i64 fr, .int .i64 m.at_] rfl rfl ?_ ?_ (by omega) ?_ ?_ ?_ ?_
  · exact cells_three _ _ _ _ _
  · intro u hu
    simp only [List.mem_cons, List.not_mem_nil, or_false] at hu
    rcases hu with rfl | rfl | rfl <;> rfl
  · simp only [maxLen]; omega
  · omega
  · exact (HI3.out.later ((Later.refl w3).alloc _)).below.size
  · intro v' w' hrow hgrow hblock
    obtain ⟨vA, vc, rfl, _, _⟩ := hrow.form
    have HI' := Lib.hid (HI3.out.later ((Later.refl w3).alloc (Obj.cells #[.int .i64 num, .int .i64 fr, .int .i64 m.at_] TK)))
    have HG := Lib.hid (HI'.out.grownE hgrow)
    have hM' := HG.out.1
    have hcF := (cells_m hM').2.2.2.2.2.1
    have hfF := frozen_of_row w' M 10 _ _ hM'
    have hkeep : KeepT TG w3 w' := (KeepT.later ((Later.refl w3).alloc _)).trans HG.out.2.2.2.2.1
    have HB4 := Lib.hid (hkeep b _ HB3.out)
    have HN4 := Lib.hid (HN3.out.keep hkeep _ _)
    have HM := Lib.hid hM'
    have HR := Lib.hid hrow
    have HA := Lib.hid (apart_new HI'.out.caps HI'.out.apart hblock)
    obtain ⟨b0, b1, b2, b3, b4, b5, b6, b7, b8⟩ := cells_g HB4.out
    clear hM' hrow hgrow hblock hkeep
    go_wp2_with fail
    go_ret3
    exact did_go (HN4.out.keep (KeepT.set (a := ⟨M, 10, none⟩) HM.out (by decide) _) _ _) (ImplAt.set (m := m.event ⟨num, fr, m.at_⟩) HM.out rfl HI'.out.base HG.out.2.1 (by simpa [Mst.event, capCells_append, capCells] using HR.out) HG.out.2.2.1 HG.out.2.2.2.1 HA.out HG.out.2.2.2.2.2)

end Go.Proofs.Ytndefbecoahfhaa
