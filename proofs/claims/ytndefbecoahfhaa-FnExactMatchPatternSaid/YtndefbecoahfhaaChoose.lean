/- impl's choose. Printed by gen_choose.py. -/
import Derived.Test.YtndefbecoahfhaaImplSet
namespace Go.Proofs.Ytndefbecoahfhaa
open Go.RowKit

theorem GoalsAt.ptr {w0 w : World} {gs : List Goal} {v : Value} (h : GoalsAt w0 w gs v) : ∃ p, v = .pointer p := by
  cases gs with
  | nil => exact ⟨none, h⟩
  | cons g gs => obtain ⟨b, _, _, rfl, _⟩ := h; exact ⟨_, rfl⟩

theorem cells_four (w : World) (a b c d : Value) (t : TypeId) : ∀ j u, [a, b, c, d][j]? = some u → (w.alloc (.cells #[a, b, c, d] t)).cell? ((⟨w.heap.size, 0, none⟩ : Addr).add j) = some u := by
  intro j u hj
  match j, hj with
  | 0, hj => simp at hj; subst hj; simp [Addr.add]
  | 1, hj => simp at hj; subst hj; simp [Addr.add]
  | 2, hj => simp at hj; subst hj; simp [Addr.add]
  | 3, hj => simp at hj; subst hj; simp [Addr.add]
  | j + 4, hj => simp at hj
theorem infoC : (Try.prog.info? TC).map (fun i => (i.zero, i.size, i.bytes)) = some (some (.agg #[.bool false, .pointer none, .int .i64 0, .int .i64 0]), 4, 32) := by kernel_rfl


set_option maxRecDepth 100000 in
set_option maxHeartbeats 1000000 in
theorem choose_any (w0 w : World) (M : Nat) (dv : Value) (s : ByteArray) (n : Nat) (m : Mst) (cv ev hv : Value) (hs : List Value) (gs : List Goal) (gv : Value) (at_ : Nat)
    (h : ImplAt w0 w M dv s n m cv ev hv hs) (hg : GoalsAt w0 w gs gv) (hn : m.choices.length ≤ 5000) :
    Calls Try.prog 91 #[.pointer (some ⟨M, 0, none⟩), gv, .int .i64 at_] w fun e w' => e = .returned (.tuple #[]) ∧ ∃ hv' hs', ImplAt w0 w' M dv s n (m.choose gs at_) cv ev hv' hs' ∧ ∀ T, TC ≠ T → TM ≠ T → KeepT T w w' := by
  have hblk := h.blk
  have hMlt : M < w.heap.size := (Array.getElem?_eq_some_iff.1 hblk).1
  obtain ⟨CA, cc, rfl, _, _⟩ := h.caps.form
  obtain ⟨pp, rfl⟩ := hg.ptr
  have HI := Lib.hid h
  have HG := Lib.hid hg
  clear h hg
  go_enter Try.func91, Try.ntmps91
  -- region 0: 19 operations, the last [15, 16, 17, 18]
  refine wpU_begin [15, 16, 17, 18] [0] (by kernel_rfl) (fun w1 hw1 => ?_)
  subst hw1
  refine wpU_pure 0 (some 6) (v := ?_) rfl rfl (by kernel_rfl) (fun _ _ _ h => h) rfl (fun x => ?_) ?_
  rotate_left 1
  · go_simp; first | done | with_reducible rfl | rw [if_neg (by omega)] | rw [if_pos (by omega)]
  simp only [Act.put, List.setIfInBounds_toArray, List.set_cons_zero, List.set_cons_succ]
  refine wpU_take 1 (some 7) (v := ?_) rfl rfl (by kernel_rfl) (fun _ _ _ h => h) rfl (fun x hx => ?_) ?_
  rotate_left 1
  · have hxM := (hx.block M hMlt).trans hblk; have hx9 := cell_of_row x M 9 _ _ _ hxM; have hx11 := cell_of_row x M 11 _ _ _ hxM; simp at hx9 hx11; go_simp; first | done | with_reducible rfl | rw [if_neg (by omega)] | rw [if_pos (by omega)]
  simp only [Act.put, List.setIfInBounds_toArray, List.set_cons_zero, List.set_cons_succ]
  refine wpU_take 2 (some 8) (v := ?_) rfl rfl (by kernel_rfl) (fun _ _ _ h => h) rfl (fun x hx => ?_) ?_
  rotate_left 1
  · have hxM := (hx.block M hMlt).trans hblk; have hx9 := cell_of_row x M 9 _ _ _ hxM; have hx11 := cell_of_row x M 11 _ _ _ hxM; simp at hx9 hx11; go_simp; first | done | with_reducible rfl | rw [if_neg (by omega)] | rw [if_pos (by omega)]
  simp only [Act.put, List.setIfInBounds_toArray, List.set_cons_zero, List.set_cons_succ]
  refine wpU_take 3 (some 9) (v := ?_) rfl rfl (by kernel_rfl) (fun _ _ _ h => h) rfl (fun x hx => ?_) ?_
  rotate_left 1
  · have hxM := (hx.block M hMlt).trans hblk; have hx9 := cell_of_row x M 9 _ _ _ hxM; have hx11 := cell_of_row x M 11 _ _ _ hxM; simp at hx9 hx11; go_simp; first | done | with_reducible rfl | rw [if_neg (by omega)] | rw [if_pos (by omega)]
  simp only [Act.put, List.setIfInBounds_toArray, List.set_cons_zero, List.set_cons_succ]
  refine wpU_take 4 (some 10) (v := ?_) rfl rfl (by kernel_rfl) (fun _ _ _ h => h) rfl (fun x hx => ?_) ?_
  rotate_left 1
  · have hxM := (hx.block M hMlt).trans hblk; have hx9 := cell_of_row x M 9 _ _ _ hxM; have hx11 := cell_of_row x M 11 _ _ _ hxM; simp at hx9 hx11; go_simp; first | done | with_reducible rfl | rw [if_neg (by omega)] | rw [if_pos (by omega)]
  simp only [Act.put, List.setIfInBounds_toArray, List.set_cons_zero, List.set_cons_succ]
  refine wpU_take 5 (some 11) (v := ?_) rfl rfl (by kernel_rfl) (fun _ _ _ h => h) rfl (fun x hx => ?_) ?_
  rotate_left 1
  · have hxM := (hx.block M hMlt).trans hblk; have hx9 := cell_of_row x M 9 _ _ _ hxM; have hx11 := cell_of_row x M 11 _ _ _ hxM; simp at hx9 hx11; go_simp; first | done | with_reducible rfl | rw [if_neg (by omega)] | rw [if_pos (by omega)]
  simp only [Act.put, List.setIfInBounds_toArray, List.set_cons_zero, List.set_cons_succ]
  refine wpU_take 6 (some 12) (v := ?_) rfl rfl (by kernel_rfl) (fun _ _ _ h => h) rfl (fun x hx => ?_) ?_
  rotate_left 1
  · have hxM := (hx.block M hMlt).trans hblk; have hx9 := cell_of_row x M 9 _ _ _ hxM; have hx11 := cell_of_row x M 11 _ _ _ hxM; simp at hx9 hx11; go_simp; first | done | with_reducible rfl | rw [if_neg (by omega)] | rw [if_pos (by omega)]
  simp only [Act.put, List.setIfInBounds_toArray, List.set_cons_zero, List.set_cons_succ]
  refine wpU_take 7 (some 13) (v := ?_) rfl rfl (by kernel_rfl) (fun _ _ _ h => h) rfl (fun x hx => ?_) ?_
  rotate_left 1
  · have hxM := (hx.block M hMlt).trans hblk; have hx9 := cell_of_row x M 9 _ _ _ hxM; have hx11 := cell_of_row x M 11 _ _ _ hxM; simp at hx9 hx11; go_simp; first | done | with_reducible rfl | rw [if_neg (by omega)] | rw [if_pos (by omega)]
  simp only [Act.put, List.setIfInBounds_toArray, List.set_cons_zero, List.set_cons_succ]
  refine wpU_take 8 (some 14) (v := ?_) rfl rfl (by kernel_rfl) (fun _ _ _ h => h) rfl (fun x hx => ?_) ?_
  rotate_left 1
  · have hxM := (hx.block M hMlt).trans hblk; have hx9 := cell_of_row x M 9 _ _ _ hxM; have hx11 := cell_of_row x M 11 _ _ _ hxM; simp at hx9 hx11; go_simp; first | done | with_reducible rfl | rw [if_neg (by omega)] | rw [if_pos (by omega)]
  simp only [Act.put, List.setIfInBounds_toArray, List.set_cons_zero, List.set_cons_succ]
  refine wpU_take 9 (some 15) (v := ?_) rfl rfl (by kernel_rfl) (fun _ _ _ h => h) rfl (fun x hx => ?_) ?_
  rotate_left 1
  · have hxM := (hx.block M hMlt).trans hblk; have hx9 := cell_of_row x M 9 _ _ _ hxM; have hx11 := cell_of_row x M 11 _ _ _ hxM; simp at hx9 hx11; go_simp; first | done | with_reducible rfl | rw [if_neg (by omega)] | rw [if_pos (by omega)]
  simp only [Act.put, List.setIfInBounds_toArray, List.set_cons_zero, List.set_cons_succ]
  refine wpU_take 10 (some 16) (v := ?_) rfl rfl (by kernel_rfl) (fun _ _ _ h => h) rfl (fun x hx => ?_) ?_
  rotate_left 1
  · have hxM := (hx.block M hMlt).trans hblk; have hx9 := cell_of_row x M 9 _ _ _ hxM; have hx11 := cell_of_row x M 11 _ _ _ hxM; simp at hx9 hx11; go_simp; first | done | with_reducible rfl | rw [if_neg (by omega)] | rw [if_pos (by omega)]
  simp only [Act.put, List.setIfInBounds_toArray, List.set_cons_zero, List.set_cons_succ]
  refine wpU_take 11 (some 17) (v := ?_) rfl rfl (by kernel_rfl) (fun _ _ _ h => h) rfl (fun x hx => ?_) ?_
  rotate_left 1
  · have hxM := (hx.block M hMlt).trans hblk; have hx9 := cell_of_row x M 9 _ _ _ hxM; have hx11 := cell_of_row x M 11 _ _ _ hxM; simp at hx9 hx11; go_simp; first | done | with_reducible rfl | rw [if_neg (by omega)] | rw [if_pos (by omega)]
  simp only [Act.put, List.setIfInBounds_toArray, List.set_cons_zero, List.set_cons_succ]
  refine wpU_take 12 (some 18) (v := ?_) rfl rfl (by kernel_rfl) (fun _ _ _ h => h) rfl (fun x hx => ?_) ?_
  rotate_left 1
  · have hxM := (hx.block M hMlt).trans hblk; have hx9 := cell_of_row x M 9 _ _ _ hxM; have hx11 := cell_of_row x M 11 _ _ _ hxM; simp at hx9 hx11; go_simp; first | done | with_reducible rfl | rw [if_neg (by omega)] | rw [if_pos (by omega)]
  simp only [Act.put, List.setIfInBounds_toArray, List.set_cons_zero, List.set_cons_succ]
  refine wpU_take 13 (some 19) (v := ?_) rfl rfl (by kernel_rfl) (fun _ _ _ h => h) rfl (fun x hx => ?_) ?_
  rotate_left 1
  · have hxM := (hx.block M hMlt).trans hblk; have hx9 := cell_of_row x M 9 _ _ _ hxM; have hx11 := cell_of_row x M 11 _ _ _ hxM; simp at hx9 hx11; go_simp; first | done | with_reducible rfl | rw [if_neg (by omega)] | rw [if_pos (by omega)]
  simp only [Act.put, List.setIfInBounds_toArray, List.set_cons_zero, List.set_cons_succ]
  refine wpU_step 14 (by kernel_rfl) rfl rfl ?_  -- buildSlice 
  go_wp2_with fail
  refine ⟨(Later.refl _).alloc _, ?_⟩
  refine wpU_last [_, _, _, _] (by kernel_rfl) rfl rfl ?_
  simp only [List.getElem_toArray, List.getElem_cons_succ, List.getElem_cons_zero]
  obtain ⟨i, hi, hz0, hz1, hz2⟩ := info_parts infoC
  refine wpList_append_has _ rfl _ _ _ rfl w0.heap.size TC i _ 4 32 Try.underlying69 hi hz0 hz1 hz2 rfl _ m.choices.length hs rfl ((HI.out.later ((Later.refl _).alloc _)).chs) _ 1 1 [.bool false, .pointer pp, .int .i64 at_, .int .i64 m.caps.length] rfl rfl ?_ ?_ (by omega) ?_ ?_ ?_ ?_
  · exact cells_four _ _ _ _ _ _
  · intro u hu
    simp only [List.mem_cons, List.not_mem_nil, or_false] at hu
    rcases hu with rfl | rfl | rfl | rfl <;> rfl
  · simp only [maxLen]; omega
  · omega
  · exact (HI.out.later ((Later.refl w).drew.alloc _)).below.size
  · intro v' w' hrow hgrow hblock
    obtain ⟨vA, vc, rfl, _, _⟩ := hrow.form
    have HI' := Lib.hid (HI.out.later ((Later.refl w).drew.alloc (Obj.cells #[.bool false, .pointer pp, .int .i64 at_, .int .i64 m.caps.length] TC)))
    have HN := Lib.hid (HI'.out.grownH hgrow)
    have hM' := HN.out.1
    have hc11 := cell_of_row w' M 11 _ _ _ hM'
    simp at hc11
    have hf11 := frozen_of_row w' M 11 _ _ hM'
    have HM := Lib.hid hM'
    have HKT := Lib.hid (fun (T : TypeId) (hT : TC ≠ T) => (KeepT.later (T := T) ((Later.refl w).drew.alloc _)).trans (KeepT.grown hgrow (fun k hk => (HI'.out.chs.lt k hk).2.2) hT))
    have HR := Lib.hid hrow
    clear hM' hrow hgrow hblock
    go_wp2_with fail
    go_end0
    have hkeep : KeepT TG w w' := (KeepT.later ((Later.refl w).drew.alloc _)).trans HN.out.2.2.2.2.1
    refine ⟨rfl, _, hs ++ [.bool false, .pointer pp, .int .i64 at_, .int .i64 m.caps.length], ImplAt.set (m := m.choose gs at_) HM.out rfl HI'.out.base HN.out.2.1 HN.out.2.2.1 (by simpa [Mst.choose] using HR.out) ?_ HI'.out.apart HN.out.2.2.2.2.2, fun T h1 h2 => (HKT.out T h1).trans (KeepT.set (a := ⟨M, 11, none⟩) HM.out h2 _)⟩
    exact ChoicesAre.push (.inr ⟨rfl, _, rfl, HG.out.keep hkeep _ _⟩) _ _ HN.out.2.2.2.1

end Go.Proofs.Ytndefbecoahfhaa
