/- The walk of the law FnExactFormatInstr: it returns true for every instruction. -/
import Derived.Test.YtggoeidgmbplfaaDoorFormatInstr
namespace Go.Proofs.YtggoeidgmbplfaaDoor
open Go.RowKit

/-- An instruction as a value. -/
abbrev instrV (op a b line : Int) (t : ByteArray) : Value := .agg #[.int .i64 op, .int .i64 a, .int .i64 b, .int .i64 line, .string t]

set_option maxHeartbeats 1000000 in
theorem toInstr_any (op a b line : Int) (t : ByteArray) (w : World) :
    Calls Tryd.prog 6 #[instrV op a b line t] w fun e w' => e = .returned (instrV op a b line t) ∧ Below w.heap.size w w' := by
  go_enter Tryd.func6, Tryd.ntmps6
  go_wp2
  refine bodyPost_ret (v := instrV op a b line t) (by simp [results, Tryd.results6, go_sem]) rfl ⟨rfl, ?_⟩
  exact ((((Below.refl _ _).alloc (Nat.le_refl _) _).alloc (by simp) _).alloc (by simp; omega) _)

set_option maxHeartbeats 400000 in
theorem szInstr_fits (op a b line : Int) (t : ByteArray) (w : World) (hts : t.size ≤ 1048576) :
    Calls Tryd.prog 4 #[instrV op a b line t, .int .i64 1048576] w fun e w' => e = .returned (.int .i64 (1048576 - t.size)) ∧ Below w.heap.size w w' := by
  go_enter Tryd.func4, Tryd.ntmps4
  go_wp2
  go_ret
  exact ⟨rfl, (Below.refl _ _).alloc (Nat.le_refl _) _⟩

set_option maxHeartbeats 400000 in
theorem szInstr_not (op a b line : Int) (t : ByteArray) (w : World) (hts : 1048576 < t.size) (ht : t.size ≤ 9223372036854775807) :
    Calls Tryd.prog 4 #[instrV op a b line t, .int .i64 1048576] w fun e w' => e = .returned (.int .i64 (-1)) ∧ Below w.heap.size w w' := by
  go_enter Tryd.func4, Tryd.ntmps4
  go_wp2
  go_ret
  exact ⟨rfl, (Below.refl _ _).alloc (Nat.le_refl _) _⟩

set_option maxHeartbeats 400000 in
theorem specFormatInstr_out (op a b line : Int) (t : ByteArray) (w : World) (h : op < 1 ∨ 30 < op) :
    Calls Tryd.prog 5 #[instrV op a b line t] w fun e w' => e = .returned (.string ⟨#[]⟩) ∧ Below w.heap.size w w' := by
  rcases (show op < 1 ∨ (1 ≤ op ∧ 30 < op) by omega) with h | ⟨h, h'⟩
  all_goals
    go_enter Tryd.func5, Tryd.ntmps5
    go_wp2_with fail
    go_ret
    exact ⟨rfl, (Below.refl _ _).alloc (Nat.le_refl _) _⟩

set_option maxHeartbeats 400000 in
theorem implFormatInstr_out (op a b line : Int) (t : ByteArray) (w : World) (h : op < 1 ∨ 30 < op) :
    Calls Tryd.prog 7 #[instrV op a b line t] w fun e w' => e = .returned (.string ⟨#[]⟩) ∧ Below w.heap.size w w' := by
  rcases (show op < 1 ∨ (1 ≤ op ∧ 30 < op) by omega) with h | ⟨h, h'⟩
  all_goals
    go_enter Tryd.func7, Tryd.ntmps7
    go_wp2_with fail
    go_ret
    exact ⟨rfl, (Below.refl _ _).alloc (Nat.le_refl _) _⟩

/-- Both FormatInstr, for every instruction, give one text. -/
theorem format_both (op a b line : Int) (t : ByteArray) (hts : t.size ≤ 1048576) (ha : I64 a) (hb : I64 b) (hl : I64 line) :
    ∃ s : ByteArray, (∀ w, Tabs w → Calls Tryd.prog 5 #[instrV op a b line t] w fun e w' => e = .returned (.string s) ∧ Below w.heap.size w w') ∧
      (∀ w, Tabs w → Calls Tryd.prog 7 #[instrV op a b line t] w fun e w' => e = .returned (.string s) ∧ Below w.heap.size w w') := by
  by_cases h : op < 1 ∨ 30 < op
  · exact ⟨_, fun w _ => specFormatInstr_out op a b line t w h, fun w _ => implFormatInstr_out op a b line t w h⟩
  · exact ⟨_, fun w h1 => specFormatInstr_in op a b line t w hts (by omega) (by omega) ha hb hl h1, fun w h1 => implFormatInstr_in op a b line t w hts (by omega) (by omega) ha hb hl h1⟩

/-- The law's own copy of its argument, and what holds of the world beside it. -/
abbrev Boxed (N : Nat) (op a b line : Int) (t : ByteArray) (w' : World) : Prop :=
  w'.cell? ⟨N, 0, none⟩ = some (.int .i64 op) ∧ w'.cell? ⟨N, 1, none⟩ = some (.int .i64 a) ∧ w'.cell? ⟨N, 2, none⟩ = some (.int .i64 b) ∧ w'.cell? ⟨N, 3, none⟩ = some (.int .i64 line) ∧ w'.cell? ⟨N, 4, none⟩ = some (.string t) ∧
    N < w'.heap.size ∧ Hid (Tabs w')
theorem Boxed.start (op a b line : Int) (t : ByteArray) (w : World) (ht : Tabs w) :
    Boxed w.heap.size op a b line t (w.alloc (.cells #[.int .i64 op, .int .i64 a, .int .i64 b, .int .i64 line, .string t] 23)) := by
  have hc := fun i => cell_of_row _ w.heap.size i _ _ _ (heap_alloc_new w (.cells #[.int .i64 op, .int .i64 a, .int .i64 b, .int .i64 line, .string t] 23))
  exact ⟨hc 0, hc 1, hc 2, hc 3, hc 4, by simp, ht.alloc _⟩
theorem Boxed.next {N : Nat} {op a b line : Int} {t : ByteArray} {W w1 : World} (h : Boxed N op a b line t W) (hb : Below W.heap.size W w1) : Boxed N op a b line t w1 := by
  obtain ⟨c0, c1, c2, c3, c4, hN, ht⟩ := h
  have hz := hb.size
  exact ⟨(hb.cell hN).trans c0, (hb.cell hN).trans c1, (hb.cell hN).trans c2, (hb.cell hN).trans c3, (hb.cell hN).trans c4, by omega, ht.out.below hb⟩

set_option maxRecDepth 100000 in
set_option maxHeartbeats 1000000 in
theorem law_any (op a b line : Int) (t : ByteArray) (w : World) (ht : t.size ≤ 9223372036854775807) (ha : I64 a) (hb : I64 b) (hl : I64 line) (hT : Tabs w) :
    Calls Tryd.prog 3 #[instrV op a b line t] w fun e w' => e = .returned (.bool true) ∧ Below w.heap.size w w' := by
  have hB0 : Below w.heap.size w (w.alloc (.cells #[.int .i64 op, .int .i64 a, .int .i64 b, .int .i64 line, .string t] 23)) := (Below.refl _ _).alloc (Nat.le_refl _) _
  by_cases hts : t.size ≤ 1048576
  · obtain ⟨s, hS, hI⟩ := format_both op a b line t hts ha hb hl
    have HS := Lib.hid hS
    have HI := Lib.hid hI
    clear hS hI
    go_enter Tryd.func3, Tryd.ntmps3
    have k0 := Boxed.start op a b line t w hT
    go_wp2_with fail
    refine (szInstr_fits op a b line t _ hts).mono ?_
    rintro e w1 ⟨rfl, hb1⟩
    replace k0 := k0.next hb1
    have hB := hB0.trans (hb1.mono (by simp))
    clear hb1 hB0
    go_wp2_with fail
    refine (toInstr_any op a b line t _).mono ?_
    rintro e w2 ⟨rfl, hb1⟩
    replace k0 := k0.next hb1
    replace hB := hB.trans (hb1.mono hB.size)
    clear hb1
    go_wp2_with fail
    refine (HS.out _ k0.2.2.2.2.2.2.out).mono ?_
    rintro e w3 ⟨rfl, hb1⟩
    replace k0 := k0.next hb1
    replace hB := hB.trans (hb1.mono hB.size)
    clear hb1
    go_wp2_with fail
    refine (toInstr_any op a b line t _).mono ?_
    rintro e w4 ⟨rfl, hb1⟩
    replace k0 := k0.next hb1
    replace hB := hB.trans (hb1.mono hB.size)
    clear hb1
    go_wp2_with fail
    refine (HI.out _ k0.2.2.2.2.2.2.out).mono ?_
    rintro e w5 ⟨rfl, hb1⟩
    replace hB := hB.trans (hb1.mono hB.size)
    clear hb1 k0
    go_wp2_with fail
    go_ret
    exact ⟨rfl, hB⟩
  · go_enter Tryd.func3, Tryd.ntmps3
    go_wp2_with fail
    refine (szInstr_not op a b line t _ (by omega) ht).mono ?_
    rintro e w1 ⟨rfl, hb1⟩
    go_wp2_with fail
    go_ret
    exact ⟨rfl, hB0.trans (hb1.mono (by simp))⟩

end Go.Proofs.YtggoeidgmbplfaaDoor
