/- The law FnExactParseInstr walked: it returns true at every text. -/
import Derived.Test.YtopaeiogbijppaaDoorParSpec
namespace Go.Proofs.YtopaeiogbijppaaDoor
open Go.RowKit

set_option maxHeartbeats 1000000 in
theorem eqInstr_same (op a b line : Int) (t : ByteArray) (w : World) :
    Calls Tryd.prog 7 #[.agg #[.int .i64 op, .int .i64 a, .int .i64 b, .int .i64 line, .string t], .agg #[.int .i64 op, .int .i64 a, .int .i64 b, .int .i64 line, .string t]] w fun e w' => e = .returned (.bool true) ∧ Below w.heap.size w w' := by
  have v2 : (t.toList == t.toList) = true := by simp
  go_enter Tryd.func7, Tryd.ntmps7
  go_wp2_with fail
  go_ret
  exact ⟨rfl, ((Below.refl _ _).alloc (Nat.le_refl _) _).alloc (by simp) _⟩
set_option maxRecDepth 100000 in
set_option maxHeartbeats 2000000 in
theorem parLaw_any (s : ByteArray) (w : World) (hmax : s.size ≤ 9223372036854775807) (ht : Tabs w) (hm : MaxL w) :
    Calls Tryd.prog 3 #[.string s] w fun e w' => e = .returned (.bool true) ∧ Below w.heap.size w w' := by
  by_cases hs : s.size ≤ 1048576
  · have t0 : decide ((1048576 : Int) < s.size) = false := decide_eq_false (by omega)
    obtain ⟨op, a, b, l, t, ok, hR⟩ := insRes_form s
    have hS := specParseInstr_any s w hs ht
    have HI := Lib.hid (fun w ht hm => implParseInstr_any s w hs ht hm)
    rw [hR] at hS
    have HR := Lib.hid hR
    have HS := Lib.hid hS
    have HT := Lib.hid ht
    have HM := Lib.hid hm
    clear hS hR ht hm
    go_enter Tryd.func3, Tryd.ntmps3
    go_wp2_with fail
    refine HS.out.mono ?_
    rintro e w1 ⟨rfl, hb1⟩
    unfold insOut
    go_upto_region 4 with (fail)
    obtain ⟨w2, hw2⟩ : ∃ w2, w2 = w1.alloc (insObj op a b l t) := ⟨_, rfl⟩
    rw [show w1.alloc (.cells #[.int .i64 op, .int .i64 a, .int .i64 b, .int .i64 l, .string t] 23) = w2 from hw2.symm]
    have hb2 : Below w.heap.size w w2 := by rw [hw2]; exact hb1.alloc hb1.size _
    have hblk : w2.heap[w1.heap.size]? = some (insObj op a b l t) := by rw [hw2]; exact heap_alloc_new w1 _
    have hI := HI.out w2 (HT.out.below hb2) (HM.out.below hb2)
    rw [HR.out] at hI
    have HI2 := Lib.hid hI
    have HB2 := Lib.hid (And.intro hb2 hblk)
    obtain ⟨C, hC⟩ : ∃ C, w1.heap.size = C := ⟨_, rfl⟩
    rw [hC] at HB2
    try rw [hC]
    clear hI hb1 hb2 hblk HI HS HR hw2 hC
    go_wp2_with fail
    refine HI2.out.mono ?_
    rintro e w3 ⟨rfl, hb3⟩
    unfold insOut
    have hb13 : Below w.heap.size w w3 := HB2.out.1.trans (Below.mono hb3 HB2.out.1.size)
    have hC2 : C < w2.heap.size := (Array.getElem?_eq_some_iff.1 HB2.out.2).1
    have hblk3 := (Below.block hb3 _ hC2).trans HB2.out.2
    have hs23 := Below.size hb3
    obtain ⟨w4, hw4⟩ : ∃ w4, w4 = w3.alloc (insObj op a b l t) := ⟨_, rfl⟩
    have hb4 : Below w.heap.size w w4 := by rw [hw4]; exact hb13.alloc hb13.size _
    have hl34 : Later w3 w4 := by rw [hw4]; exact (Later.refl _).alloc _
    have hblkD : w4.heap[w3.heap.size]? = some (insObj op a b l t) := by rw [hw4]; exact heap_alloc_new w3 _
    have hblkC : w4.heap[C]? = some (insObj op a b l t) := (hl34.block _ (by omega)).trans hblk3
    go_upto_region 5 with (fail)
    rw [show w3.alloc (.cells #[.int .i64 op, .int .i64 a, .int .i64 b, .int .i64 l, .string t] 23) = w4 from hw4.symm]
    obtain ⟨D, hD⟩ : ∃ D, w3.heap.size = D := ⟨_, rfl⟩
    rw [hD] at hblkD
    try rw [hD]
    obtain ⟨c0, c1, c2, c3, c4⟩ := ins_cells hblkC
    obtain ⟨d0, d1, d2, d3, d4⟩ := ins_cells hblkD
    have HE := Lib.hid (eqInstr_same op a b l t w4)
    have HB4 := Lib.hid hb4
    clear hblkC hblkD hb4 hl34 hw4 hD hb13 hb3 hblk3 hs23 HI2 HB2
    have t1 : (ok == ok) = true := by simp
    go_wp2_with fail
    refine HE.out.mono ?_
    rintro e w5 ⟨rfl, hb5⟩
    cases ok
    · go_wp2_with fail
      go_ret
      exact ⟨rfl, HB4.out.trans (Below.mono hb5 HB4.out.size)⟩
    · go_wp2_with fail
      go_ret
      exact ⟨rfl, HB4.out.trans (Below.mono hb5 HB4.out.size)⟩
  · have t0 : decide ((1048576 : Int) < s.size) = true := decide_eq_true (by omega)
    go_enter Tryd.func3, Tryd.ntmps3
    go_wp2_with fail
    go_ret
    exact ⟨rfl, Below.refl _ _⟩
end Go.Proofs.YtopaeiogbijppaaDoor
