/- validInstr and l28Instr at every instruction. Printed by gen_instr.py. -/
import Derived.Test.YtopaeiogbijppaaDoorInI1
import Derived.Test.YtopaeiogbijppaaDoorInI2
import Derived.Test.YtopaeiogbijppaaDoorInI3
import Derived.Test.YtopaeiogbijppaaDoorInS1
import Derived.Test.YtopaeiogbijppaaDoorInS2
import Derived.Test.YtopaeiogbijppaaDoorInS3
namespace Go.Proofs.YtopaeiogbijppaaDoor
open Go.RowKit

theorem implIn_any (op : Int) (nR nC nG nI : Nat) (A1 A2 A3 A4 : Option Addr) (c1 c2 c3 c4 : Nat) (m a b line : Int) (text : ByteArray) (w : World) (hR : nR ≤ 1048576) (hC : nC ≤ 1048576) (hG : nG ≤ 1048576) (hI : nI ≤ 1048576) (hts : text.size ≤ 1048576) (ht : Spc w) : Calls Tryd.prog 41 #[.agg #[.slice A1 nR c1, .slice A2 nC c2, .slice A3 nG c3, .int .i64 m, .slice A4 nI c4], .agg #[.int .i64 op, .int .i64 a, .int .i64 b, .int .i64 line, .string text]] w fun e w' => e = .returned (.bool (insOk nR nC nG nI op a b line text)) ∧ Below w.heap.size w w' := by
  by_cases h1 : op < 1
  · exact implIn_lo op nR nC nG nI A1 A2 A3 A4 c1 c2 c3 c4 m a b line text w hR hC hG hI hts h1
  by_cases h2 : 30 < op
  · exact implIn_hi op nR nC nG nI A1 A2 A3 A4 c1 c2 c3 c4 m a b line text w hR hC hG hI hts h2
  by_cases h3 : line < 0
  · exact implIn_line op nR nC nG nI A1 A2 A3 A4 c1 c2 c3 c4 m a b line text w hR hC hG hI hts ⟨h3, by omega, by omega⟩
  have hl : 0 ≤ line := by omega
  have : op = 1 ∨ op = 2 ∨ op = 3 ∨ op = 4 ∨ op = 5 ∨ op = 6 ∨ op = 7 ∨ op = 8 ∨ op = 9 ∨ op = 10 ∨ op = 11 ∨ op = 12 ∨ op = 13 ∨ op = 14 ∨ op = 15 ∨ op = 16 ∨ op = 17 ∨ op = 18 ∨ op = 19 ∨ op = 20 ∨ op = 21 ∨ op = 22 ∨ op = 23 ∨ op = 24 ∨ op = 25 ∨ op = 26 ∨ op = 27 ∨ op = 28 ∨ op = 29 ∨ op = 30 := by omega
  rcases this with rfl | rfl | rfl | rfl | rfl | rfl | rfl | rfl | rfl | rfl | rfl | rfl | rfl | rfl | rfl | rfl | rfl | rfl | rfl | rfl | rfl | rfl | rfl | rfl | rfl | rfl | rfl | rfl | rfl | rfl
  · exact implIn_1 nR nC nG nI A1 A2 A3 A4 c1 c2 c3 c4 m a b line text w hR hC hG hI hts hl
  · exact implIn_2 nR nC nG nI A1 A2 A3 A4 c1 c2 c3 c4 m a b line text w hR hC hG hI hts hl
  · exact implIn_3 nR nC nG nI A1 A2 A3 A4 c1 c2 c3 c4 m a b line text w hR hC hG hI hts hl
  · exact implIn_4 nR nC nG nI A1 A2 A3 A4 c1 c2 c3 c4 m a b line text w hR hC hG hI hts hl
  · exact implIn_5 nR nC nG nI A1 A2 A3 A4 c1 c2 c3 c4 m a b line text w hR hC hG hI hts hl
  · exact implIn_6 nR nC nG nI A1 A2 A3 A4 c1 c2 c3 c4 m a b line text w hR hC hG hI hts hl
  · exact implIn_7 nR nC nG nI A1 A2 A3 A4 c1 c2 c3 c4 m a b line text w hR hC hG hI hts hl
  · exact implIn_8 nR nC nG nI A1 A2 A3 A4 c1 c2 c3 c4 m a b line text w hR hC hG hI hts hl
  · exact implIn_9 nR nC nG nI A1 A2 A3 A4 c1 c2 c3 c4 m a b line text w hR hC hG hI hts hl
  · exact implIn_10 nR nC nG nI A1 A2 A3 A4 c1 c2 c3 c4 m a b line text w hR hC hG hI hts hl
  · exact implIn_11 nR nC nG nI A1 A2 A3 A4 c1 c2 c3 c4 m a b line text w hR hC hG hI hts hl ht
  · exact implIn_12 nR nC nG nI A1 A2 A3 A4 c1 c2 c3 c4 m a b line text w hR hC hG hI hts hl
  · exact implIn_13 nR nC nG nI A1 A2 A3 A4 c1 c2 c3 c4 m a b line text w hR hC hG hI hts hl
  · exact implIn_14 nR nC nG nI A1 A2 A3 A4 c1 c2 c3 c4 m a b line text w hR hC hG hI hts hl
  · exact implIn_15 nR nC nG nI A1 A2 A3 A4 c1 c2 c3 c4 m a b line text w hR hC hG hI hts hl
  · exact implIn_16 nR nC nG nI A1 A2 A3 A4 c1 c2 c3 c4 m a b line text w hR hC hG hI hts hl
  · exact implIn_17 nR nC nG nI A1 A2 A3 A4 c1 c2 c3 c4 m a b line text w hR hC hG hI hts hl
  · exact implIn_18 nR nC nG nI A1 A2 A3 A4 c1 c2 c3 c4 m a b line text w hR hC hG hI hts hl
  · exact implIn_19 nR nC nG nI A1 A2 A3 A4 c1 c2 c3 c4 m a b line text w hR hC hG hI hts hl
  · exact implIn_20 nR nC nG nI A1 A2 A3 A4 c1 c2 c3 c4 m a b line text w hR hC hG hI hts hl
  · exact implIn_21 nR nC nG nI A1 A2 A3 A4 c1 c2 c3 c4 m a b line text w hR hC hG hI hts hl
  · exact implIn_22 nR nC nG nI A1 A2 A3 A4 c1 c2 c3 c4 m a b line text w hR hC hG hI hts hl
  · exact implIn_23 nR nC nG nI A1 A2 A3 A4 c1 c2 c3 c4 m a b line text w hR hC hG hI hts hl
  · exact implIn_24 nR nC nG nI A1 A2 A3 A4 c1 c2 c3 c4 m a b line text w hR hC hG hI hts hl
  · exact implIn_25 nR nC nG nI A1 A2 A3 A4 c1 c2 c3 c4 m a b line text w hR hC hG hI hts hl
  · exact implIn_26 nR nC nG nI A1 A2 A3 A4 c1 c2 c3 c4 m a b line text w hR hC hG hI hts hl
  · exact implIn_27 nR nC nG nI A1 A2 A3 A4 c1 c2 c3 c4 m a b line text w hR hC hG hI hts hl
  · exact implIn_28 nR nC nG nI A1 A2 A3 A4 c1 c2 c3 c4 m a b line text w hR hC hG hI hts hl
  · exact implIn_29 nR nC nG nI A1 A2 A3 A4 c1 c2 c3 c4 m a b line text w hR hC hG hI hts hl
  · exact implIn_30 nR nC nG nI A1 A2 A3 A4 c1 c2 c3 c4 m a b line text w hR hC hG hI hts hl
theorem specIn_any (op : Int) (nR nC nG nI : Nat) (A1 A2 A3 A4 : Option Addr) (c1 c2 c3 c4 : Nat) (m a b line : Int) (text : ByteArray) (w : World) (hR : nR ≤ 1048576) (hC : nC ≤ 1048576) (hG : nG ≤ 1048576) (hI : nI ≤ 1048576) (hts : text.size ≤ 1048576) : Calls Tryd.prog 33 #[.agg #[.slice A1 nR c1, .slice A2 nC c2, .slice A3 nG c3, .int .i64 m, .slice A4 nI c4], .agg #[.int .i64 op, .int .i64 a, .int .i64 b, .int .i64 line, .string text]] w fun e w' => e = .returned (.bool (insOk nR nC nG nI op a b line text)) ∧ Below w.heap.size w w' := by
  by_cases h1 : op < 1
  · exact specIn_lo op nR nC nG nI A1 A2 A3 A4 c1 c2 c3 c4 m a b line text w hR hC hG hI hts h1
  by_cases h2 : 30 < op
  · exact specIn_hi op nR nC nG nI A1 A2 A3 A4 c1 c2 c3 c4 m a b line text w hR hC hG hI hts h2
  by_cases h3 : line < 0
  · exact specIn_line op nR nC nG nI A1 A2 A3 A4 c1 c2 c3 c4 m a b line text w hR hC hG hI hts ⟨h3, by omega, by omega⟩
  have hl : 0 ≤ line := by omega
  have : op = 1 ∨ op = 2 ∨ op = 3 ∨ op = 4 ∨ op = 5 ∨ op = 6 ∨ op = 7 ∨ op = 8 ∨ op = 9 ∨ op = 10 ∨ op = 11 ∨ op = 12 ∨ op = 13 ∨ op = 14 ∨ op = 15 ∨ op = 16 ∨ op = 17 ∨ op = 18 ∨ op = 19 ∨ op = 20 ∨ op = 21 ∨ op = 22 ∨ op = 23 ∨ op = 24 ∨ op = 25 ∨ op = 26 ∨ op = 27 ∨ op = 28 ∨ op = 29 ∨ op = 30 := by omega
  rcases this with rfl | rfl | rfl | rfl | rfl | rfl | rfl | rfl | rfl | rfl | rfl | rfl | rfl | rfl | rfl | rfl | rfl | rfl | rfl | rfl | rfl | rfl | rfl | rfl | rfl | rfl | rfl | rfl | rfl | rfl
  · exact specIn_1 nR nC nG nI A1 A2 A3 A4 c1 c2 c3 c4 m a b line text w hR hC hG hI hts hl
  · exact specIn_2 nR nC nG nI A1 A2 A3 A4 c1 c2 c3 c4 m a b line text w hR hC hG hI hts hl
  · exact specIn_3 nR nC nG nI A1 A2 A3 A4 c1 c2 c3 c4 m a b line text w hR hC hG hI hts hl
  · exact specIn_4 nR nC nG nI A1 A2 A3 A4 c1 c2 c3 c4 m a b line text w hR hC hG hI hts hl
  · exact specIn_5 nR nC nG nI A1 A2 A3 A4 c1 c2 c3 c4 m a b line text w hR hC hG hI hts hl
  · exact specIn_6 nR nC nG nI A1 A2 A3 A4 c1 c2 c3 c4 m a b line text w hR hC hG hI hts hl
  · exact specIn_7 nR nC nG nI A1 A2 A3 A4 c1 c2 c3 c4 m a b line text w hR hC hG hI hts hl
  · exact specIn_8 nR nC nG nI A1 A2 A3 A4 c1 c2 c3 c4 m a b line text w hR hC hG hI hts hl
  · exact specIn_9 nR nC nG nI A1 A2 A3 A4 c1 c2 c3 c4 m a b line text w hR hC hG hI hts hl
  · exact specIn_10 nR nC nG nI A1 A2 A3 A4 c1 c2 c3 c4 m a b line text w hR hC hG hI hts hl
  · exact specIn_11 nR nC nG nI A1 A2 A3 A4 c1 c2 c3 c4 m a b line text w hR hC hG hI hts hl
  · exact specIn_12 nR nC nG nI A1 A2 A3 A4 c1 c2 c3 c4 m a b line text w hR hC hG hI hts hl
  · exact specIn_13 nR nC nG nI A1 A2 A3 A4 c1 c2 c3 c4 m a b line text w hR hC hG hI hts hl
  · exact specIn_14 nR nC nG nI A1 A2 A3 A4 c1 c2 c3 c4 m a b line text w hR hC hG hI hts hl
  · exact specIn_15 nR nC nG nI A1 A2 A3 A4 c1 c2 c3 c4 m a b line text w hR hC hG hI hts hl
  · exact specIn_16 nR nC nG nI A1 A2 A3 A4 c1 c2 c3 c4 m a b line text w hR hC hG hI hts hl
  · exact specIn_17 nR nC nG nI A1 A2 A3 A4 c1 c2 c3 c4 m a b line text w hR hC hG hI hts hl
  · exact specIn_18 nR nC nG nI A1 A2 A3 A4 c1 c2 c3 c4 m a b line text w hR hC hG hI hts hl
  · exact specIn_19 nR nC nG nI A1 A2 A3 A4 c1 c2 c3 c4 m a b line text w hR hC hG hI hts hl
  · exact specIn_20 nR nC nG nI A1 A2 A3 A4 c1 c2 c3 c4 m a b line text w hR hC hG hI hts hl
  · exact specIn_21 nR nC nG nI A1 A2 A3 A4 c1 c2 c3 c4 m a b line text w hR hC hG hI hts hl
  · exact specIn_22 nR nC nG nI A1 A2 A3 A4 c1 c2 c3 c4 m a b line text w hR hC hG hI hts hl
  · exact specIn_23 nR nC nG nI A1 A2 A3 A4 c1 c2 c3 c4 m a b line text w hR hC hG hI hts hl
  · exact specIn_24 nR nC nG nI A1 A2 A3 A4 c1 c2 c3 c4 m a b line text w hR hC hG hI hts hl
  · exact specIn_25 nR nC nG nI A1 A2 A3 A4 c1 c2 c3 c4 m a b line text w hR hC hG hI hts hl
  · exact specIn_26 nR nC nG nI A1 A2 A3 A4 c1 c2 c3 c4 m a b line text w hR hC hG hI hts hl
  · exact specIn_27 nR nC nG nI A1 A2 A3 A4 c1 c2 c3 c4 m a b line text w hR hC hG hI hts hl
  · exact specIn_28 nR nC nG nI A1 A2 A3 A4 c1 c2 c3 c4 m a b line text w hR hC hG hI hts hl
  · exact specIn_29 nR nC nG nI A1 A2 A3 A4 c1 c2 c3 c4 m a b line text w hR hC hG hI hts hl
  · exact specIn_30 nR nC nG nI A1 A2 A3 A4 c1 c2 c3 c4 m a b line text w hR hC hG hI hts hl
end Go.Proofs.YtopaeiogbijppaaDoor
