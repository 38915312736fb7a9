/- Parts of impl.validInstr. Printed by gen_instr.py. -/
import Derived.Test.YtopaeiogbijppaaDoorInTab
import Derived.Deep.DeepCutAuto
namespace Go.Proofs.YtopaeiogbijppaaDoor
open Go.RowKit

theorem ins_at (w : World) (o : Obj) (T : TypeId) (v0 v1 v2 v3 v4 : Value) : ((w.alloc o).alloc (.cells #[v0, v1, v2, v3, v4] T)).cell? ⟨w.heap.size + 1, 1, none⟩ = some v1 := by
  have h := heap_alloc_new (w.alloc o) (.cells #[v0, v1, v2, v3, v4] T)
  rw [show (w.alloc o).heap.size = w.heap.size + 1 by simp] at h
  exact cell_of_row _ _ 1 _ _ _ h
theorem ins5_at (w : World) (o : Obj) (T : TypeId) (v0 v1 v2 v3 v4 : Value) : ((w.alloc o).alloc (.cells #[v0, v1, v2, v3, v4] T)).heap[w.heap.size + 1]? = some (.cells #[v0, v1, v2, v3, v4] T (0, 0)) := by
  have h := heap_alloc_new (w.alloc o) (.cells #[v0, v1, v2, v3, v4] T)
  rwa [show (w.alloc o).heap.size = w.heap.size + 1 by simp] at h
theorem lift5 {w x : World} {B : Nat} {v0 v1 v2 v3 v4 : Value} {T : TypeId} (h : w.heap[B]? = some (.cells #[v0, v1, v2, v3, v4] T (0, 0))) (hl : Later w x) :
    x.cell? ⟨B, 0, none⟩ = some v0 ∧ x.cell? ⟨B, 1, none⟩ = some v1 ∧ x.cell? ⟨B, 2, none⟩ = some v2 ∧ x.cell? ⟨B, 3, none⟩ = some v3 ∧ x.cell? ⟨B, 4, none⟩ = some v4 := by
  have h2 := (hl.block _ (Array.getElem?_eq_some_iff.1 h).1).trans h
  exact ⟨cell_of_row x B 0 _ _ _ h2, cell_of_row x B 1 _ _ _ h2, cell_of_row x B 2 _ _ _ h2, cell_of_row x B 3 _ _ _ h2, cell_of_row x B 4 _ _ _ h2⟩
set_option maxHeartbeats 1000000 in
theorem within_any (a n : Int) (B : Nat) (w : World) (h : w.cell? ⟨B, 1, none⟩ = some (.int .i64 a)) : Calls Tryd.prog 74 #[.int .i64 n, .pointer (some ⟨B, 0, none⟩)] w fun e w' => e = .returned (.bool (inB a n)) ∧ w' = w := by
  obtain ⟨p, hp⟩ : ∃ x : Bool, decide (0 ≤ a) = x := ⟨_, rfl⟩
  obtain ⟨q, hq⟩ : ∃ x : Bool, decide (a < n) = x := ⟨_, rfl⟩
  rw [show inB a n = (p && q) by unfold inB; rw [hp, hq]]
  cases p <;> cases q <;>
    (go_enter Tryd.func74, Tryd.ntmps74
     go_wp2_with fail
     go_ret
     exact ⟨rfl, rfl⟩)
set_option maxHeartbeats 1000000 in
theorem isLabel_any (op : Int) (w : World) : Calls Tryd.prog 77 #[.int .i64 op] w fun e w' => e = .returned (.bool (isLab op)) ∧ w' = w := by
  obtain ⟨b13, h13⟩ : ∃ x : Bool, (op == 13) = x := ⟨_, rfl⟩
  obtain ⟨b15, h15⟩ : ∃ x : Bool, (op == 15) = x := ⟨_, rfl⟩
  obtain ⟨b17, h17⟩ : ∃ x : Bool, (op == 17) = x := ⟨_, rfl⟩
  obtain ⟨b19, h19⟩ : ∃ x : Bool, (op == 19) = x := ⟨_, rfl⟩
  obtain ⟨b27, h27⟩ : ∃ x : Bool, (op == 27) = x := ⟨_, rfl⟩
  rw [show isLab op = (b13 || (b15 || (b17 || (b19 || b27)))) by unfold isLab; rw [h13, h15, h17, h19, h27]]
  cases b13 <;> cases b15 <;> cases b17 <;> cases b19 <;> cases b27 <;>
    (go_enter Tryd.func77, Tryd.ntmps77
     go_wp2_with fail
     go_ret
     exact ⟨rfl, rfl⟩)
set_option maxHeartbeats 1000000 in
theorem l28Jumps_any (op : Int) (w : World) : Calls Tryd.prog 62 #[.int .i64 op] w fun e w' => e = .returned (.bool (isLab op)) ∧ w' = w := by
  obtain ⟨b13, h13⟩ : ∃ x : Bool, (op == 13) = x := ⟨_, rfl⟩
  obtain ⟨b15, h15⟩ : ∃ x : Bool, (op == 15) = x := ⟨_, rfl⟩
  obtain ⟨b17, h17⟩ : ∃ x : Bool, (op == 17) = x := ⟨_, rfl⟩
  obtain ⟨b19, h19⟩ : ∃ x : Bool, (op == 19) = x := ⟨_, rfl⟩
  obtain ⟨b27, h27⟩ : ∃ x : Bool, (op == 27) = x := ⟨_, rfl⟩
  rw [show isLab op = (b13 || (b15 || (b17 || (b19 || b27)))) by unfold isLab; rw [h13, h15, h17, h19, h27]]
  cases b13 <;> cases b15 <;> cases b17 <;> cases b19 <;> cases b27 <;>
    (go_enter Tryd.func62, Tryd.ntmps62
     go_wp2_with fail
     go_ret
     exact ⟨rfl, rfl⟩)
set_option maxRecDepth 100000 in
set_option maxHeartbeats 2000000 in
theorem implIn_lo (op : Int) (nR nC nG nI : Nat) (A1 A2 A3 A4 : Option Addr) (c1 c2 c3 c4 : Nat) (m a b line : Int) (text : ByteArray) (w : World) (hR : nR ≤ 1048576) (hC : nC ≤ 1048576) (hG : nG ≤ 1048576) (hI : nI ≤ 1048576) (hts : text.size ≤ 1048576) (h : op < 1) : Calls Tryd.prog 41 #[.agg #[.slice A1 nR c1, .slice A2 nC c2, .slice A3 nG c3, .int .i64 m, .slice A4 nI c4], .agg #[.int .i64 op, .int .i64 a, .int .i64 b, .int .i64 line, .string text]] w fun e w' => e = .returned (.bool (insOk nR nC nG nI op a b line text)) ∧ Below w.heap.size w w' := by
  rw [insOk_op (by omega)]
  have : decide (op < 1) = true := decide_eq_true (by omega)
  go_enter Tryd.func41, Tryd.ntmps41
  go_wp2_with fail
  go_ret
  exact ⟨rfl, ((Below.refl _ _).alloc (Nat.le_refl _) _).alloc (by simp) _⟩
set_option maxRecDepth 100000 in
set_option maxHeartbeats 2000000 in
theorem implIn_hi (op : Int) (nR nC nG nI : Nat) (A1 A2 A3 A4 : Option Addr) (c1 c2 c3 c4 : Nat) (m a b line : Int) (text : ByteArray) (w : World) (hR : nR ≤ 1048576) (hC : nC ≤ 1048576) (hG : nG ≤ 1048576) (hI : nI ≤ 1048576) (hts : text.size ≤ 1048576) (h : 30 < op) : Calls Tryd.prog 41 #[.agg #[.slice A1 nR c1, .slice A2 nC c2, .slice A3 nG c3, .int .i64 m, .slice A4 nI c4], .agg #[.int .i64 op, .int .i64 a, .int .i64 b, .int .i64 line, .string text]] w fun e w' => e = .returned (.bool (insOk nR nC nG nI op a b line text)) ∧ Below w.heap.size w w' := by
  rw [insOk_op (by omega)]
  have : decide (op < 1) = false := decide_eq_false (by omega)
  have : decide (30 < op) = true := decide_eq_true (by omega)
  go_enter Tryd.func41, Tryd.ntmps41
  go_wp2_with fail
  go_ret
  exact ⟨rfl, ((Below.refl _ _).alloc (Nat.le_refl _) _).alloc (by simp) _⟩
set_option maxRecDepth 100000 in
set_option maxHeartbeats 2000000 in
theorem implIn_line (op : Int) (nR nC nG nI : Nat) (A1 A2 A3 A4 : Option Addr) (c1 c2 c3 c4 : Nat) (m a b line : Int) (text : ByteArray) (w : World) (hR : nR ≤ 1048576) (hC : nC ≤ 1048576) (hG : nG ≤ 1048576) (hI : nI ≤ 1048576) (hts : text.size ≤ 1048576) (h : line < 0 ∧ 1 ≤ op ∧ op ≤ 30) : Calls Tryd.prog 41 #[.agg #[.slice A1 nR c1, .slice A2 nC c2, .slice A3 nG c3, .int .i64 m, .slice A4 nI c4], .agg #[.int .i64 op, .int .i64 a, .int .i64 b, .int .i64 line, .string text]] w fun e w' => e = .returned (.bool (insOk nR nC nG nI op a b line text)) ∧ Below w.heap.size w w' := by
  rw [insOk_op (by omega)]
  have : decide (op < 1) = false := decide_eq_false (by omega)
  have : decide (30 < op) = false := decide_eq_false (by omega)
  have : decide (line < 0) = true := decide_eq_true (by omega)
  go_enter Tryd.func41, Tryd.ntmps41
  go_wp2_with fail
  go_ret
  exact ⟨rfl, ((Below.refl _ _).alloc (Nat.le_refl _) _).alloc (by simp) _⟩
end Go.Proofs.YtopaeiogbijppaaDoor
