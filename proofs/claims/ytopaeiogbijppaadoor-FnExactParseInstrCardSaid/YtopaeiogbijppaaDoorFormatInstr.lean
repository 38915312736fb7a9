/- The walks of l28Names and instrNames, of both FormatInstr, of toInstr and szInstr. -/
import Derived.Test.YtopaeiogbijppaaDoorNumbers
import Derived.Test.YtopaeiogbijppaaDoorQuoteImpl
import Derived.Lib.AppendIntMem
import Derived.Test.YtopaeiogbijppaaDoorRegion
namespace Go.Proofs.YtopaeiogbijppaaDoor
open Go.RowKit
attribute [local go_sem ↓] Go.wp_at_zero Go.wp_at_succ

/-- The names of the instructions, by their numbers from 1 on. -/
def names : List (List UInt8) := [[105, 110, 116, 101, 103, 101, 114], [115, 116, 114, 105, 110, 103], [99, 115, 101, 116], [110, 117, 108, 108], [108, 111, 99, 97, 108], [103, 108, 111, 98, 97, 108], [114, 111, 117, 116, 105, 110, 101], [102, 117, 110, 99, 116, 105, 111, 110], [99, 111, 110, 115, 116, 114, 117, 99, 116, 111, 114], [107, 101, 121, 119, 111, 114, 100], [111, 112, 101, 114, 97, 116, 101], [99, 97, 108, 108], [109, 97, 114, 107], [117, 110, 109, 97, 114, 107], [103, 111, 116, 111], [102, 97, 105, 108], [99, 104, 111, 111, 115, 101], [116, 105, 99, 107], [112, 114, 111, 100, 117, 99, 101, 100], [98, 111, 117, 110, 100], [99, 111, 117, 110, 116], [115, 99, 97, 110], [115, 99, 97, 110, 110, 101, 100], [114, 101, 116, 117, 114, 110], [112, 114, 111, 99, 102, 97, 105, 108], [115, 117, 115, 112, 101, 110, 100], [99, 114, 101, 97, 116, 101], [99, 111, 114, 101, 116, 117, 114, 110], [97, 99, 116, 105, 118, 97, 116, 101], [112, 111, 112]]
def nameOf (op : Int) : ByteArray := ⟨(names.getD (op.toNat - 1) []).toArray⟩
theorem nameOf_size (op : Int) : (nameOf op).size ≤ 11 := by
  unfold nameOf
  have : ∀ l ∈ names, l.length ≤ 11 := by decide
  show (names.getD (op.toNat - 1) []).toArray.size ≤ 11
  rw [List.size_toArray, List.getD_eq_getElem?_getD]
  rcases h : names[op.toNat - 1]? with _ | l
  · simp
  · exact this l (List.mem_of_getElem? h)

/-- The two tables of the library that are read. -/
def Tabs (w : World) : Prop := Lib.TabIs Tryd.prog w "internal/strconv.uint64pow10" .u64 Lib.pow10Tab ∧ Lib.TabIs Tryd.prog w "strings.asciiSpace" .u8 Lib.asciiSpaceTab
theorem g_pow : Tryd.prog.globalNamed "internal/strconv.uint64pow10" = some 5 := by kernel_rfl
theorem g_spc : Tryd.prog.globalNamed "strings.asciiSpace" = some 0 := by kernel_rfl
theorem Tabs.below {w w' : World} (h : Tabs w) (hb : Below w.heap.size w w') : Tabs w' :=
  ⟨var?_below hb g_pow (World.block_lt_of_cell? w _ (h.1.cell g_pow 0 (by decide))) h.1, var?_below hb g_spc (World.block_lt_of_cell? w _ (h.2.cell g_spc 0 (by decide +kernel))) h.2⟩

theorem op_cases (op : Int) (h0 : 1 ≤ op) (h1 : op ≤ 30) : op = 1 ∨ op = 2 ∨ op = 3 ∨ op = 4 ∨ op = 5 ∨ op = 6 ∨ op = 7 ∨ op = 8 ∨ op = 9 ∨ op = 10 ∨ op = 11 ∨ op = 12 ∨ op = 13 ∨ op = 14 ∨ op = 15 ∨ op = 16 ∨ op = 17 ∨ op = 18 ∨ op = 19 ∨ op = 20 ∨ op = 21 ∨ op = 22 ∨ op = 23 ∨ op = 24 ∨ op = 25 ∨ op = 26 ∨ op = 27 ∨ op = 28 ∨ op = 29 ∨ op = 30 := by omega

theorem implNames_at (op : Int) (h0 : 1 ≤ op) (h1 : op ≤ 30) : (names.map fun l => Value.string ⟨l.toArray⟩)[op.toNat - 1]? = some (.string (nameOf op)) := by
  obtain rfl | rfl | rfl | rfl | rfl | rfl | rfl | rfl | rfl | rfl | rfl | rfl | rfl | rfl | rfl | rfl | rfl | rfl | rfl | rfl | rfl | rfl | rfl | rfl | rfl | rfl | rfl | rfl | rfl | rfl := op_cases op h0 h1
  all_goals rfl

set_option maxHeartbeats 400000 in
theorem l28Names_any (op : Int) (w : World) (h0 : 1 ≤ op) (h1 : op ≤ 30) :
    Calls Tryd.prog 15 #[] w fun e w' => e = .returned (.slice (some ⟨w.heap.size, 0, none⟩) 31 31) ∧ Below w.heap.size w w' ∧ w.heap.size < w'.heap.size ∧ w'.cell? ⟨w.heap.size, op.toNat, none⟩ = some (.string (nameOf op)) := by
  go_enter Tryd.func15, Tryd.ntmps15
  go_wp2
  go_ret
  refine ⟨rfl, (Below.refl _ _).alloc (Nat.le_refl _) _, by simp, ?_⟩
  rw [cell_of_row _ w.heap.size op.toNat _ _ _ (heap_alloc_new w _)]
  obtain rfl | rfl | rfl | rfl | rfl | rfl | rfl | rfl | rfl | rfl | rfl | rfl | rfl | rfl | rfl | rfl | rfl | rfl | rfl | rfl | rfl | rfl | rfl | rfl | rfl | rfl | rfl | rfl | rfl | rfl := op_cases op h0 h1
  all_goals rfl

theorem names_fields : Lib.fields (ByteArray.mk #[105, 110, 116, 101, 103, 101, 114, 32, 115, 116, 114, 105, 110, 103, 32, 99, 115, 101, 116, 32, 110, 117, 108, 108, 32, 108, 111, 99, 97, 108, 32, 103, 108, 111, 98, 97, 108, 32, 114, 111, 117, 116, 105, 110, 101, 32, 102, 117, 110, 99, 116, 105, 111, 110, 32, 99, 111, 110, 115, 116, 114, 117, 99, 116, 111, 114, 32, 107, 101, 121, 119, 111, 114, 100, 32, 111, 112, 101, 114, 97, 116, 101, 32, 99, 97, 108, 108, 32, 109, 97, 114, 107, 32, 117, 110, 109, 97, 114, 107, 32, 103, 111, 116, 111, 32, 102, 97, 105, 108, 32, 99, 104, 111, 111, 115, 101, 32, 116, 105, 99, 107, 32, 112, 114, 111, 100, 117, 99, 101, 100, 32, 98, 111, 117, 110, 100, 32, 99, 111, 117, 110, 116, 32, 115, 99, 97, 110, 32, 115, 99, 97, 110, 110, 101, 100, 32, 114, 101, 116, 117, 114, 110, 32, 112, 114, 111, 99, 102, 97, 105, 108, 32, 115, 117, 115, 112, 101, 110, 100, 32, 99, 114, 101, 97, 116, 101, 32, 99, 111, 114, 101, 116, 117, 114, 110, 32, 97, 99, 116, 105, 118, 97, 116, 101, 32, 112, 111, 112]).data.toList = names := by decide +kernel
theorem names_ascii : ∀ (j : Nat) b, (ByteArray.mk #[105, 110, 116, 101, 103, 101, 114, 32, 115, 116, 114, 105, 110, 103, 32, 99, 115, 101, 116, 32, 110, 117, 108, 108, 32, 108, 111, 99, 97, 108, 32, 103, 108, 111, 98, 97, 108, 32, 114, 111, 117, 116, 105, 110, 101, 32, 102, 117, 110, 99, 116, 105, 111, 110, 32, 99, 111, 110, 115, 116, 114, 117, 99, 116, 111, 114, 32, 107, 101, 121, 119, 111, 114, 100, 32, 111, 112, 101, 114, 97, 116, 101, 32, 99, 97, 108, 108, 32, 109, 97, 114, 107, 32, 117, 110, 109, 97, 114, 107, 32, 103, 111, 116, 111, 32, 102, 97, 105, 108, 32, 99, 104, 111, 111, 115, 101, 32, 116, 105, 99, 107, 32, 112, 114, 111, 100, 117, 99, 101, 100, 32, 98, 111, 117, 110, 100, 32, 99, 111, 117, 110, 116, 32, 115, 99, 97, 110, 32, 115, 99, 97, 110, 110, 101, 100, 32, 114, 101, 116, 117, 114, 110, 32, 112, 114, 111, 99, 102, 97, 105, 108, 32, 115, 117, 115, 112, 101, 110, 100, 32, 99, 114, 101, 97, 116, 101, 32, 99, 111, 114, 101, 116, 117, 114, 110, 32, 97, 99, 116, 105, 118, 97, 116, 101, 32, 112, 111, 112]).data.toList[j]? = some b → b.toNat < 128 := by
  intro j b hb
  have h : ∀ c ∈ (ByteArray.mk #[105, 110, 116, 101, 103, 101, 114, 32, 115, 116, 114, 105, 110, 103, 32, 99, 115, 101, 116, 32, 110, 117, 108, 108, 32, 108, 111, 99, 97, 108, 32, 103, 108, 111, 98, 97, 108, 32, 114, 111, 117, 116, 105, 110, 101, 32, 102, 117, 110, 99, 116, 105, 111, 110, 32, 99, 111, 110, 115, 116, 114, 117, 99, 116, 111, 114, 32, 107, 101, 121, 119, 111, 114, 100, 32, 111, 112, 101, 114, 97, 116, 101, 32, 99, 97, 108, 108, 32, 109, 97, 114, 107, 32, 117, 110, 109, 97, 114, 107, 32, 103, 111, 116, 111, 32, 102, 97, 105, 108, 32, 99, 104, 111, 111, 115, 101, 32, 116, 105, 99, 107, 32, 112, 114, 111, 100, 117, 99, 101, 100, 32, 98, 111, 117, 110, 100, 32, 99, 111, 117, 110, 116, 32, 115, 99, 97, 110, 32, 115, 99, 97, 110, 110, 101, 100, 32, 114, 101, 116, 117, 114, 110, 32, 112, 114, 111, 99, 102, 97, 105, 108, 32, 115, 117, 115, 112, 101, 110, 100, 32, 99, 114, 101, 97, 116, 101, 32, 99, 111, 114, 101, 116, 117, 114, 110, 32, 97, 99, 116, 105, 118, 97, 116, 101, 32, 112, 111, 112]).data.toList, c.toNat < 128 := by decide +kernel
  exact h b (List.mem_of_getElem? hb)

theorem fields_names (w : World) (ht : Tabs w) :
    Calls Tryd.prog 51 #[.string ⟨#[105, 110, 116, 101, 103, 101, 114, 32, 115, 116, 114, 105, 110, 103, 32, 99, 115, 101, 116, 32, 110, 117, 108, 108, 32, 108, 111, 99, 97, 108, 32, 103, 108, 111, 98, 97, 108, 32, 114, 111, 117, 116, 105, 110, 101, 32, 102, 117, 110, 99, 116, 105, 111, 110, 32, 99, 111, 110, 115, 116, 114, 117, 99, 116, 111, 114, 32, 107, 101, 121, 119, 111, 114, 100, 32, 111, 112, 101, 114, 97, 116, 101, 32, 99, 97, 108, 108, 32, 109, 97, 114, 107, 32, 117, 110, 109, 97, 114, 107, 32, 103, 111, 116, 111, 32, 102, 97, 105, 108, 32, 99, 104, 111, 111, 115, 101, 32, 116, 105, 99, 107, 32, 112, 114, 111, 100, 117, 99, 101, 100, 32, 98, 111, 117, 110, 100, 32, 99, 111, 117, 110, 116, 32, 115, 99, 97, 110, 32, 115, 99, 97, 110, 110, 101, 100, 32, 114, 101, 116, 117, 114, 110, 32, 112, 114, 111, 99, 102, 97, 105, 108, 32, 115, 117, 115, 112, 101, 110, 100, 32, 99, 114, 101, 97, 116, 101, 32, 99, 111, 114, 101, 116, 117, 114, 110, 32, 97, 99, 116, 105, 118, 97, 116, 101, 32, 112, 111, 112]⟩] w fun e w' =>
      e = .returned (.slice (some ⟨w.heap.size, 0, none⟩) 30 30) ∧ w' = w.alloc (.cells (names.map fun l => Value.string ⟨l.toArray⟩).toArray 9) := by
  have h := Tryd.strings_Fields_laid ⟨#[105, 110, 116, 101, 103, 101, 114, 32, 115, 116, 114, 105, 110, 103, 32, 99, 115, 101, 116, 32, 110, 117, 108, 108, 32, 108, 111, 99, 97, 108, 32, 103, 108, 111, 98, 97, 108, 32, 114, 111, 117, 116, 105, 110, 101, 32, 102, 117, 110, 99, 116, 105, 111, 110, 32, 99, 111, 110, 115, 116, 114, 117, 99, 116, 111, 114, 32, 107, 101, 121, 119, 111, 114, 100, 32, 111, 112, 101, 114, 97, 116, 101, 32, 99, 97, 108, 108, 32, 109, 97, 114, 107, 32, 117, 110, 109, 97, 114, 107, 32, 103, 111, 116, 111, 32, 102, 97, 105, 108, 32, 99, 104, 111, 111, 115, 101, 32, 116, 105, 99, 107, 32, 112, 114, 111, 100, 117, 99, 101, 100, 32, 98, 111, 117, 110, 100, 32, 99, 111, 117, 110, 116, 32, 115, 99, 97, 110, 32, 115, 99, 97, 110, 110, 101, 100, 32, 114, 101, 116, 117, 114, 110, 32, 112, 114, 111, 99, 102, 97, 105, 108, 32, 115, 117, 115, 112, 101, 110, 100, 32, 99, 114, 101, 97, 116, 101, 32, 99, 111, 114, 101, 116, 117, 114, 110, 32, 97, 99, 116, 105, 118, 97, 116, 101, 32, 112, 111, 112]⟩ w (by decide +kernel) names_ascii ht.2
  rw [names_fields] at h
  exact h

set_option maxHeartbeats 400000 in
theorem instrNames_any (op : Int) (w : World) (h0 : 1 ≤ op) (h1 : op ≤ 30) (ht : Tabs w) :
    Calls Tryd.prog 21 #[] w fun e w' => e = .returned (.slice (some ⟨w.heap.size, 0, none⟩) 30 30) ∧ Below w.heap.size w w' ∧ w.heap.size < w'.heap.size ∧ w'.cell? ⟨w.heap.size, op.toNat - 1, none⟩ = some (.string (nameOf op)) := by
  go_enter Tryd.func21, Tryd.ntmps21
  go_wp2_with fail
  refine (fields_names w ht).mono ?_
  rintro e w' ⟨rfl, rfl⟩
  go_wp2_with fail
  go_ret
  refine ⟨rfl, (Below.refl _ _).alloc (Nat.le_refl _) _, by simp, ?_⟩
  rw [cell_of_row _ w.heap.size (op.toNat - 1) _ _ _ (heap_alloc_new w _)]
  simpa using implNames_at op h0 h1

set_option maxHeartbeats 400000 in
theorem implFormatInt_any (n : Int) (w : World) (h0 : -9223372036854775808 ≤ n) (h1 : n ≤ 9223372036854775807) (ht : Tabs w) :
    Calls Tryd.prog 54 #[.int .i64 n] w fun e w' => e = .returned (.string ⟨(Lib.itoa n).toArray⟩) ∧ Below w.heap.size w w' := by
  go_enter Tryd.func54, Tryd.ntmps54
  go_wp2_with (go_at_call 89; refine (Tryd.strconv_Itoa n h0 h1 w ht.1).mono ?_; rintro e w' ⟨rfl, k, os, rfl⟩)
  go_ret
  exact ⟨rfl, Lib.below_grow _ _ (Nat.le_refl _) _ _⟩

set_option maxHeartbeats 400000 in
theorem specQuoteText_any (s : ByteArray) (w : World) (hs : s.size ≤ 1048576) :
    Calls Tryd.prog 49 #[.string s] w fun e w' => e = .returned (.string (strOf (quoted 34 (ints s.data.toList)))) ∧ Below w.heap.size w w' := by
  go_enter Tryd.func49, Tryd.ntmps49
  go_wp2_with (go_at_call 82; refine (l4Quote_any s 34 w hs (by decide) (by decide) (Or.inl rfl)).mono ?_; rintro e w' ⟨rfl, hb⟩)
  go_ret
  exact ⟨rfl, hb⟩

set_option maxHeartbeats 400000 in
theorem implQuoteText_any (s : ByteArray) (w : World) (hs : s.size ≤ 1048576) :
    Calls Tryd.prog 55 #[.string s] w fun e w' => e = .returned (.string (strOf (quoted 34 (ints s.data.toList)))) ∧ Below w.heap.size w w' := by
  go_enter Tryd.func55, Tryd.ntmps55
  go_wp2_with (go_at_call 90; refine (quoteWith_any s 34 w hs (by decide) (by decide) (Or.inl rfl)).mono ?_; rintro e w' ⟨rfl, hb⟩)
  go_ret
  exact ⟨rfl, hb⟩

/-- The whole text of an instruction. -/
def instrText (op a b line : Int) (t : ByteArray) : ByteArray :=
  nameOf op ++ ⟨#[32]⟩ ++ ⟨(Lib.itoa a).toArray⟩ ++ ⟨#[32]⟩ ++ ⟨(Lib.itoa b).toArray⟩ ++ ⟨#[32]⟩ ++ ⟨(Lib.itoa line).toArray⟩ ++ ⟨#[32]⟩ ++ strOf (quoted 34 (ints t.data.toList))

def I64 (n : Int) : Prop := -9223372036854775808 ≤ n ∧ n ≤ 9223372036854775807

theorem Tabs.alloc {w : World} (h : Tabs w) (o : Obj) : Tabs (w.alloc o) := h.below ((Below.refl _ _).alloc (Nat.le_refl _) o)
theorem Tabs.drew {w : World} (h : Tabs w) : Tabs w.drew := h.below (Below.refl _ _).drew

/-- What the drawn region of FormatInstr keeps: the boxed argument's cells, the name's cell once it is there, the tables. -/
abbrev Kept (N k : Nat) (op a b line : Int) (t : ByteArray) (w' : World) : Prop :=
  w'.cell? ⟨N, 0, none⟩ = some (.int .i64 op) ∧ w'.cell? ⟨N, 1, none⟩ = some (.int .i64 a) ∧ w'.cell? ⟨N, 2, none⟩ = some (.int .i64 b) ∧ w'.cell? ⟨N, 3, none⟩ = some (.int .i64 line) ∧ w'.cell? ⟨N, 4, none⟩ = some (.string t) ∧
    (N + 1 < w'.heap.size → w'.cell? ⟨N + 1, k, none⟩ = some (.string (nameOf op))) ∧ N < w'.heap.size ∧ Tabs w'

theorem Kept.start (k : Nat) (op a b line : Int) (t : ByteArray) (w : World) (ht : Tabs w) :
    Kept w.heap.size k op a b line t (w.alloc (.cells #[.int .i64 op, .int .i64 a, .int .i64 b, .int .i64 line, .string t] 23)).drew := by
  have hc := fun i => cell_of_row _ w.heap.size i _ _ _ (heap_alloc_new w (.cells #[.int .i64 op, .int .i64 a, .int .i64 b, .int .i64 line, .string t] 23))
  refine ⟨hc 0, hc 1, hc 2, hc 3, hc 4, fun h => ?_, ?_, (ht.alloc _).drew⟩
  · simp at h
  · simp

theorem Kept.next {N k : Nat} {op a b line : Int} {t : ByteArray} {W w1 : World} (h : Kept N k op a b line t W) (hb : Below W.heap.size W w1)
    (hn : N + 1 < W.heap.size ∨ w1.cell? ⟨N + 1, k, none⟩ = some (.string (nameOf op))) : Kept N k op a b line t w1 := by
  obtain ⟨c0, c1, c2, c3, c4, cn, hN, ht⟩ := h
  have hz := hb.size
  refine ⟨(hb.cell hN).trans c0, (hb.cell hN).trans c1, (hb.cell hN).trans c2, (hb.cell hN).trans c3, (hb.cell hN).trans c4, fun _ => ?_, by omega, ht.below hb⟩
  rcases hn with hn | hn
  · exact (hb.cell (p := ⟨N + 1, k, none⟩) hn).trans (cn hn)
  · exact hn

theorem Kept.first {N k : Nat} {op a b line : Int} {t : ByteArray} {W w1 : World} (h : Kept N k op a b line t W) (hb : Later W w1) :
    w1.cell? ⟨N, 0, none⟩ = some (.int .i64 op) ∧ w1.cell? ⟨N, 1, none⟩ = some (.int .i64 a) ∧ w1.cell? ⟨N, 2, none⟩ = some (.int .i64 b) ∧ w1.cell? ⟨N, 3, none⟩ = some (.int .i64 line) ∧ w1.cell? ⟨N, 4, none⟩ = some (.string t) := by
  obtain ⟨c0, c1, c2, c3, c4, cn, hN, ht⟩ := h
  exact ⟨(hb.cell _ hN).trans c0, (hb.cell _ hN).trans c1, (hb.cell _ hN).trans c2, (hb.cell _ hN).trans c3, (hb.cell _ hN).trans c4⟩

set_option maxRecDepth 100000 in
set_option maxHeartbeats 4000000 in
theorem specFormatInstr_in (op a b line : Int) (t : ByteArray) (w : World) (hts : t.size ≤ 1048576) (h0 : 1 ≤ op) (h1 : op ≤ 30) (ha : I64 a) (hb : I64 b) (hl : I64 line) (ht : Tabs w) :
    Calls Tryd.prog 19 #[.agg #[.int .i64 op, .int .i64 a, .int .i64 b, .int .i64 line, .string t]] w fun e w' => e = .returned (.string (instrText op a b line t)) ∧ Below w.heap.size w w' := by
  obtain ⟨a0, a1⟩ := ha
  obtain ⟨b0, b1⟩ := hb
  obtain ⟨l0, l1⟩ := hl
  have sA := itoa_len a a0 a1
  have sB := itoa_len b b0 b1
  have sL := itoa_len line l0 l1
  have sN := nameOf_size op
  have sQ : (strOf (quoted 34 (ints t.data.toList))).size ≤ 4194306 := by
    rw [strOf_size]
    have := quoted_len 34 (ints t.data.toList)
    have e : (ints t.data.toList).length = t.size := by simp [ints]
    omega
  have hst := Lib.hid (Kept.start (op.toNat) op a b line t w ht)
  have hop0 : 0 ≤ op := by omega
  have hop1 : op < 31 := by omega
  go_enter Tryd.func19, Tryd.ntmps19
  go_wp2_with fail
  -- <SPEC>
  -- region 3: 26 operations, the tail from 26 on
  refine wpS_begin 26 (by kernel_rfl) (fun w1 hw1 => ?_)
  subst hw1
  refine wpS_take 1 (some 12) (v := ?_) rfl rfl (by kernel_rfl) (fun _ _ _ h => h) rfl (fun x hx => ?_) ?_
  rotate_left 1
  · have kx := Kept.first hst.out hx; go_simp; first | done | with_reducible rfl | rw [if_neg (by omega)] | rw [if_pos (by omega)]
  simp only [Act.put, List.setIfInBounds_toArray, List.set_cons_zero, List.set_cons_succ]
  refine wpS_take 2 (some 13) (v := ?_) rfl rfl (by kernel_rfl) (fun _ _ _ h => h) rfl (fun x hx => ?_) ?_
  rotate_left 1
  · have kx := Kept.first hst.out hx; go_simp; first | done | with_reducible rfl | rw [if_neg (by omega)] | rw [if_pos (by omega)]
  simp only [Act.put, List.setIfInBounds_toArray, List.set_cons_zero, List.set_cons_succ]
  refine wpS_take 6 (some 17) (v := ?_) rfl rfl (by kernel_rfl) (fun _ _ _ h => h) rfl (fun x hx => ?_) ?_
  rotate_left 1
  · have kx := Kept.first hst.out hx; go_simp; first | done | with_reducible rfl | rw [if_neg (by omega)] | rw [if_pos (by omega)]
  simp only [Act.put, List.setIfInBounds_toArray, List.set_cons_zero, List.set_cons_succ]
  refine wpS_take 7 (some 18) (v := ?_) rfl rfl (by kernel_rfl) (fun _ _ _ h => h) rfl (fun x hx => ?_) ?_
  rotate_left 1
  · have kx := Kept.first hst.out hx; go_simp; first | done | with_reducible rfl | rw [if_neg (by omega)] | rw [if_pos (by omega)]
  simp only [Act.put, List.setIfInBounds_toArray, List.set_cons_zero, List.set_cons_succ]
  refine wpS_take 11 (some 22) (v := ?_) rfl rfl (by kernel_rfl) (fun _ _ _ h => h) rfl (fun x hx => ?_) ?_
  rotate_left 1
  · have kx := Kept.first hst.out hx; go_simp; first | done | with_reducible rfl | rw [if_neg (by omega)] | rw [if_pos (by omega)]
  simp only [Act.put, List.setIfInBounds_toArray, List.set_cons_zero, List.set_cons_succ]
  refine wpS_take 12 (some 23) (v := ?_) rfl rfl (by kernel_rfl) (fun _ _ _ h => h) rfl (fun x hx => ?_) ?_
  rotate_left 1
  · have kx := Kept.first hst.out hx; go_simp; first | done | with_reducible rfl | rw [if_neg (by omega)] | rw [if_pos (by omega)]
  simp only [Act.put, List.setIfInBounds_toArray, List.set_cons_zero, List.set_cons_succ]
  refine wpS_take 16 (some 27) (v := ?_) rfl rfl (by kernel_rfl) (fun _ _ _ h => h) rfl (fun x hx => ?_) ?_
  rotate_left 1
  · have kx := Kept.first hst.out hx; go_simp; first | done | with_reducible rfl | rw [if_neg (by omega)] | rw [if_pos (by omega)]
  simp only [Act.put, List.setIfInBounds_toArray, List.set_cons_zero, List.set_cons_succ]
  refine wpS_take 17 (some 28) (v := ?_) rfl rfl (by kernel_rfl) (fun _ _ _ h => h) rfl (fun x hx => ?_) ?_
  rotate_left 1
  · have kx := Kept.first hst.out hx; go_simp; first | done | with_reducible rfl | rw [if_neg (by omega)] | rw [if_pos (by omega)]
  simp only [Act.put, List.setIfInBounds_toArray, List.set_cons_zero, List.set_cons_succ]
  refine wpS_take 21 (some 32) (v := ?_) rfl rfl (by kernel_rfl) (fun _ _ _ h => h) rfl (fun x hx => ?_) ?_
  rotate_left 1
  · have kx := Kept.first hst.out hx; go_simp; first | done | with_reducible rfl | rw [if_neg (by omega)] | rw [if_pos (by omega)]
  simp only [Act.put, List.setIfInBounds_toArray, List.set_cons_zero, List.set_cons_succ]
  refine wpS_take 22 (some 33) (v := ?_) rfl rfl (by kernel_rfl) (fun _ _ _ h => h) rfl (fun x hx => ?_) ?_
  rotate_left 1
  · have kx := Kept.first hst.out hx; go_simp; first | done | with_reducible rfl | rw [if_neg (by omega)] | rw [if_pos (by omega)]
  simp only [Act.put, List.setIfInBounds_toArray, List.set_cons_zero, List.set_cons_succ]
  refine wpS_step 0 (by kernel_rfl) rfl ?_  -- call value (Go.Operand.func 8)
  go_wp2_with (go_at_call 15; refine (l28Names_any op _ h0 h1).mono ?_; rintro e w2 ⟨rfl, hb2, hz2, hc2⟩)
  refine ⟨hb2, ?_⟩
  have hk := Kept.next hst.out hb2 (Or.inr (by simpa using hc2))
  have hsz : w.heap.size + 1 < w2.heap.size := by simpa using hz2
  have hacc : Later w w2 := Later.trans (((Later.refl w).alloc _).drew) hb2
  clear hb2 hz2 hc2
  refine wpS_take 3 (some 14) (v := ?_) rfl rfl (by kernel_rfl) (fun _ _ _ h => h) rfl (fun x hx => ?_) ?_
  rotate_left 1
  · have kx := Kept.next hk hx (Or.inl hsz); have hsx := Nat.lt_of_lt_of_le hsz hx.size; go_simp; first | done | with_reducible rfl | rw [if_neg (by omega)] | rw [if_pos (by omega)]
  simp only [Act.put, List.setIfInBounds_toArray, List.set_cons_zero, List.set_cons_succ]
  refine wpS_take 4 (some 15) (v := ?_) rfl rfl (by kernel_rfl) (fun _ _ _ h => h) rfl (fun x hx => ?_) ?_
  rotate_left 1
  · have kx := Kept.next hk hx (Or.inl hsz); have hsx := Nat.lt_of_lt_of_le hsz hx.size; go_simp; first | done | with_reducible rfl | rw [if_neg (by omega)] | rw [if_pos (by omega)]
  simp only [Act.put, List.setIfInBounds_toArray, List.set_cons_zero, List.set_cons_succ]
  refine wpS_take 5 (some 16) (v := ?_) rfl rfl (by kernel_rfl) (fun _ _ _ h => h) rfl (fun x hx => ?_) ?_
  rotate_left 1
  · have kx := Kept.next hk hx (Or.inl hsz); have hsx := Nat.lt_of_lt_of_le hsz hx.size; go_simp; first | done | with_reducible rfl | rw [if_neg (by omega)] | rw [if_pos (by omega)]
  simp only [Act.put, List.setIfInBounds_toArray, List.set_cons_zero, List.set_cons_succ]
  refine wpS_step 8 (by kernel_rfl) rfl ?_  -- call value (Go.Operand.func 9)
  go_wp2_with (go_at_call 48; refine (specFormatInt_any a _ a0 a1).mono ?_; rintro e w3 ⟨rfl, hb2⟩)
  refine ⟨hb2, ?_⟩
  have hz2 := hb2.size
  replace hk := Kept.next hk hb2 (Or.inl hsz)
  replace hsz : w.heap.size + 1 < w3.heap.size := Nat.lt_of_lt_of_le hsz hb2.size
  replace hacc : Later w w3 := hacc.trans hb2
  clear hb2 hz2
  refine wpS_take 9 (some 20) (v := ?_) rfl rfl (by kernel_rfl) (fun _ _ _ h => h) rfl (fun x hx => ?_) ?_
  rotate_left 1
  · have kx := Kept.next hk hx (Or.inl hsz); have hsx := Nat.lt_of_lt_of_le hsz hx.size; go_simp; first | done | with_reducible rfl | rw [if_neg (by omega)] | rw [if_pos (by omega)]
  simp only [Act.put, List.setIfInBounds_toArray, List.set_cons_zero, List.set_cons_succ]
  refine wpS_take 10 (some 21) (v := ?_) rfl rfl (by kernel_rfl) (fun _ _ _ h => h) rfl (fun x hx => ?_) ?_
  rotate_left 1
  · have kx := Kept.next hk hx (Or.inl hsz); have hsx := Nat.lt_of_lt_of_le hsz hx.size; go_simp; first | done | with_reducible rfl | rw [if_neg (by omega)] | rw [if_pos (by omega)]
  simp only [Act.put, List.setIfInBounds_toArray, List.set_cons_zero, List.set_cons_succ]
  refine wpS_step 13 (by kernel_rfl) rfl ?_  -- call value (Go.Operand.func 9)
  go_wp2_with (go_at_call 48; refine (specFormatInt_any b _ b0 b1).mono ?_; rintro e w4 ⟨rfl, hb2⟩)
  refine ⟨hb2, ?_⟩
  have hz2 := hb2.size
  replace hk := Kept.next hk hb2 (Or.inl hsz)
  replace hsz : w.heap.size + 1 < w4.heap.size := Nat.lt_of_lt_of_le hsz hb2.size
  replace hacc : Later w w4 := hacc.trans hb2
  clear hb2 hz2
  refine wpS_take 14 (some 25) (v := ?_) rfl rfl (by kernel_rfl) (fun _ _ _ h => h) rfl (fun x hx => ?_) ?_
  rotate_left 1
  · have kx := Kept.next hk hx (Or.inl hsz); have hsx := Nat.lt_of_lt_of_le hsz hx.size; go_simp; first | done | with_reducible rfl | rw [if_neg (by omega)] | rw [if_pos (by omega)]
  simp only [Act.put, List.setIfInBounds_toArray, List.set_cons_zero, List.set_cons_succ]
  refine wpS_take 15 (some 26) (v := ?_) rfl rfl (by kernel_rfl) (fun _ _ _ h => h) rfl (fun x hx => ?_) ?_
  rotate_left 1
  · have kx := Kept.next hk hx (Or.inl hsz); have hsx := Nat.lt_of_lt_of_le hsz hx.size; go_simp; first | done | with_reducible rfl | rw [if_neg (by omega)] | rw [if_pos (by omega)]
  simp only [Act.put, List.setIfInBounds_toArray, List.set_cons_zero, List.set_cons_succ]
  refine wpS_step 18 (by kernel_rfl) rfl ?_  -- call value (Go.Operand.func 9)
  go_wp2_with (go_at_call 48; refine (specFormatInt_any line _ l0 l1).mono ?_; rintro e w5 ⟨rfl, hb2⟩)
  refine ⟨hb2, ?_⟩
  have hz2 := hb2.size
  replace hk := Kept.next hk hb2 (Or.inl hsz)
  replace hsz : w.heap.size + 1 < w5.heap.size := Nat.lt_of_lt_of_le hsz hb2.size
  replace hacc : Later w w5 := hacc.trans hb2
  clear hb2 hz2
  refine wpS_take 19 (some 30) (v := ?_) rfl rfl (by kernel_rfl) (fun _ _ _ h => h) rfl (fun x hx => ?_) ?_
  rotate_left 1
  · have kx := Kept.next hk hx (Or.inl hsz); have hsx := Nat.lt_of_lt_of_le hsz hx.size; go_simp; first | done | with_reducible rfl | rw [if_neg (by omega)] | rw [if_pos (by omega)]
  simp only [Act.put, List.setIfInBounds_toArray, List.set_cons_zero, List.set_cons_succ]
  refine wpS_take 20 (some 31) (v := ?_) rfl rfl (by kernel_rfl) (fun _ _ _ h => h) rfl (fun x hx => ?_) ?_
  rotate_left 1
  · have kx := Kept.next hk hx (Or.inl hsz); have hsx := Nat.lt_of_lt_of_le hsz hx.size; go_simp; first | done | with_reducible rfl | rw [if_neg (by omega)] | rw [if_pos (by omega)]
  simp only [Act.put, List.setIfInBounds_toArray, List.set_cons_zero, List.set_cons_succ]
  refine wpS_step 23 (by kernel_rfl) rfl ?_  -- call value (Go.Operand.func 10)
  go_wp2_with (go_at_call 49; refine (specQuoteText_any t _ hts).mono ?_; rintro e w6 ⟨rfl, hb2⟩)
  refine ⟨hb2, ?_⟩
  have hz2 := hb2.size
  replace hk := Kept.next hk hb2 (Or.inl hsz)
  replace hsz : w.heap.size + 1 < w6.heap.size := Nat.lt_of_lt_of_le hsz hb2.size
  replace hacc : Later w w6 := hacc.trans hb2
  clear hb2 hz2
  refine wpS_take 24 (some 35) (v := ?_) rfl rfl (by kernel_rfl) (fun _ _ _ h => h) rfl (fun x hx => ?_) ?_
  rotate_left 1
  · have kx := Kept.next hk hx (Or.inl hsz); have hsx := Nat.lt_of_lt_of_le hsz hx.size; go_simp; first | done | with_reducible rfl | rw [if_neg (by omega)] | rw [if_pos (by omega)]
  simp only [Act.put, List.setIfInBounds_toArray, List.set_cons_zero, List.set_cons_succ]
  refine wpS_take 25 (some 2) (v := ?_) rfl rfl (by kernel_rfl) (fun _ _ _ h => h) rfl (fun x hx => ?_) ?_
  rotate_left 1
  · have kx := Kept.next hk hx (Or.inl hsz); have hsx := Nat.lt_of_lt_of_le hsz hx.size; go_simp; first | done | with_reducible rfl | rw [if_neg (by omega)] | rw [if_pos (by omega)]
  simp only [Act.put, List.setIfInBounds_toArray, List.set_cons_zero, List.set_cons_succ]
  refine wpS_tail 26 0 _ rfl (by kernel_rfl) rfl ?_
  simp only [List.drop_succ_cons, List.drop_zero]
  -- </SPEC>
  refine wpList_nil ?_
  go_wp2_with fail
  go_ret
  exact ⟨rfl, hacc⟩

set_option maxRecDepth 100000 in
set_option maxHeartbeats 4000000 in
theorem implFormatInstr_in (op a b line : Int) (t : ByteArray) (w : World) (hts : t.size ≤ 1048576) (h0 : 1 ≤ op) (h1 : op ≤ 30) (ha : I64 a) (hb : I64 b) (hl : I64 line) (ht : Tabs w) :
    Calls Tryd.prog 24 #[.agg #[.int .i64 op, .int .i64 a, .int .i64 b, .int .i64 line, .string t]] w fun e w' => e = .returned (.string (instrText op a b line t)) ∧ Below w.heap.size w w' := by
  obtain ⟨a0, a1⟩ := ha
  obtain ⟨b0, b1⟩ := hb
  obtain ⟨l0, l1⟩ := hl
  have sA := itoa_len a a0 a1
  have sB := itoa_len b b0 b1
  have sL := itoa_len line l0 l1
  have sN := nameOf_size op
  have sQ : (strOf (quoted 34 (ints t.data.toList))).size ≤ 4194306 := by
    rw [strOf_size]
    have := quoted_len 34 (ints t.data.toList)
    have e : (ints t.data.toList).length = t.size := by simp [ints]
    omega
  have hst := Lib.hid (Kept.start (op.toNat - 1) op a b line t w ht)
  have hop0 : 0 ≤ op - 1 := by omega
  have hop1 : op - 1 < 30 := by omega
  have hop2 : (op - 1).toNat = op.toNat - 1 := by omega
  have hop3 : IntKind.i64.wrap (op - 1) = op - 1 := IntWalk.i64_in _ (by omega)
  go_enter Tryd.func24, Tryd.ntmps24
  go_wp2_with fail
  -- <IMPL>
  -- region 3: 27 operations, the tail from 27 on
  refine wpS_begin 27 (by kernel_rfl) (fun w1 hw1 => ?_)
  subst hw1
  refine wpS_take 1 (some 12) (v := ?_) rfl rfl (by kernel_rfl) (fun _ _ _ h => h) rfl (fun x hx => ?_) ?_
  rotate_left 1
  · have kx := Kept.first hst.out hx; go_simp; first | done | with_reducible rfl | rw [if_neg (by omega)] | rw [if_pos (by omega)]
  simp only [Act.put, List.setIfInBounds_toArray, List.set_cons_zero, List.set_cons_succ]
  refine wpS_take 2 (some 13) (v := ?_) rfl rfl (by kernel_rfl) (fun _ _ _ h => h) rfl (fun x hx => ?_) ?_
  rotate_left 1
  · have kx := Kept.first hst.out hx; go_simp; first | done | with_reducible rfl | rw [if_neg (by omega)] | rw [if_pos (by omega)]
  simp only [Act.put, List.setIfInBounds_toArray, List.set_cons_zero, List.set_cons_succ]
  refine wpS_take 3 (some 14) (v := ?_) rfl rfl (by kernel_rfl) (fun _ _ _ h => h) rfl (fun x hx => ?_) ?_
  rotate_left 1
  · have kx := Kept.first hst.out hx; go_simp; first | done | with_reducible rfl | rw [if_neg (by omega)] | rw [if_pos (by omega)]
  simp only [Act.put, List.setIfInBounds_toArray, List.set_cons_zero, List.set_cons_succ]
  refine wpS_take 7 (some 18) (v := ?_) rfl rfl (by kernel_rfl) (fun _ _ _ h => h) rfl (fun x hx => ?_) ?_
  rotate_left 1
  · have kx := Kept.first hst.out hx; go_simp; first | done | with_reducible rfl | rw [if_neg (by omega)] | rw [if_pos (by omega)]
  simp only [Act.put, List.setIfInBounds_toArray, List.set_cons_zero, List.set_cons_succ]
  refine wpS_take 8 (some 19) (v := ?_) rfl rfl (by kernel_rfl) (fun _ _ _ h => h) rfl (fun x hx => ?_) ?_
  rotate_left 1
  · have kx := Kept.first hst.out hx; go_simp; first | done | with_reducible rfl | rw [if_neg (by omega)] | rw [if_pos (by omega)]
  simp only [Act.put, List.setIfInBounds_toArray, List.set_cons_zero, List.set_cons_succ]
  refine wpS_take 12 (some 23) (v := ?_) rfl rfl (by kernel_rfl) (fun _ _ _ h => h) rfl (fun x hx => ?_) ?_
  rotate_left 1
  · have kx := Kept.first hst.out hx; go_simp; first | done | with_reducible rfl | rw [if_neg (by omega)] | rw [if_pos (by omega)]
  simp only [Act.put, List.setIfInBounds_toArray, List.set_cons_zero, List.set_cons_succ]
  refine wpS_take 13 (some 24) (v := ?_) rfl rfl (by kernel_rfl) (fun _ _ _ h => h) rfl (fun x hx => ?_) ?_
  rotate_left 1
  · have kx := Kept.first hst.out hx; go_simp; first | done | with_reducible rfl | rw [if_neg (by omega)] | rw [if_pos (by omega)]
  simp only [Act.put, List.setIfInBounds_toArray, List.set_cons_zero, List.set_cons_succ]
  refine wpS_take 17 (some 28) (v := ?_) rfl rfl (by kernel_rfl) (fun _ _ _ h => h) rfl (fun x hx => ?_) ?_
  rotate_left 1
  · have kx := Kept.first hst.out hx; go_simp; first | done | with_reducible rfl | rw [if_neg (by omega)] | rw [if_pos (by omega)]
  simp only [Act.put, List.setIfInBounds_toArray, List.set_cons_zero, List.set_cons_succ]
  refine wpS_take 18 (some 29) (v := ?_) rfl rfl (by kernel_rfl) (fun _ _ _ h => h) rfl (fun x hx => ?_) ?_
  rotate_left 1
  · have kx := Kept.first hst.out hx; go_simp; first | done | with_reducible rfl | rw [if_neg (by omega)] | rw [if_pos (by omega)]
  simp only [Act.put, List.setIfInBounds_toArray, List.set_cons_zero, List.set_cons_succ]
  refine wpS_take 22 (some 33) (v := ?_) rfl rfl (by kernel_rfl) (fun _ _ _ h => h) rfl (fun x hx => ?_) ?_
  rotate_left 1
  · have kx := Kept.first hst.out hx; go_simp; first | done | with_reducible rfl | rw [if_neg (by omega)] | rw [if_pos (by omega)]
  simp only [Act.put, List.setIfInBounds_toArray, List.set_cons_zero, List.set_cons_succ]
  refine wpS_take 23 (some 34) (v := ?_) rfl rfl (by kernel_rfl) (fun _ _ _ h => h) rfl (fun x hx => ?_) ?_
  rotate_left 1
  · have kx := Kept.first hst.out hx; go_simp; first | done | with_reducible rfl | rw [if_neg (by omega)] | rw [if_pos (by omega)]
  simp only [Act.put, List.setIfInBounds_toArray, List.set_cons_zero, List.set_cons_succ]
  refine wpS_step 0 (by kernel_rfl) rfl ?_  -- call value (Go.Operand.func 11)
  go_wp2_with (go_at_call 21; refine (instrNames_any op _ h0 h1 hst.out.2.2.2.2.2.2.2).mono ?_; rintro e w2 ⟨rfl, hb2, hz2, hc2⟩)
  refine ⟨hb2, ?_⟩
  have hk := Kept.next hst.out hb2 (Or.inr (by simpa using hc2))
  have hsz : w.heap.size + 1 < w2.heap.size := by simpa using hz2
  have hacc : Later w w2 := Later.trans (((Later.refl w).alloc _).drew) hb2
  clear hb2 hz2 hc2
  refine wpS_take 4 (some 15) (v := ?_) rfl rfl (by kernel_rfl) (fun _ _ _ h => h) rfl (fun x hx => ?_) ?_
  rotate_left 1
  · have kx := Kept.next hk hx (Or.inl hsz); have hsx := Nat.lt_of_lt_of_le hsz hx.size; go_simp; first | done | with_reducible rfl | rw [if_neg (by omega)] | rw [if_pos (by omega)]
  simp only [Act.put, List.setIfInBounds_toArray, List.set_cons_zero, List.set_cons_succ]
  refine wpS_take 5 (some 16) (v := ?_) rfl rfl (by kernel_rfl) (fun _ _ _ h => h) rfl (fun x hx => ?_) ?_
  rotate_left 1
  · have kx := Kept.next hk hx (Or.inl hsz); have hsx := Nat.lt_of_lt_of_le hsz hx.size; go_simp; first | done | with_reducible rfl | rw [if_neg (by omega)] | rw [if_pos (by omega)]
  simp only [Act.put, List.setIfInBounds_toArray, List.set_cons_zero, List.set_cons_succ]
  refine wpS_take 6 (some 17) (v := ?_) rfl rfl (by kernel_rfl) (fun _ _ _ h => h) rfl (fun x hx => ?_) ?_
  rotate_left 1
  · have kx := Kept.next hk hx (Or.inl hsz); have hsx := Nat.lt_of_lt_of_le hsz hx.size; go_simp; first | done | with_reducible rfl | rw [if_neg (by omega)] | rw [if_pos (by omega)]
  simp only [Act.put, List.setIfInBounds_toArray, List.set_cons_zero, List.set_cons_succ]
  refine wpS_step 9 (by kernel_rfl) rfl ?_  -- call value (Go.Operand.func 12)
  go_wp2_with (go_at_call 54; refine (implFormatInt_any a _ a0 a1 hk.2.2.2.2.2.2.2).mono ?_; rintro e w3 ⟨rfl, hb2⟩)
  refine ⟨hb2, ?_⟩
  have hz2 := hb2.size
  replace hk := Kept.next hk hb2 (Or.inl hsz)
  replace hsz : w.heap.size + 1 < w3.heap.size := Nat.lt_of_lt_of_le hsz hb2.size
  replace hacc : Later w w3 := hacc.trans hb2
  clear hb2 hz2
  refine wpS_take 10 (some 21) (v := ?_) rfl rfl (by kernel_rfl) (fun _ _ _ h => h) rfl (fun x hx => ?_) ?_
  rotate_left 1
  · have kx := Kept.next hk hx (Or.inl hsz); have hsx := Nat.lt_of_lt_of_le hsz hx.size; go_simp; first | done | with_reducible rfl | rw [if_neg (by omega)] | rw [if_pos (by omega)]
  simp only [Act.put, List.setIfInBounds_toArray, List.set_cons_zero, List.set_cons_succ]
  refine wpS_take 11 (some 22) (v := ?_) rfl rfl (by kernel_rfl) (fun _ _ _ h => h) rfl (fun x hx => ?_) ?_
  rotate_left 1
  · have kx := Kept.next hk hx (Or.inl hsz); have hsx := Nat.lt_of_lt_of_le hsz hx.size; go_simp; first | done | with_reducible rfl | rw [if_neg (by omega)] | rw [if_pos (by omega)]
  simp only [Act.put, List.setIfInBounds_toArray, List.set_cons_zero, List.set_cons_succ]
  refine wpS_step 14 (by kernel_rfl) rfl ?_  -- call value (Go.Operand.func 12)
  go_wp2_with (go_at_call 54; refine (implFormatInt_any b _ b0 b1 hk.2.2.2.2.2.2.2).mono ?_; rintro e w4 ⟨rfl, hb2⟩)
  refine ⟨hb2, ?_⟩
  have hz2 := hb2.size
  replace hk := Kept.next hk hb2 (Or.inl hsz)
  replace hsz : w.heap.size + 1 < w4.heap.size := Nat.lt_of_lt_of_le hsz hb2.size
  replace hacc : Later w w4 := hacc.trans hb2
  clear hb2 hz2
  refine wpS_take 15 (some 26) (v := ?_) rfl rfl (by kernel_rfl) (fun _ _ _ h => h) rfl (fun x hx => ?_) ?_
  rotate_left 1
  · have kx := Kept.next hk hx (Or.inl hsz); have hsx := Nat.lt_of_lt_of_le hsz hx.size; go_simp; first | done | with_reducible rfl | rw [if_neg (by omega)] | rw [if_pos (by omega)]
  simp only [Act.put, List.setIfInBounds_toArray, List.set_cons_zero, List.set_cons_succ]
  refine wpS_take 16 (some 27) (v := ?_) rfl rfl (by kernel_rfl) (fun _ _ _ h => h) rfl (fun x hx => ?_) ?_
  rotate_left 1
  · have kx := Kept.next hk hx (Or.inl hsz); have hsx := Nat.lt_of_lt_of_le hsz hx.size; go_simp; first | done | with_reducible rfl | rw [if_neg (by omega)] | rw [if_pos (by omega)]
  simp only [Act.put, List.setIfInBounds_toArray, List.set_cons_zero, List.set_cons_succ]
  refine wpS_step 19 (by kernel_rfl) rfl ?_  -- call value (Go.Operand.func 12)
  go_wp2_with (go_at_call 54; refine (implFormatInt_any line _ l0 l1 hk.2.2.2.2.2.2.2).mono ?_; rintro e w5 ⟨rfl, hb2⟩)
  refine ⟨hb2, ?_⟩
  have hz2 := hb2.size
  replace hk := Kept.next hk hb2 (Or.inl hsz)
  replace hsz : w.heap.size + 1 < w5.heap.size := Nat.lt_of_lt_of_le hsz hb2.size
  replace hacc : Later w w5 := hacc.trans hb2
  clear hb2 hz2
  refine wpS_take 20 (some 31) (v := ?_) rfl rfl (by kernel_rfl) (fun _ _ _ h => h) rfl (fun x hx => ?_) ?_
  rotate_left 1
  · have kx := Kept.next hk hx (Or.inl hsz); have hsx := Nat.lt_of_lt_of_le hsz hx.size; go_simp; first | done | with_reducible rfl | rw [if_neg (by omega)] | rw [if_pos (by omega)]
  simp only [Act.put, List.setIfInBounds_toArray, List.set_cons_zero, List.set_cons_succ]
  refine wpS_take 21 (some 32) (v := ?_) rfl rfl (by kernel_rfl) (fun _ _ _ h => h) rfl (fun x hx => ?_) ?_
  rotate_left 1
  · have kx := Kept.next hk hx (Or.inl hsz); have hsx := Nat.lt_of_lt_of_le hsz hx.size; go_simp; first | done | with_reducible rfl | rw [if_neg (by omega)] | rw [if_pos (by omega)]
  simp only [Act.put, List.setIfInBounds_toArray, List.set_cons_zero, List.set_cons_succ]
  refine wpS_step 24 (by kernel_rfl) rfl ?_  -- call value (Go.Operand.func 13)
  go_wp2_with (go_at_call 55; refine (implQuoteText_any t _ hts).mono ?_; rintro e w6 ⟨rfl, hb2⟩)
  refine ⟨hb2, ?_⟩
  have hz2 := hb2.size
  replace hk := Kept.next hk hb2 (Or.inl hsz)
  replace hsz : w.heap.size + 1 < w6.heap.size := Nat.lt_of_lt_of_le hsz hb2.size
  replace hacc : Later w w6 := hacc.trans hb2
  clear hb2 hz2
  refine wpS_take 25 (some 36) (v := ?_) rfl rfl (by kernel_rfl) (fun _ _ _ h => h) rfl (fun x hx => ?_) ?_
  rotate_left 1
  · have kx := Kept.next hk hx (Or.inl hsz); have hsx := Nat.lt_of_lt_of_le hsz hx.size; go_simp; first | done | with_reducible rfl | rw [if_neg (by omega)] | rw [if_pos (by omega)]
  simp only [Act.put, List.setIfInBounds_toArray, List.set_cons_zero, List.set_cons_succ]
  refine wpS_take 26 (some 2) (v := ?_) rfl rfl (by kernel_rfl) (fun _ _ _ h => h) rfl (fun x hx => ?_) ?_
  rotate_left 1
  · have kx := Kept.next hk hx (Or.inl hsz); have hsx := Nat.lt_of_lt_of_le hsz hx.size; go_simp; first | done | with_reducible rfl | rw [if_neg (by omega)] | rw [if_pos (by omega)]
  simp only [Act.put, List.setIfInBounds_toArray, List.set_cons_zero, List.set_cons_succ]
  refine wpS_tail 27 0 _ rfl (by kernel_rfl) rfl ?_
  simp only [List.drop_succ_cons, List.drop_zero]
  -- </IMPL>
  refine wpList_nil ?_
  go_wp2_with fail
  go_ret
  exact ⟨rfl, hacc⟩

end Go.Proofs.YtopaeiogbijppaaDoor
