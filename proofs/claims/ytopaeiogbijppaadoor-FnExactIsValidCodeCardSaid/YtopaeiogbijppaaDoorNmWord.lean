/- Reserved words, both sides. Printed by gen_names.py. -/
import Derived.Test.YtopaeiogbijppaaDoorNmChar
import Derived.Test.YtopaeiogbijppaaDoorShelf
namespace Go.Proofs.YtopaeiogbijppaaDoor
open Go.RowKit

/-- The library's table of spaces. -/
def Spc (w : World) : Prop := Lib.TabIs Tryd.prog w "strings.asciiSpace" .u8 Lib.asciiSpaceTab
theorem g_spc' : Tryd.prog.globalNamed "strings.asciiSpace" = some 0 := by kernel_rfl
theorem Spc.below {w w' : World} (h : Spc w) (hb : Below w.heap.size w w') : Spc w' :=
  var?_below hb g_spc' (World.block_lt_of_cell? w _ (h.cell g_spc' 0 (by decide +kernel))) h
def rowObj' (l : List (List UInt8)) : Obj := .cells (l.map fun l => Value.string ⟨l.toArray⟩).toArray 9
/-- Texts out of bytes. -/
def txts (l : List (List UInt8)) : List ByteArray := l.map fun x => ⟨x.toArray⟩
theorem row_txts (w : World) (l : List (List UInt8)) (h1 : l.length ≤ 1000) (h2 : ∀ x ∈ l, x.length ≤ 1000) : RowIs strEl 1 (fun b => w.heap.size ≤ b) (w.alloc (rowObj' l)) (txts l) (.slice (some ⟨w.heap.size, 0, none⟩) l.length l.length) := by
  refine ⟨some ⟨w.heap.size, 0, none⟩, l.length, by simp [txts], by simp [txts], by unfold maxLen; omega, fun i hi => ?_⟩
  have hi' : i < l.length := by simpa [txts] using hi
  refine ⟨w.heap.size, 0, [.string (txts l)[i]], rfl, Nat.le_refl _, by simp, ⟨rfl, ?_⟩, fun j x hj => ?_⟩
  · have := h2 l[i] (List.getElem_mem hi')
    simp only [txts, List.getElem_map]
    show l[i].length ≤ maxLen
    unfold maxLen
    omega
  · cases j with
    | zero =>
      obtain rfl : Value.string (txts l)[i] = x := by simpa using hj
      rw [cell_of_row _ w.heap.size _ _ _ _ (heap_alloc_new w (rowObj' l))]
      simp [txts, hi']
    | succ j => simp at hj
theorem hasB_txts (l : List (List UInt8)) (s : ByteArray) : hasB (txts l) s = decide (bl s ∈ l) := by
  unfold hasB txts
  rw [List.map_map]
  have : (bl ∘ fun x : List UInt8 => (⟨x.toArray⟩ : ByteArray)) = id := by funext x; rfl
  rw [this, List.map_id]
def wReserved : List (List UInt8) := [[112, 114, 111, 99, 101, 100, 117, 114, 101], [101, 110, 100], [103, 108, 111, 98, 97, 108], [108, 111, 99, 97, 108], [114, 101, 99, 111, 114, 100], [105, 102], [116, 104, 101, 110], [101, 108, 115, 101], [119, 104, 105, 108, 101], [117, 110, 116, 105, 108], [101, 118, 101, 114, 121], [100, 111], [114, 101, 112, 101, 97, 116], [99, 97, 115, 101], [111, 102], [100, 101, 102, 97, 117, 108, 116], [114, 101, 116, 117, 114, 110], [115, 117, 115, 112, 101, 110, 100], [102, 97, 105, 108], [98, 114, 101, 97, 107], [110, 101, 120, 116], [99, 114, 101, 97, 116, 101], [116, 111], [98, 121], [110, 111, 116], [100, 101, 102, 101, 114]]
theorem splitReserved : Lib.fields (ByteArray.mk #[112, 114, 111, 99, 101, 100, 117, 114, 101, 32, 101, 110, 100, 32, 103, 108, 111, 98, 97, 108, 32, 108, 111, 99, 97, 108, 32, 114, 101, 99, 111, 114, 100, 32, 105, 102, 32, 116, 104, 101, 110, 32, 101, 108, 115, 101, 32, 119, 104, 105, 108, 101, 32, 117, 110, 116, 105, 108, 32, 101, 118, 101, 114, 121, 32, 100, 111, 32, 114, 101, 112, 101, 97, 116, 32, 99, 97, 115, 101, 32, 111, 102, 32, 100, 101, 102, 97, 117, 108, 116, 32, 114, 101, 116, 117, 114, 110, 32, 115, 117, 115, 112, 101, 110, 100, 32, 102, 97, 105, 108, 32, 98, 114, 101, 97, 107, 32, 110, 101, 120, 116, 32, 99, 114, 101, 97, 116, 101, 32, 116, 111, 32, 98, 121, 32, 110, 111, 116, 32, 100, 101, 102, 101, 114]).data.toList = wReserved := by decide +kernel
theorem asciiReserved : ∀ (j : Nat) b, (ByteArray.mk #[112, 114, 111, 99, 101, 100, 117, 114, 101, 32, 101, 110, 100, 32, 103, 108, 111, 98, 97, 108, 32, 108, 111, 99, 97, 108, 32, 114, 101, 99, 111, 114, 100, 32, 105, 102, 32, 116, 104, 101, 110, 32, 101, 108, 115, 101, 32, 119, 104, 105, 108, 101, 32, 117, 110, 116, 105, 108, 32, 101, 118, 101, 114, 121, 32, 100, 111, 32, 114, 101, 112, 101, 97, 116, 32, 99, 97, 115, 101, 32, 111, 102, 32, 100, 101, 102, 97, 117, 108, 116, 32, 114, 101, 116, 117, 114, 110, 32, 115, 117, 115, 112, 101, 110, 100, 32, 102, 97, 105, 108, 32, 98, 114, 101, 97, 107, 32, 110, 101, 120, 116, 32, 99, 114, 101, 97, 116, 101, 32, 116, 111, 32, 98, 121, 32, 110, 111, 116, 32, 100, 101, 102, 101, 114]).data.toList[j]? = some b → b.toNat < 128 := by
  intro j b hb
  have h : ∀ c ∈ (ByteArray.mk #[112, 114, 111, 99, 101, 100, 117, 114, 101, 32, 101, 110, 100, 32, 103, 108, 111, 98, 97, 108, 32, 108, 111, 99, 97, 108, 32, 114, 101, 99, 111, 114, 100, 32, 105, 102, 32, 116, 104, 101, 110, 32, 101, 108, 115, 101, 32, 119, 104, 105, 108, 101, 32, 117, 110, 116, 105, 108, 32, 101, 118, 101, 114, 121, 32, 100, 111, 32, 114, 101, 112, 101, 97, 116, 32, 99, 97, 115, 101, 32, 111, 102, 32, 100, 101, 102, 97, 117, 108, 116, 32, 114, 101, 116, 117, 114, 110, 32, 115, 117, 115, 112, 101, 110, 100, 32, 102, 97, 105, 108, 32, 98, 114, 101, 97, 107, 32, 110, 101, 120, 116, 32, 99, 114, 101, 97, 116, 101, 32, 116, 111, 32, 98, 121, 32, 110, 111, 116, 32, 100, 101, 102, 101, 114]).data.toList, c.toNat < 128 := by decide +kernel
  exact h b (List.mem_of_getElem? hb)
theorem fieldsReserved (w : World) (ht : Spc w) : Calls Tryd.prog 51 #[.string ⟨#[112, 114, 111, 99, 101, 100, 117, 114, 101, 32, 101, 110, 100, 32, 103, 108, 111, 98, 97, 108, 32, 108, 111, 99, 97, 108, 32, 114, 101, 99, 111, 114, 100, 32, 105, 102, 32, 116, 104, 101, 110, 32, 101, 108, 115, 101, 32, 119, 104, 105, 108, 101, 32, 117, 110, 116, 105, 108, 32, 101, 118, 101, 114, 121, 32, 100, 111, 32, 114, 101, 112, 101, 97, 116, 32, 99, 97, 115, 101, 32, 111, 102, 32, 100, 101, 102, 97, 117, 108, 116, 32, 114, 101, 116, 117, 114, 110, 32, 115, 117, 115, 112, 101, 110, 100, 32, 102, 97, 105, 108, 32, 98, 114, 101, 97, 107, 32, 110, 101, 120, 116, 32, 99, 114, 101, 97, 116, 101, 32, 116, 111, 32, 98, 121, 32, 110, 111, 116, 32, 100, 101, 102, 101, 114]⟩] w fun e w' => e = .returned (.slice (some ⟨w.heap.size, 0, none⟩) 26 26) ∧ w' = w.alloc (rowObj' wReserved) := by
  have h := Tryd.strings_Fields_laid ⟨#[112, 114, 111, 99, 101, 100, 117, 114, 101, 32, 101, 110, 100, 32, 103, 108, 111, 98, 97, 108, 32, 108, 111, 99, 97, 108, 32, 114, 101, 99, 111, 114, 100, 32, 105, 102, 32, 116, 104, 101, 110, 32, 101, 108, 115, 101, 32, 119, 104, 105, 108, 101, 32, 117, 110, 116, 105, 108, 32, 101, 118, 101, 114, 121, 32, 100, 111, 32, 114, 101, 112, 101, 97, 116, 32, 99, 97, 115, 101, 32, 111, 102, 32, 100, 101, 102, 97, 117, 108, 116, 32, 114, 101, 116, 117, 114, 110, 32, 115, 117, 115, 112, 101, 110, 100, 32, 102, 97, 105, 108, 32, 98, 114, 101, 97, 107, 32, 110, 101, 120, 116, 32, 99, 114, 101, 97, 116, 101, 32, 116, 111, 32, 98, 121, 32, 110, 111, 116, 32, 100, 101, 102, 101, 114]⟩ w (by decide +kernel) asciiReserved ht
  rw [splitReserved] at h
  exact h
/-- Whether it is a reserved word. -/
def isRes (s : ByteArray) : Bool := decide (bl s ∈ wReserved)
set_option maxHeartbeats 400000 in
theorem reservedWords_any (w : World) (ht : Spc w) : Calls Tryd.prog 96 #[] w fun e w' => e = .returned (.slice (some ⟨w.heap.size, 0, none⟩) 26 26) ∧ w' = w.alloc (rowObj' wReserved) := by
  go_enter Tryd.func96, Tryd.ntmps96
  go_wp2_with fail
  refine (fieldsReserved w ht).mono ?_
  rintro e w' ⟨rfl, rfl⟩
  go_wp2_with fail
  go_ret
  exact ⟨rfl, rfl⟩
set_option maxHeartbeats 400000 in
theorem implIsReserved_any (s : ByteArray) (w : World) (ht : Spc w) : Calls Tryd.prog 72 #[.string s] w fun e w' => e = .returned (.bool (isRes s)) ∧ Below w.heap.size w w' := by
  have HW := Lib.hid (reservedWords_any w ht)
  have hro := contains_row (txts wReserved) _ s _ _ (row_txts w wReserved (by decide) (by decide))
  rw [hasB_txts] at hro
  have HC := Lib.hid hro
  clear hro
  go_enter Tryd.func72, Tryd.ntmps72
  go_wp2_with fail
  refine HW.out.mono ?_
  rintro e w' ⟨rfl, hw⟩
  subst hw
  go_wp2_with fail
  refine HC.out.mono ?_
  rintro e w' ⟨rfl, hw⟩
  subst hw
  go_wp2_with fail
  go_ret
  exact ⟨rfl, (Below.refl _ _).alloc (Nat.le_refl _) _⟩
set_option maxHeartbeats 400000 in
theorem specIsReserved_any (s : ByteArray) (w : World) : Calls Tryd.prog 60 #[.string s] w fun e w' => e = .returned (.bool (isRes s)) ∧ Below w.heap.size w w' := by
  have hro := l1Has_row (txts wReserved) _ s _ _ (row_txts w wReserved (by decide) (by decide))
  rw [hasB_txts] at hro
  have HC := Lib.hid hro
  clear hro
  go_enter Tryd.func60, Tryd.ntmps60
  go_wp2_with fail
  refine HC.out.mono ?_
  rintro e w' ⟨rfl, hw⟩
  subst hw
  go_wp2_with fail
  go_ret
  exact ⟨rfl, (Below.refl _ _).alloc (Nat.le_refl _) _⟩
end Go.Proofs.YtopaeiogbijppaaDoor
