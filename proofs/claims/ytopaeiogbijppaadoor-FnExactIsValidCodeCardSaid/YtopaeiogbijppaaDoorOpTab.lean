/- The texts of the operators, plain; the rows that they stand in. Printed by gen_ops.py. -/
import Derived.Test.YtopaeiogbijppaaDoorNmWord
namespace Go.Proofs.YtopaeiogbijppaaDoor
open Go.RowKit

def wOp1 : List (List UInt8) := [[45], [43], [42], [47], [92], [126], [33], [61], [94], [46], [46, 62]]
theorem splitOp1 : Lib.fields (ByteArray.mk #[45, 32, 43, 32, 42, 32, 47, 32, 92, 32, 126, 32, 33, 32, 61, 32, 94, 32, 46, 32, 46, 62]).data.toList = wOp1 := by decide +kernel
theorem asciiOp1 : ∀ (j : Nat) b, (ByteArray.mk #[45, 32, 43, 32, 42, 32, 47, 32, 92, 32, 126, 32, 33, 32, 61, 32, 94, 32, 46, 32, 46, 62]).data.toList[j]? = some b → b.toNat < 128 := by
  intro j b hb
  have h : ∀ c ∈ (ByteArray.mk #[45, 32, 43, 32, 42, 32, 47, 32, 92, 32, 126, 32, 33, 32, 61, 32, 94, 32, 46, 32, 46, 62]).data.toList, c.toNat < 128 := by decide +kernel
  exact h b (List.mem_of_getElem? hb)
theorem fieldsOp1 (w : World) (ht : Spc w) : Calls Tryd.prog 51 #[.string ⟨#[45, 32, 43, 32, 42, 32, 47, 32, 92, 32, 126, 32, 33, 32, 61, 32, 94, 32, 46, 32, 46, 62]⟩] w fun e w' => e = .returned (.slice (some ⟨w.heap.size, 0, none⟩) 11 11) ∧ w' = w.alloc (rowObj' wOp1) := by
  have h := Tryd.strings_Fields_laid ⟨#[45, 32, 43, 32, 42, 32, 47, 32, 92, 32, 126, 32, 33, 32, 61, 32, 94, 32, 46, 32, 46, 62]⟩ w (by decide +kernel) asciiOp1 ht
  rw [splitOp1] at h
  exact h
def wOp20 : List (List UInt8) := [[43], [45], [42], [47], [37], [94]]
theorem splitOp20 : Lib.fields (ByteArray.mk #[43, 32, 45, 32, 42, 32, 47, 32, 37, 32, 94]).data.toList = wOp20 := by decide +kernel
theorem asciiOp20 : ∀ (j : Nat) b, (ByteArray.mk #[43, 32, 45, 32, 42, 32, 47, 32, 37, 32, 94]).data.toList[j]? = some b → b.toNat < 128 := by
  intro j b hb
  have h : ∀ c ∈ (ByteArray.mk #[43, 32, 45, 32, 42, 32, 47, 32, 37, 32, 94]).data.toList, c.toNat < 128 := by decide +kernel
  exact h b (List.mem_of_getElem? hb)
theorem fieldsOp20 (w : World) (ht : Spc w) : Calls Tryd.prog 51 #[.string ⟨#[43, 32, 45, 32, 42, 32, 47, 32, 37, 32, 94]⟩] w fun e w' => e = .returned (.slice (some ⟨w.heap.size, 0, none⟩) 6 6) ∧ w' = w.alloc (rowObj' wOp20) := by
  have h := Tryd.strings_Fields_laid ⟨#[43, 32, 45, 32, 42, 32, 47, 32, 37, 32, 94]⟩ w (by decide +kernel) asciiOp20 ht
  rw [splitOp20] at h
  exact h
def wOp30 : List (List UInt8) := [[60], [60, 61], [61], [62, 61], [62], [126, 61]]
theorem splitOp30 : Lib.fields (ByteArray.mk #[60, 32, 60, 61, 32, 61, 32, 62, 61, 32, 62, 32, 126, 61]).data.toList = wOp30 := by decide +kernel
theorem asciiOp30 : ∀ (j : Nat) b, (ByteArray.mk #[60, 32, 60, 61, 32, 61, 32, 62, 61, 32, 62, 32, 126, 61]).data.toList[j]? = some b → b.toNat < 128 := by
  intro j b hb
  have h : ∀ c ∈ (ByteArray.mk #[60, 32, 60, 61, 32, 61, 32, 62, 61, 32, 62, 32, 126, 61]).data.toList, c.toNat < 128 := by decide +kernel
  exact h b (List.mem_of_getElem? hb)
theorem fieldsOp30 (w : World) (ht : Spc w) : Calls Tryd.prog 51 #[.string ⟨#[60, 32, 60, 61, 32, 61, 32, 62, 61, 32, 62, 32, 126, 61]⟩] w fun e w' => e = .returned (.slice (some ⟨w.heap.size, 0, none⟩) 6 6) ∧ w' = w.alloc (rowObj' wOp30) := by
  have h := Tryd.strings_Fields_laid ⟨#[60, 32, 60, 61, 32, 61, 32, 62, 61, 32, 62, 32, 126, 61]⟩ w (by decide +kernel) asciiOp30 ht
  rw [splitOp30] at h
  exact h
def wOp40 : List (List UInt8) := [[60, 60], [60, 60, 61], [61, 61], [62, 62, 61], [62, 62], [126, 61, 61], [61, 61, 61], [126, 61, 61, 61]]
theorem splitOp40 : Lib.fields (ByteArray.mk #[60, 60, 32, 60, 60, 61, 32, 61, 61, 32, 62, 62, 61, 32, 62, 62, 32, 126, 61, 61, 32, 61, 61, 61, 32, 126, 61, 61, 61]).data.toList = wOp40 := by decide +kernel
theorem asciiOp40 : ∀ (j : Nat) b, (ByteArray.mk #[60, 60, 32, 60, 60, 61, 32, 61, 61, 32, 62, 62, 61, 32, 62, 62, 32, 126, 61, 61, 32, 61, 61, 61, 32, 126, 61, 61, 61]).data.toList[j]? = some b → b.toNat < 128 := by
  intro j b hb
  have h : ∀ c ∈ (ByteArray.mk #[60, 60, 32, 60, 60, 61, 32, 61, 61, 32, 62, 62, 61, 32, 62, 62, 32, 126, 61, 61, 32, 61, 61, 61, 32, 126, 61, 61, 61]).data.toList, c.toNat < 128 := by decide +kernel
  exact h b (List.mem_of_getElem? hb)
theorem fieldsOp40 (w : World) (ht : Spc w) : Calls Tryd.prog 51 #[.string ⟨#[60, 60, 32, 60, 60, 61, 32, 61, 61, 32, 62, 62, 61, 32, 62, 62, 32, 126, 61, 61, 32, 61, 61, 61, 32, 126, 61, 61, 61]⟩] w fun e w' => e = .returned (.slice (some ⟨w.heap.size, 0, none⟩) 8 8) ∧ w' = w.alloc (rowObj' wOp40) := by
  have h := Tryd.strings_Fields_laid ⟨#[60, 60, 32, 60, 60, 61, 32, 61, 61, 32, 62, 62, 61, 32, 62, 62, 32, 126, 61, 61, 32, 61, 61, 61, 32, 126, 61, 61, 61]⟩ w (by decide +kernel) asciiOp40 ht
  rw [splitOp40] at h
  exact h
def wOp50 : List (List UInt8) := [[124, 124], [124, 124, 124], [43, 43], [45, 45], [42, 42]]
theorem splitOp50 : Lib.fields (ByteArray.mk #[124, 124, 32, 124, 124, 124, 32, 43, 43, 32, 45, 45, 32, 42, 42]).data.toList = wOp50 := by decide +kernel
theorem asciiOp50 : ∀ (j : Nat) b, (ByteArray.mk #[124, 124, 32, 124, 124, 124, 32, 43, 43, 32, 45, 45, 32, 42, 42]).data.toList[j]? = some b → b.toNat < 128 := by
  intro j b hb
  have h : ∀ c ∈ (ByteArray.mk #[124, 124, 32, 124, 124, 124, 32, 43, 43, 32, 45, 45, 32, 42, 42]).data.toList, c.toNat < 128 := by decide +kernel
  exact h b (List.mem_of_getElem? hb)
theorem fieldsOp50 (w : World) (ht : Spc w) : Calls Tryd.prog 51 #[.string ⟨#[124, 124, 32, 124, 124, 124, 32, 43, 43, 32, 45, 45, 32, 42, 42]⟩] w fun e w' => e = .returned (.slice (some ⟨w.heap.size, 0, none⟩) 5 5) ∧ w' = w.alloc (rowObj' wOp50) := by
  have h := Tryd.strings_Fields_laid ⟨#[124, 124, 32, 124, 124, 124, 32, 43, 43, 32, 45, 45, 32, 42, 42]⟩ w (by decide +kernel) asciiOp50 ht
  rw [splitOp50] at h
  exact h
def wOp60 : List (List UInt8) := [[58, 61], [60, 45], [58, 61, 58], [60, 45, 62]]
theorem splitOp60 : Lib.fields (ByteArray.mk #[58, 61, 32, 60, 45, 32, 58, 61, 58, 32, 60, 45, 62]).data.toList = wOp60 := by decide +kernel
theorem asciiOp60 : ∀ (j : Nat) b, (ByteArray.mk #[58, 61, 32, 60, 45, 32, 58, 61, 58, 32, 60, 45, 62]).data.toList[j]? = some b → b.toNat < 128 := by
  intro j b hb
  have h : ∀ c ∈ (ByteArray.mk #[58, 61, 32, 60, 45, 32, 58, 61, 58, 32, 60, 45, 62]).data.toList, c.toNat < 128 := by decide +kernel
  exact h b (List.mem_of_getElem? hb)
theorem fieldsOp60 (w : World) (ht : Spc w) : Calls Tryd.prog 51 #[.string ⟨#[58, 61, 32, 60, 45, 32, 58, 61, 58, 32, 60, 45, 62]⟩] w fun e w' => e = .returned (.slice (some ⟨w.heap.size, 0, none⟩) 4 4) ∧ w' = w.alloc (rowObj' wOp60) := by
  have h := Tryd.strings_Fields_laid ⟨#[58, 61, 32, 60, 45, 32, 58, 61, 58, 32, 60, 45, 62]⟩ w (by decide +kernel) asciiOp60 ht
  rw [splitOp60] at h
  exact h
def wOp70 : List (List UInt8) := [[91, 93], [91, 58, 93], [116, 111], [38], [91, 46, 46, 46, 93], [63, 63], [46, 124], [45, 62], [61, 62], [102, 105, 101, 108, 100]]
theorem splitOp70 : Lib.fields (ByteArray.mk #[91, 93, 32, 91, 58, 93, 32, 116, 111, 32, 38, 32, 91, 46, 46, 46, 93, 32, 63, 63, 32, 46, 124, 32, 45, 62, 32, 61, 62, 32, 102, 105, 101, 108, 100]).data.toList = wOp70 := by decide +kernel
theorem asciiOp70 : ∀ (j : Nat) b, (ByteArray.mk #[91, 93, 32, 91, 58, 93, 32, 116, 111, 32, 38, 32, 91, 46, 46, 46, 93, 32, 63, 63, 32, 46, 124, 32, 45, 62, 32, 61, 62, 32, 102, 105, 101, 108, 100]).data.toList[j]? = some b → b.toNat < 128 := by
  intro j b hb
  have h : ∀ c ∈ (ByteArray.mk #[91, 93, 32, 91, 58, 93, 32, 116, 111, 32, 38, 32, 91, 46, 46, 46, 93, 32, 63, 63, 32, 46, 124, 32, 45, 62, 32, 61, 62, 32, 102, 105, 101, 108, 100]).data.toList, c.toNat < 128 := by decide +kernel
  exact h b (List.mem_of_getElem? hb)
theorem fieldsOp70 (w : World) (ht : Spc w) : Calls Tryd.prog 51 #[.string ⟨#[91, 93, 32, 91, 58, 93, 32, 116, 111, 32, 38, 32, 91, 46, 46, 46, 93, 32, 63, 63, 32, 46, 124, 32, 45, 62, 32, 61, 62, 32, 102, 105, 101, 108, 100]⟩] w fun e w' => e = .returned (.slice (some ⟨w.heap.size, 0, none⟩) 10 10) ∧ w' = w.alloc (rowObj' wOp70) := by
  have h := Tryd.strings_Fields_laid ⟨#[91, 93, 32, 91, 58, 93, 32, 116, 111, 32, 38, 32, 91, 46, 46, 46, 93, 32, 63, 63, 32, 46, 124, 32, 45, 62, 32, 61, 62, 32, 102, 105, 101, 108, 100]⟩ w (by decide +kernel) asciiOp70 ht
  rw [splitOp70] at h
  exact h
def wBin : List (List UInt8) := [[43], [45], [42], [47], [37], [94], [], [], [], [], [60], [60, 61], [61], [62, 61], [62], [126, 61], [], [], [], [], [60, 60], [60, 60, 61], [61, 61], [62, 62, 61], [62, 62], [126, 61, 61], [61, 61, 61], [126, 61, 61, 61], [], [], [124, 124], [124, 124, 124], [43, 43], [45, 45], [42, 42], [], [], [], [], [], [58, 61], [60, 45], [58, 61, 58], [60, 45, 62]]
def opT (op : Int) : List UInt8 :=
  if 1 ≤ op ∧ op ≤ 11 then wOp1.getD (op - 1).toNat [] else
  if 20 ≤ op ∧ op ≤ 25 then wOp20.getD (op - 20).toNat [] else
  if 30 ≤ op ∧ op ≤ 35 then wOp30.getD (op - 30).toNat [] else
  if 40 ≤ op ∧ op ≤ 47 then wOp40.getD (op - 40).toNat [] else
  if 50 ≤ op ∧ op ≤ 54 then wOp50.getD (op - 50).toNat [] else
  if 60 ≤ op ∧ op ≤ 63 then wOp60.getD (op - 60).toNat [] else
  if 70 ≤ op ∧ op ≤ 79 then wOp70.getD (op - 70).toNat [] else
  if op = 81 then [100, 101, 102, 101, 114] else if 220 ≤ op ∧ op ≤ 225 then wOp20.getD (op - 220).toNat [] ++ [58, 61] else if 250 ≤ op ∧ op ≤ 254 then wOp50.getD (op - 250).toNat [] ++ [58, 61] else []
theorem opT_1 {op : Int} {k : Nat} (h : op - 1 = (k : Int)) (hk : k < 11) : opT op = wOp1.getD k [] := by
  obtain rfl : op = (k : Int) + 1 := by omega
  have : ∀ i : Fin 11, opT ((i.1 : Int) + 1) = wOp1.getD i.1 [] := by decide
  exact this ⟨k, hk⟩
theorem opT_20 {op : Int} {k : Nat} (h : op - 20 = (k : Int)) (hk : k < 6) : opT op = wOp20.getD k [] := by
  obtain rfl : op = (k : Int) + 20 := by omega
  have : ∀ i : Fin 6, opT ((i.1 : Int) + 20) = wOp20.getD i.1 [] := by decide
  exact this ⟨k, hk⟩
theorem opT_30 {op : Int} {k : Nat} (h : op - 30 = (k : Int)) (hk : k < 6) : opT op = wOp30.getD k [] := by
  obtain rfl : op = (k : Int) + 30 := by omega
  have : ∀ i : Fin 6, opT ((i.1 : Int) + 30) = wOp30.getD i.1 [] := by decide
  exact this ⟨k, hk⟩
theorem opT_40 {op : Int} {k : Nat} (h : op - 40 = (k : Int)) (hk : k < 8) : opT op = wOp40.getD k [] := by
  obtain rfl : op = (k : Int) + 40 := by omega
  have : ∀ i : Fin 8, opT ((i.1 : Int) + 40) = wOp40.getD i.1 [] := by decide
  exact this ⟨k, hk⟩
theorem opT_50 {op : Int} {k : Nat} (h : op - 50 = (k : Int)) (hk : k < 5) : opT op = wOp50.getD k [] := by
  obtain rfl : op = (k : Int) + 50 := by omega
  have : ∀ i : Fin 5, opT ((i.1 : Int) + 50) = wOp50.getD i.1 [] := by decide
  exact this ⟨k, hk⟩
theorem opT_60 {op : Int} {k : Nat} (h : op - 60 = (k : Int)) (hk : k < 4) : opT op = wOp60.getD k [] := by
  obtain rfl : op = (k : Int) + 60 := by omega
  have : ∀ i : Fin 4, opT ((i.1 : Int) + 60) = wOp60.getD i.1 [] := by decide
  exact this ⟨k, hk⟩
theorem opT_70 {op : Int} {k : Nat} (h : op - 70 = (k : Int)) (hk : k < 10) : opT op = wOp70.getD k [] := by
  obtain rfl : op = (k : Int) + 70 := by omega
  have : ∀ i : Fin 10, opT ((i.1 : Int) + 70) = wOp70.getD i.1 [] := by decide
  exact this ⟨k, hk⟩
theorem opT_bin {op : Int} {k : Nat} (h : op - 20 = (k : Int)) (hk : k < 44) : opT op = wBin.getD k [] := by
  obtain rfl : op = (k : Int) + 20 := by omega
  have : ∀ i : Fin 44, opT ((i.1 : Int) + 20) = wBin.getD i.1 [] := by decide
  exact this ⟨k, hk⟩
theorem opT_aug {op : Int} {k : Nat} (h : op - 220 = (k : Int)) (hk : k < 6 ∨ (30 ≤ k ∧ k < 35)) : opT op = wBin.getD k [] ++ [58, 61] ∧ opT (op - 200) = wBin.getD k [] := by
  obtain rfl : op = (k : Int) + 220 := by omega
  have : ∀ i : Fin 35, i.1 < 6 ∨ 30 ≤ i.1 → opT ((i.1 : Int) + 220) = wBin.getD i.1 [] ++ [58, 61] ∧ opT ((i.1 : Int) + 220 - 200) = wBin.getD i.1 [] := by decide
  exact this ⟨k, by omega⟩ (by show k < 6 ∨ 30 ≤ k; omega)
theorem opT_no {op : Int} (h : op < 1 ∨ (11 < op ∧ op < 20) ∨ (25 < op ∧ op < 30) ∨ (35 < op ∧ op < 40) ∨ (47 < op ∧ op < 50) ∨ (54 < op ∧ op < 60) ∨ (63 < op ∧ op < 70) ∨ op = 80 ∨ (81 < op ∧ op < 220) ∨ (225 < op ∧ op < 250) ∨ 254 < op) : opT op = [] := by
  unfold opT
  iterate 7 rw [if_neg (by omega)]
  rw [if_neg (by omega), if_neg (by omega), if_neg (by omega)]
theorem opT_small (op : Int) : (opT op).length ≤ 11 := by
  by_cases h : 1 ≤ op ∧ op ≤ 254
  · obtain ⟨k, hk⟩ : ∃ k : Nat, op = (k : Int) := ⟨op.toNat, by omega⟩
    subst hk
    have : ∀ i : Fin 255, (opT (i.1 : Int)).length ≤ 11 := by decide +kernel
    exact this ⟨k, by omega⟩
  · rw [opT_no (by omega)]; simp
theorem cell_txts (w : World) (l : List (List UInt8)) (k : Nat) (h : k < l.length) : (w.alloc (rowObj' l)).cell? ⟨w.heap.size, k, none⟩ = some (.string ⟨(l.getD k []).toArray⟩) := by
  rw [cell_of_row _ w.heap.size _ _ _ _ (heap_alloc_new w (rowObj' l)), List.getD_eq_getElem?_getD, List.getElem?_eq_getElem h]
  simp [h]
end Go.Proofs.YtopaeiogbijppaaDoor
