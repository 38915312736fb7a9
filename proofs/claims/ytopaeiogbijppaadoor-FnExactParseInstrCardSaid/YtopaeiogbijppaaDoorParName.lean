/- The names of both sides as whole rows; strings.SplitN at a space and five; what both ParseInstr answer; an instruction's block. -/
import Derived.Test.YtopaeiogbijppaaDoorParJoin
import Derived.Test.YtopaeiogbijppaaDoorFormatInstr
namespace Go.Proofs.YtopaeiogbijppaaDoor
open Go.RowKit

/-! ### The names -/
def snames : List (List UInt8) := [] :: names
def rowObj (l : List (List UInt8)) : Obj := .cells (l.map fun l => Value.string ⟨l.toArray⟩).toArray 9
theorem row_new (w : World) (l : List (List UInt8)) : StrRow (w.alloc (rowObj l)) w.heap.size l := by
  refine ⟨by simp, fun j hj => ?_⟩
  rw [cell_of_row _ w.heap.size j _ _ _ (heap_alloc_new w (rowObj l))]
  simp [hj]
theorem names_nodup : names.Nodup := by decide
theorem snames_nodup : snames.Nodup := by decide
set_option maxHeartbeats 400000 in
theorem l28Names_row (w : World) : Calls Tryd.prog 15 #[] w fun e w' => e = .returned (.slice (some ⟨w.heap.size, 0, none⟩) 31 31) ∧ w' = w.alloc (rowObj snames) := by
  go_enter Tryd.func15, Tryd.ntmps15
  go_wp2
  go_ret
  exact ⟨rfl, rfl⟩
set_option maxHeartbeats 400000 in
theorem instrNames_row (w : World) (ht : Tabs w) : Calls Tryd.prog 21 #[] w fun e w' => e = .returned (.slice (some ⟨w.heap.size, 0, none⟩) 30 30) ∧ w' = w.alloc (rowObj names) := by
  go_enter Tryd.func21, Tryd.ntmps21
  go_wp2_with fail
  refine (fields_names w ht).mono ?_
  rintro e w' ⟨rfl, rfl⟩
  go_wp2_with fail
  go_ret
  exact ⟨rfl, rfl⟩
/-! ### SplitN -/
def five (l : List UInt8) : List (List UInt8) := if (spl l).length < 5 then spl l else (spl l).take 4 ++ [jn ((spl l).drop 4)]
/-- internal/bytealg's MaxLen holds a number. -/
def MaxL (w : World) : Prop := ∃ m : Int, w.cell? ⟨2, 0, none⟩ = some (.int .i64 m)
theorem MaxL.below {w w' : World} (h : MaxL w) (hb : Below w.heap.size w w') : MaxL w' := by
  obtain ⟨m, hm⟩ := h
  exact ⟨m, (hb.cell (p := ⟨2, 0, none⟩) (World.block_lt_of_cell? w _ hm)).trans hm⟩
theorem five_length (l : List UInt8) : (five l).length ≤ 5 ∧ ((five l).length = 5 ↔ 5 ≤ (spl l).length) := by
  unfold five
  split
  · omega
  · rw [List.length_append, List.length_take]; simp; omega
theorem splitN_any (s : ByteArray) (w : World) (hs : s.size ≤ 1048576) (hm : MaxL w) :
    Calls Tryd.prog 20 #[.string s, .string ⟨#[32]⟩, .int .i64 5] w fun e w' =>
      ∃ c o, e = .returned (.slice (some ⟨w.heap.size, 0, none⟩) (five s.data.toList).length c) ∧ (five s.data.toList).length ≤ c ∧ w' = w.alloc o ∧ StrRow w' w.heap.size (five s.data.toList) := by
  obtain ⟨m, hm⟩ := hm
  have hd := Lib.splitB_data ⟨#[32]⟩ 0 (min 5 (s.size + 1) - 1) s
  have h5 := splitN_five s.data.toList
  rw [show s.data.toList.length = s.size by simp] at h5
  rw [show (ByteArray.mk #[32]).data.toList = [32] from rfl, h5, show (if (spl s.data.toList).length < 5 then spl s.data.toList else (spl s.data.toList).take 4 ++ [jn ((spl s.data.toList).drop 4)]) = five s.data.toList from rfl] at hd
  refine (Tryd.strings_SplitN s ⟨#[32]⟩ 5 m w (by omega) hm (by decide) (by decide) (by decide)).mono ?_
  rintro e w' ⟨rfl, rfl⟩
  have hl : (Lib.splitB ⟨#[32]⟩ 0 (min 5 (s.size + 1) - 1) s).length = (five s.data.toList).length := by rw [← hd, List.length_map]
  refine ⟨_, _, by rw [hl], ?_, rfl, by simp, fun j hj => ?_⟩
  · have := Lib.splitB_length_le ⟨#[32]⟩ 0 (min 5 (s.size + 1) - 1) s
    rw [hl] at this
    omega
  · rw [cell_of_row _ w.heap.size j _ _ _ (heap_alloc_new w _)]
    have hj' : j < (Lib.splitB ⟨#[32]⟩ 0 (min 5 (s.size + 1) - 1) s).length := by omega
    have : (five s.data.toList)[j] = ((Lib.splitB ⟨#[32]⟩ 0 (min 5 (s.size + 1) - 1) s)[j]).data.toList := by
      simp only [← hd, List.getElem_map]
    unfold Lib.cellsOf
    rw [List.getElem?_toArray, List.getElem?_append_left (by simpa using hj'), List.getElem?_map, List.getElem?_eq_getElem hj', this]
    rfl
/-! ### The answer -/
/-- What comes back. -/
def insOut (op a b line : Int) (t : ByteArray) (ok : Bool) : Value := .tuple #[.agg #[.int .i64 op, .int .i64 a, .int .i64 b, .int .i64 line, .string t], .bool ok]
def resOf (s : ByteArray) (op : Nat) (a b line : Option Int) (t : Option (List UInt8)) : Value :=
  match a, b, line, t with
  | some a, some b, some l, some t => if op ≠ 0 ∧ instrText op a b l ⟨t.toArray⟩ = s then insOut op a b l ⟨t.toArray⟩ true else insOut 0 0 0 0 ⟨#[]⟩ false
  | _, _, _, _ => insOut 0 0 0 0 ⟨#[]⟩ false
/-- The answer of both ParseInstr. -/
def insRes (s : ByteArray) : Value :=
  match spl s.data.toList with
  | p0 :: p1 :: p2 :: p3 :: p4 :: r => resOf s (placeOf names p0) (parI p1) (parI p2) (parI p3) (unqT 34 (jn (p4 :: r)))
  | _ => insOut 0 0 0 0 ⟨#[]⟩ false
theorem insRes_form (s : ByteArray) : ∃ op a b l t ok, insRes s = insOut op a b l t ok := by
  unfold insRes
  split
  · unfold resOf
    split
    · split
      · exact ⟨_, _, _, _, _, _, rfl⟩
      · exact ⟨_, _, _, _, _, _, rfl⟩
    · exact ⟨_, _, _, _, _, _, rfl⟩
  · exact ⟨_, _, _, _, _, _, rfl⟩
theorem insRes_short {s : ByteArray} (h : (spl s.data.toList).length < 5) : insRes s = insOut 0 0 0 0 ⟨#[]⟩ false := by
  unfold insRes
  split
  · rename_i heq
    rw [heq] at h
    simp at h
    omega
  · rfl
theorem spl_five {s : ByteArray} (h : 5 ≤ (spl s.data.toList).length) : ∃ p0 p1 p2 p3 p4 r, spl s.data.toList = p0 :: p1 :: p2 :: p3 :: p4 :: r := by
  match hs : spl s.data.toList, h with
  | p0 :: p1 :: p2 :: p3 :: p4 :: r, _ => exact ⟨p0, p1, p2, p3, p4, r, rfl⟩
theorem insRes_long {s : ByteArray} {p0 p1 p2 p3 p4 : List UInt8} {r : List (List UInt8)} (h : spl s.data.toList = p0 :: p1 :: p2 :: p3 :: p4 :: r) : insRes s = resOf s (placeOf names p0) (parI p1) (parI p2) (parI p3) (unqT 34 (jn (p4 :: r))) := by
  unfold insRes
  rw [h]
theorem five_long {s : ByteArray} {p0 p1 p2 p3 p4 : List UInt8} {r : List (List UInt8)} (h : spl s.data.toList = p0 :: p1 :: p2 :: p3 :: p4 :: r) : five s.data.toList = [p0, p1, p2, p3, jn (p4 :: r)] := by
  unfold five
  rw [h, if_neg (by simp)]
  rfl
theorem pieces_le {s : ByteArray} {p0 p1 p2 p3 p4 : List UInt8} {r : List (List UInt8)} (h : spl s.data.toList = p0 :: p1 :: p2 :: p3 :: p4 :: r) : p0.length ≤ s.size ∧ p1.length ≤ s.size ∧ p2.length ≤ s.size ∧ p3.length ≤ s.size ∧ (jn (p4 :: r)).length ≤ s.size := by
  have h1 := congrArg List.length (jn_spl s.data.toList)
  rw [h, jn_cons _ _ (by simp), jn_cons _ _ (by simp), jn_cons _ _ (by simp), jn_cons _ _ (by simp)] at h1
  simp only [List.length_append, List.length_cons] at h1
  rw [show s.data.toList.length = s.size by simp] at h1
  omega
theorem places : ∀ w : List UInt8, placeOf names w ≤ 30 := fun w => by
  unfold placeOf
  split
  · rename_i h
    have := List.idxOf_lt_length_iff.2 h
    have : names.length = 30 := rfl
    omega
  · omega
/-- spec's place is impl's, or below one where impl's is none. -/
theorem find_place (w : List UInt8) : (findI snames w < 1 ∧ placeOf names w = 0) ∨ (findI snames w = (placeOf names w : Nat) ∧ 1 ≤ placeOf names w) := by
  unfold findI placeOf snames
  by_cases h0 : w = []
  · subst h0
    left
    rw [if_pos (by simp), if_neg (by decide)]
    simp
  · by_cases h : w ∈ names
    · right
      rw [if_pos (by simp [h]), if_pos h, List.idxOf_cons, show (([] : List UInt8) == w) = false from beq_eq_false_iff_ne.2 (Ne.symm h0)]
      simp
    · left
      rw [if_neg (by simp [h, h0]), if_neg h]
      simp
/-! ### An instruction's block -/
def insObj (op a b line : Int) (t : ByteArray) : Obj := .cells #[.int .i64 op, .int .i64 a, .int .i64 b, .int .i64 line, .string t] 23
theorem ins_cells {x : World} {b : Nat} {v0 v1 v2 v3 v4 : Value} {t : TypeId} (h : x.heap[b]? = some (.cells #[v0, v1, v2, v3, v4] t (0, 0))) :
    x.cell? ⟨b, 0, none⟩ = some v0 ∧ x.cell? ⟨b, 1, none⟩ = some v1 ∧ x.cell? ⟨b, 2, none⟩ = some v2 ∧ x.cell? ⟨b, 3, none⟩ = some v3 ∧ x.cell? ⟨b, 4, none⟩ = some v4 :=
  ⟨cell_of_row x b 0 _ _ _ h, cell_of_row x b 1 _ _ _ h, cell_of_row x b 2 _ _ _ h, cell_of_row x b 3 _ _ _ h, cell_of_row x b 4 _ _ _ h⟩
theorem ins_open {x : World} {b : Nat} {v0 v1 v2 v3 v4 : Value} {t : TypeId} (h : x.heap[b]? = some (.cells #[v0, v1, v2, v3, v4] t (0, 0))) :
    x.frozen? ⟨b, 0, none⟩ = false ∧ x.frozen? ⟨b, 1, none⟩ = false ∧ x.frozen? ⟨b, 2, none⟩ = false ∧ x.frozen? ⟨b, 3, none⟩ = false ∧ x.frozen? ⟨b, 4, none⟩ = false :=
  ⟨frozen_of_row x b 0 _ _ h, frozen_of_row x b 1 _ _ h, frozen_of_row x b 2 _ _ h, frozen_of_row x b 3 _ _ h, frozen_of_row x b 4 _ _ h⟩
theorem set_row {w : World} {M o : Nat} {cur : Array Value} {T : TypeId} (h : w.heap[M]? = some (.cells cur T (0, 0))) (u : Value) :
    (w.setCell ⟨M, o, none⟩ u).heap[M]? = some (.cells (cur.setIfInBounds o u) T (0, 0)) := by
  simp only [World.setCell]
  rw [Array.getElem?_modify]
  simp [h]
end Go.Proofs.YtopaeiogbijppaaDoor
