/- How arguments are read: a reading gives the plain data. No walk in sight. -/
import Derived.Test.YtopaeiogbijppaaDoorData
import Derived.Test.YtopaeiogbijppaaDoorChecked
import Derived.ProofKit
import Derived.OpenShut
import Derived.ChangeArms
namespace Go.Proofs.YtopaeiogbijppaaDoor
open Go.ChangeShapes Go.WideShapes Go.ChangeAt Go.RowKit

theorem spot_of_cell {w : World} {a : Addr} {v : Value} (h : w.cell? a = some v) : a.spot = none ∧ a.block < w.heap.size := by
  unfold World.cell? at h
  rcases hh : w.heap[a.block]? with _ | o
  · rw [hh] at h; cases h
  · refine ⟨?_, (Array.getElem?_eq_some_iff.1 hh).1⟩
    rw [hh] at h
    cases o <;> simp at h
    exact h.1
/-- A reading at the type t gives such a thing. -/
def Opens {α : Type} (t : TypeId) (El : Elem α) : Prop := ∀ {H : Type} {enc : TypeId × Value → H} {w : World} {spare : Nat → Bool} {held : Bool} (n : Nat) (cs : List Value) (x : DataW H × List MemPlace), DataW.trod enc Tryd.prog w 0 spare held n t cs = some x → ∃ a, El (fun _ => True) w a cs
theorem opens_int : Opens 3 intEl := fun n cs x h => by
  obtain ⟨m, e, _, hw⟩ := DataW.trod_int Tryd.underlying3 h
  have := bounds_i64 hw
  exact ⟨m, e, by unfold In64; omega⟩
theorem opens_str : Opens 9 strEl := fun n cs x h => by
  obtain ⟨s, e, _, hs⟩ := DataW.trod_string Tryd.underlying9 h
  exact ⟨s, e, hs⟩
theorem opens_bool : Opens 4 boolEl := fun n cs x h => by
  obtain ⟨b, e, _⟩ := DataW.trod_bool Tryd.underlying4 h
  exact ⟨b, e⟩
theorem opens_row {α : Type} {El : Elem α} {size : Nat} {S E : TypeId} (hS : Tryd.prog.underlying S = some (.slice E)) (hc : Tryd.prog.cellsOf E = size) (h0 : 0 < size) (hE : IsEl El size) (hel : Opens E El) : Opens S (rowEl El size) := by
  intro H enc w spare held n cs x h
  rcases DataW.trod_slice hS h with ⟨rfl, _⟩ | ⟨a, len, cap, elems, rest, m, _, rfl, _, _, hlc, hcm, hel2, hall, _, _⟩
  · exact ⟨[], _, rfl, RowIs.nil _ _ _ _⟩
  · by_cases hz : len = 0
    · subst hz
      exact ⟨[], _, rfl, some a, cap, rfl, Nat.zero_le _, hcm, fun i hi => by simp at hi⟩
    · have each : ∀ i : Fin len, ∃ q : α × List Value, El (fun _ => True) w q.1 q.2 ∧ ∀ j, j < size → w.cell? ((a.add (i.1 * size)).add j) = q.2[j]? := fun i => by
        have h1 := hall i.1 i.2
        have hi : i.1 < elems.length := by omega
        rw [List.getElem?_eq_getElem hi, Option.bind_eq_some_iff] at h1
        obtain ⟨cs', hc', htr⟩ := h1
        obtain ⟨p, hp⟩ := hel _ _ _ htr
        rw [hc] at hc'
        obtain ⟨_, _, hcell⟩ := World.cells?_some hc'
        exact ⟨(p, cs'), hp, hcell⟩
      have hspot : a.spot = none := by
        obtain ⟨q, hq, hcell⟩ := each ⟨0, by omega⟩
        have h1 := hcell 0 h0
        have hl := hE.len hq
        rw [List.getElem?_eq_getElem (by omega)] at h1
        have := (spot_of_cell h1).1
        simpa [Addr.add] using this
      obtain ⟨ab, ao, asp⟩ := a
      simp only at hspot
      subst hspot
      have ha : ∀ i k, ((⟨ab, ao, none⟩ : Addr).add i).add k = ⟨ab, ao + i + k, none⟩ := fun i k => by
        unfold Addr.add
        split <;> split <;> simp_all
      refine ⟨List.ofFn fun i => (Classical.choose (each i)).1, _, rfl, some ⟨ab, ao, none⟩, cap, by simp, by simpa using hlc, hcm, fun i hi => ?_⟩
      have hi' : i < len := by simpa using hi
      have hc2 := Classical.choose_spec (each ⟨i, hi'⟩)
      obtain ⟨h1, h2⟩ := hc2
      have hl := hE.len h1
      refine ⟨ab, ao, (Classical.choose (each ⟨i, hi'⟩)).2, rfl, trivial, ?_, by simpa using h1, fun j y hj => ?_⟩
      · have h3 := h2 0 h0
        rw [List.getElem?_eq_getElem (by omega), ha] at h3
        exact (spot_of_cell h3).2
      · have hjs : j < size := by have := (List.getElem?_eq_some_iff.1 hj).1; omega
        have h3 := h2 j hjs
        rw [ha] at h3
        exact h3.trans hj
theorem c_int : Tryd.prog.cellsOf 3 = 1 := by kernel_rfl
theorem c_str : Tryd.prog.cellsOf 9 = 1 := by kernel_rfl
theorem c_bool : Tryd.prog.cellsOf 4 = 1 := by kernel_rfl
end Go.Proofs.YtopaeiogbijppaaDoor
