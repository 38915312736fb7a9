/- UnquoteText of both sides; a row of texts, and a word's place in it. -/
import Derived.Test.YtopaeiogbijppaaDoorParUnqS
import Derived.Test.YtopaeiogbijppaaDoorParIntR
namespace Go.Proofs.YtopaeiogbijppaaDoor
open Go.RowKit

set_option maxHeartbeats 1000000 in
theorem implUnquote_any (s : ByteArray) (w : World) (hs : s.size ≤ 1048576) :
    Calls Tryd.prog 23 #[.string s] w fun e w' => e = .returned (strOut (unqT 34 s.data.toList)) ∧ Below w.heap.size w w' := by
  obtain ⟨R, hR⟩ : ∃ R, unqT 34 s.data.toList = R := ⟨_, rfl⟩
  have h := unquoteWith_any s w hs
  rw [hR] at h ⊢
  have H := Lib.hid h
  clear h hR
  go_enter Tryd.func23, Tryd.ntmps23
  go_wp2_with fail
  refine H.out.mono ?_
  rintro e w2 ⟨rfl, hb2⟩
  cases R
  · simp only [strOut]
    go_wp2_with fail
    go_ret2
    exact ⟨rfl, hb2⟩
  · simp only [strOut]
    go_wp2_with fail
    go_ret2
    exact ⟨rfl, hb2⟩
set_option maxHeartbeats 1000000 in
theorem specUnquote_any (s : ByteArray) (w : World) (hs : s.size ≤ 1048576) :
    Calls Tryd.prog 17 #[.string s] w fun e w' => e = .returned (strOut (unqT 34 s.data.toList)) ∧ Below w.heap.size w w' := by
  obtain ⟨R, hR⟩ : ∃ R, unqT 34 s.data.toList = R := ⟨_, rfl⟩
  have h := l4Unquote_any s w hs
  rw [hR] at h ⊢
  have H := Lib.hid h
  clear h hR
  go_enter Tryd.func17, Tryd.ntmps17
  go_wp2_with fail
  refine H.out.mono ?_
  rintro e w2 ⟨rfl, hb2⟩
  cases R
  · simp only [strOut]
    go_wp2_with fail
    go_ret2
    exact ⟨rfl, hb2⟩
  · simp only [strOut]
    go_wp2_with fail
    go_ret2
    exact ⟨rfl, hb2⟩
/-- The block g begins with the texts l. -/
def StrRow (w : World) (g : Nat) (l : List (List UInt8)) : Prop := g < w.heap.size ∧ ∀ j (h : j < l.length), w.cell? ⟨g, j, none⟩ = some (.string ⟨l[j].toArray⟩)
/-- A word's place, from 0 on; -1: it is none of them. -/
def findI (l : List (List UInt8)) (x : List UInt8) : Int := if x ∈ l then (l.idxOf x : Int) else -1
set_option maxHeartbeats 1000000 in
theorem l9Find_any (l : List (List UInt8)) (hn : l.Nodup) (x : ByteArray) (g c : Nat) (w : World) (hr : StrRow w g l) (hl : l.length ≤ 1000000) (hc : l.length ≤ c) :
    Calls Tryd.prog 14 #[.slice (some ⟨g, 0, none⟩) l.length c, .string x] w fun e w' => e = .returned (.int .i64 (findI l x.data.toList)) ∧ w' = w := by
  obtain ⟨R, hR⟩ : ∃ R, findI l x.data.toList = R := ⟨_, rfl⟩
  rw [hR]
  have HR := Lib.hid hR
  have HN := Lib.hid hn
  have HROW := Lib.hid hr
  have hg := hr.1
  clear hR hn hr
  go_enter Tryd.func14, Tryd.ntmps14
  go_wp2_with fail
  go_loopw [5] (fun i wr => ∃ k : Nat, i = .int .i64 k ∧ k ≤ l.length ∧ Hid (x.data.toList ∉ l.take k) ∧ wr = w) (fun i _ => l.length - (intOf i).toNat)
  case atStart => exact ⟨0, rfl, Nat.zero_le _, Lib.hid (by simp), rfl⟩
  case round =>
    obtain ⟨k, rfl, hk, HD, hw⟩ := hrel
    obtain rfl : w = wr := hw.symm
    by_cases hlt : k < l.length
    · have t1 : decide ((k : Int) < l.length) = true := decide_eq_true (by omega)
      have e0 := HROW.out.2 k hlt
      obtain ⟨y, hy⟩ : ∃ y : ByteArray, (⟨l[k].toArray⟩ : ByteArray) = y := ⟨_, rfl⟩
      rw [hy] at e0
      have hyl : y.data.toList = l[k] := by rw [← hy]
      have hct : (x.data.toList ∉ l.take (k + 1)) ↔ (x.data.toList ∉ l.take k ∧ x.data.toList ≠ l[k]) := by
        rw [List.take_succ_eq_append_getElem hlt, List.mem_append, List.mem_singleton, not_or]
      have HC := Lib.hid hct
      have HY := Lib.hid hyl
      clear hct hyl hy
      by_cases he : y = x
      · subst he
        have hf : R = (k : Int) := by
          rw [← HR.out, findI, if_pos (by rw [HY.out]; exact List.getElem_mem hlt), HY.out, HN.out.idxOf_getElem]
        subst hf
        have v2 : (y.toList == y.toList) = true := by simp
        go_wp2_with fail
        go_ret
        exact ⟨rfl, rfl⟩
      · have v1 : (y.toList == x.toList) = false := by rw [beq_eq_false_iff_ne]; exact fun h => he (toList_inj h)
        have hnx : x.data.toList ≠ l[k] := fun h => he (str_ext (by rw [HY.out, h]))
        have HNX := Lib.hid hnx
        clear he hnx
        go_wp2_with fail
        go_roundw
        case rel => exact ⟨k + 1, by go_num, by omega, Lib.hid (HC.out.2 ⟨HD.out, HNX.out⟩), trivial⟩
        case measure => simp [intOf]; omega
    · have t1 : decide ((k : Int) < l.length) = false := decide_eq_false (by omega)
      have hf : R = -1 := by
        rw [← HR.out, findI, if_neg (by have := HD.out; rwa [List.take_of_length_le (by omega)] at this)]
      subst hf
      go_wp2_with fail
      go_ret
      exact ⟨rfl, rfl⟩
end Go.Proofs.YtopaeiogbijppaaDoor
