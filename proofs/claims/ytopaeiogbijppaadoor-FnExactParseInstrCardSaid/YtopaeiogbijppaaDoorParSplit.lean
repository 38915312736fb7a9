/- spec's SplitByte at a space, at every text. -/
import Derived.Test.YtopaeiogbijppaaDoorParWords
namespace Go.Proofs.YtopaeiogbijppaaDoor
open Go.RowKit

theorem info_str : (Tryd.prog.info? 9).map (fun i => (i.zero, i.size, i.bytes)) = some (some (.string ByteArray.empty), 1, 16) := by kernel_rfl
def strs (l : List (List UInt8)) : List Value := l.map fun x => .string ⟨x.toArray⟩
/-- The pieces cut so far, in a row that the call owns. -/
structure SpSt (w : World) (o : List (List UInt8)) (v : Value) (wr : World) : Prop where
  row : wr.ownsRow w.heap.size 9 1 v o.length (strs o)
  bel : Below w.heap.size w wr
  nn : v ≠ .slice none 0 0
theorem SpSt.form {w wr : World} {o : List (List UInt8)} {v : Value} (h : SpSt w o v wr) : ∃ g cap, v = .slice (some ⟨g, 0, none⟩) o.length cap ∧ o.length ≤ cap ∧ StrRow wr g o ∧ w.heap.size ≤ g := by
  have hl := h.row.lt
  rcases h.row.2 with ⟨hv, _⟩ | ⟨g, cap, cur, hv, hb, hg, hc, _⟩
  · exact absurd hv h.nn
  · refine ⟨g, cap, hv, hc, ⟨(Array.getElem?_eq_some_iff.1 hg).1, fun j hj => ?_⟩, hb⟩
    have := h.row.cells (g := g) (by rw [hv]; rfl) j (.string ⟨o[j].toArray⟩) (by simp [strs, hj])
    rwa [show (⟨g, 0, none⟩ : Addr).add j = ⟨g, j, none⟩ by unfold Addr.add; split <;> simp_all] at this
theorem SpSt.push {w wr w1 : World} {o : List (List UInt8)} {v v' : Value} (h : SpSt w o v wr) (x : List UInt8) {ob : Obj} (hown' : w1.ownsRow w.heap.size 9 1 v' (o.length + 1) (strs o ++ [Value.string ⟨x.toArray⟩])) (hg : (wr.alloc ob).grownBy w1 v.ownBlock) (hn : v' = .slice none 0 0 ↔ v = .slice none 0 0 ∧ 1 = 0) : SpSt w (o ++ [x]) v' w1 := by
  have hsz := h.bel.size
  refine ⟨?_, (h.bel.alloc hsz ob).grown hg (by simp; omega) (fun g hg' => (h.row.lt g hg').1), fun e => by have := (hn.1 e).2; omega⟩
  rw [List.length_append, List.length_singleton]
  simpa [strs] using hown'
theorem SpSt.start (w : World) : SpSt w [] (.slice (some ⟨w.heap.size, 0, none⟩) 0 0) (w.alloc (.cells #[] 9)) :=
  ⟨⟨rfl, .inr ⟨w.heap.size, 0, #[], rfl, Nat.le_refl _, heap_alloc_new w _, Nat.le_refl _, Nat.zero_le _, rfl, rfl⟩⟩, (Below.refl _ _).alloc (Nat.le_refl _) _, fun e => by cases e⟩
theorem piece_list (s : ByteArray) (fr i : Nat) (h : i ≤ s.size) : (s.extract fr i).data.toList = (s.data.toList.drop fr).take (i - fr) := by
  simp only [ByteArray.data_extract, Array.toList_extract]
  first | done | rfl | rw [List.extract_eq_take_drop]
/-- What holds at the head of a round. -/
def SpInv (s : ByteArray) (fr k : Nat) (o : List (List UInt8)) : Prop :=
  (k ≤ s.size ∧ fr ≤ k ∧ spl s.data.toList = o ++ spl (s.data.toList.drop fr) ∧ ∀ j, fr ≤ j → (h : j < s.data.toList.length) → j < k → s.data.toList[j] ≠ 32) ∨ (k = s.size + 1 ∧ spl s.data.toList = o)
set_option maxRecDepth 100000 in
set_option maxHeartbeats 2000000 in
theorem splitByte_any (s : ByteArray) (w : World) (hs : s.size ≤ 1048576) :
    Calls Tryd.prog 13 #[.string s, .int .u8 32] w fun e w' => (∃ g cap, e = .returned (.slice (some ⟨g, 0, none⟩) (spl s.data.toList).length cap) ∧ (spl s.data.toList).length ≤ cap ∧ StrRow w' g (spl s.data.toList) ∧ w.heap.size ≤ g) ∧ Below w.heap.size w w' := by
  have hlen : s.data.toList.length = s.size := by simp
  obtain ⟨i0, hi0, hz0, hz1, hz2⟩ := info_parts info_str
  have HL := Lib.hid hlen
  clear hlen
  go_enter Tryd.func13, Tryd.ntmps13
  go_wp2_with fail
  go_loopw [5, 6, 7] (fun v f i wr => ∃ (k fr : Nat) (o : List (List UInt8)) (v' : Value), i = .int .i64 k ∧ f = .int .i64 fr ∧ v' = v ∧ k ≤ s.size + 1 ∧ o.length ≤ k ∧ Hid (SpInv s fr k o) ∧ SpSt w o v' wr) (fun _ _ i _ => s.size + 1 - (intOf i).toNat)
  case atStart => exact ⟨0, 0, [], _, rfl, rfl, rfl, Nat.zero_le _, Nat.le_refl _, Lib.hid (.inl ⟨Nat.zero_le _, Nat.le_refl _, by simp, fun j _ _ h => by omega⟩), SpSt.start w⟩
  case round =>
    obtain ⟨k, fr, o, v, rfl, rfl, rfl, hk, hol, HD, hst⟩ := hrel
    have hsz := hst.bel.size
    have HST := Lib.hid hst
    clear hst
    by_cases hle : k ≤ s.size
    · have t1 : decide ((k : Int) ≤ s.size) = true := decide_eq_true (by omega)
      have t1' : decide (k ≤ s.size) = true := decide_eq_true hle
      obtain ⟨hfr, heq, hno⟩ : fr ≤ k ∧ spl s.data.toList = o ++ spl (s.data.toList.drop fr) ∧ ∀ j, fr ≤ j → (h : j < s.data.toList.length) → j < k → s.data.toList[j] ≠ 32 := by
        rcases HD.out with h | h
        · exact h.2
        · omega
      have HEQ := Lib.hid heq
      have HNO := Lib.hid hno
      clear heq hno
      by_cases hend : k = s.size
      · have t2 : ((k : Int) == s.size) = true := by rw [beq_iff_eq]; omega
        have hfin := Lib.hid (show spl s.data.toList = o ++ [(s.extract fr k).data.toList] by
          rw [HEQ.out, spl_end (fun j h1 h2 => HNO.out j h1 h2 (by rw [HL.out] at h2; omega)), piece_list _ _ _ hle, List.take_of_length_le (by rw [List.length_drop, HL.out]; omega)])
        have HEN := Lib.hid hend
        clear hend
        go_wp2_with (at_builtin; refine wpList_append_own _ rfl _ _ 30 rfl w.heap.size 9 i0 (.string ByteArray.empty) 1 16 Tryd.underlying30 hi0 hz0 hz1 hz2 rfl (by decide) _ _ _ rfl (HST.out.row.alloc _) ⟨wr.heap.size, 0, none⟩ 1 1 [.string (s.extract fr k)] rfl rfl (cell_one_new _ _ _) (by simp [Value.oneCell']) (by unfold maxLen; omega) (by omega) (by simp; omega) ?_; intro v' w1 hown' hgrow hnil)
        have hst1 := HST.out.push (s.extract fr k).data.toList hown' hgrow hnil
        go_roundw
        case rel => exact ⟨k + 1, k + 1, _, _, by go_num, by go_num, rfl, by omega, by simp; omega, Lib.hid (.inr ⟨by have := HEN.out; omega, hfin.out⟩), hst1⟩
        case measure => simp [intOf]; omega
      · have t2 : ((k : Int) == s.size) = false := by rw [beq_eq_false_iff_ne]; omega
        have hlt : k < s.size := by omega
        obtain ⟨c, hc⟩ : ∃ c : Int, (s[k].toNat : Int) = c := ⟨_, rfl⟩
        have hat := Lib.hid (show s.data.toList[k]'(by rw [HL.out]; exact hlt) = s[k] by simp; rfl)
        by_cases h32 : c = 32
        · subst h32
          have hfin := Lib.hid (show spl s.data.toList = (o ++ [(s.extract fr k).data.toList]) ++ spl (s.data.toList.drop (k + 1)) by
            rw [HEQ.out, spl_at hfr (by rw [HL.out]; exact hlt) (fun j h1 h2 h3 => HNO.out j h1 h2 h3) (by rw [hat.out, byte_is s[k] _ hc]; rfl), piece_list _ _ _ hle]
            simp)
          go_wp2_with (at_builtin; refine wpList_append_own _ rfl _ _ 30 rfl w.heap.size 9 i0 (.string ByteArray.empty) 1 16 Tryd.underlying30 hi0 hz0 hz1 hz2 rfl (by decide) _ _ _ rfl (HST.out.row.alloc _) ⟨wr.heap.size, 0, none⟩ 1 1 [.string (s.extract fr k)] rfl rfl (cell_one_new _ _ _) (by simp [Value.oneCell']) (by unfold maxLen; omega) (by omega) (by simp; omega) ?_; intro v' w1 hown' hgrow hnil)
          have hst1 := HST.out.push (s.extract fr k).data.toList hown' hgrow hnil
          go_roundw
          case rel => exact ⟨k + 1, k + 1, _, _, by go_num, by go_num, rfl, by omega, by simp; omega, Lib.hid (.inl ⟨by omega, Nat.le_refl _, hfin.out, fun j h1 _ h3 => by omega⟩), hst1⟩
          case measure => simp [intOf]; omega
        · have t3 : (c == 32) = false := by rw [beq_eq_false_iff_ne]; exact h32
          have hne := Lib.hid (show s[k] ≠ 32 by rw [ne_eq, byte_is s[k] _ hc]; exact h32)
          go_wp2_with fail
          go_roundw
          case rel =>
            refine ⟨k + 1, fr, o, _, by go_num, rfl, rfl, by omega, by omega, Lib.hid (.inl ⟨by omega, by omega, HEQ.out, fun j h1 h2 h3 => ?_⟩), HST.out⟩
            rcases Nat.lt_or_ge j k with h4 | h4
            · exact HNO.out j h1 h2 h4
            · obtain rfl : j = k := by omega
              rw [hat.out]; exact hne.out
          case measure => simp [intOf]; omega
    · have t1 : decide ((k : Int) ≤ s.size) = false := decide_eq_false (by omega)
      have t1' : decide (k ≤ s.size) = false := decide_eq_false hle
      have hfin : spl s.data.toList = o := by
        rcases HD.out with h | h
        · omega
        · exact h.2
      have HF := Lib.hid hfin
      obtain ⟨g, cap, hv, hc, hrow, hg⟩ := HST.out.form
      subst hv
      have HROW := Lib.hid hrow
      clear hfin hrow
      go_wp2_with fail
      go_ret
      refine ⟨⟨g, cap, ?_, ?_, ?_, hg⟩, HST.out.bel⟩
      · rw [HF.out]; rfl
      · rw [HF.out]; exact hc
      · rw [HF.out]; exact HROW.out
end Go.Proofs.YtopaeiogbijppaaDoor
