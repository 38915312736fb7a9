/- spec's l1Joined at a space, over a part of a row of texts. -/
import Derived.Test.YtopaeiogbijppaaDoorParSplit
import Derived.Lib.AppendStr
namespace Go.Proofs.YtopaeiogbijppaaDoor
open Go.RowKit

theorem jn_snoc : ∀ (l : List (List UInt8)) (p : List UInt8), l ≠ [] → jn (l ++ [p]) = jn l ++ 32 :: p
  | [], _, h => absurd rfl h
  | [a], p, _ => rfl
  | a :: b :: r, p, _ => by
    have ih := jn_snoc (b :: r) p (by simp)
    rw [List.cons_append, jn_cons _ _ (by simp), ih, jn_cons a (b :: r) (by simp)]
    simp
theorem jn_take (l : List (List UInt8)) (k : Nat) (h : k < l.length) : jn (l.take (k + 1)) = jn (l.take k) ++ (if k = 0 then l[k] else 32 :: l[k]) := by
  rw [List.take_succ_eq_append_getElem h]
  by_cases hk : k = 0
  · subst hk; simp [jn]
  · rw [jn_snoc _ _ (by intro e; have := congrArg List.length e; rw [List.length_take, List.length_nil] at this; omega), if_neg hk]
theorem jn_append_le : ∀ (b a : List (List UInt8)), (jn a).length ≤ (jn (a ++ b)).length
  | [], a => by simp
  | x :: b, a => by
    have h1 := jn_append_le b (a ++ [x])
    rw [List.append_assoc, List.singleton_append] at h1
    refine Nat.le_trans ?_ h1
    by_cases ha : a = []
    · subst ha; simp [jn]
    · rw [jn_snoc _ _ ha]; simp
theorem jn_le (l : List (List UInt8)) (k : Nat) : (jn (l.take k)).length ≤ (jn l).length := by
  have := jn_append_le (l.drop k) (l.take k)
  rwa [List.take_append_drop] at this
/-- A part of a block: the texts l from the place f on. -/
def StrRowAt (w : World) (g f : Nat) (l : List (List UInt8)) : Prop := g < w.heap.size ∧ ∀ j (h : j < l.length), w.cell? ⟨g, f + j, none⟩ = some (.string ⟨l[j].toArray⟩)
theorem StrRowAt.below {w x : World} {g f : Nat} {l : List (List UInt8)} (h : StrRowAt w g f l) (hb : Below w.heap.size w x) : StrRowAt x g f l :=
  ⟨Nat.lt_of_lt_of_le h.1 hb.size, fun j hj => (hb.cell (p := ⟨g, f + j, none⟩) h.1).trans (h.2 j hj)⟩
theorem UnSt.pushS {w wr w1 : World} {o : List UInt8} {v v' : Value} (h : UnSt w o v wr) (x : ByteArray) (hown' : w1.ownsRow w.heap.size 5 1 v' (o.length + x.size) ((ints o).map (Value.int .u8) ++ Lib.strCells x)) (hg : wr.grownBy w1 v.ownBlock) (hn : v' = .slice none 0 0 ↔ v = .slice none 0 0 ∧ x.size = 0) : UnSt w (o ++ x.data.toList) v' w1 := by
  have hsz := h.bel.size
  refine ⟨?_, h.bel.grown hg (by omega) (fun g hg' => (h.row.lt g hg').1), fun e => h.nn (hn.1 e).1⟩
  rw [List.length_append, show x.data.toList.length = x.size by simp, ints_append, List.map_append]
  have : (ints x.data.toList).map (Value.int .u8) = Lib.strCells x := by
    simp [ints, Lib.strCells]
  rw [this]
  exact hown'
set_option maxRecDepth 100000 in
set_option maxHeartbeats 2000000 in
theorem l1Joined_any (l : List (List UInt8)) (g f c : Nat) (w : World) (hr : StrRowAt w g f l) (hl : l.length ≤ 2000000) (hc : l.length ≤ c) (hj : (jn l).length ≤ 2000000) (sep : ByteArray) (hsep : sep.data.toList = [32]) :
    Calls Tryd.prog 18 #[.slice (some ⟨g, f, none⟩) l.length c, .string sep] w fun e w' => e = .returned (.string ⟨(jn l).toArray⟩) ∧ Below w.heap.size w w' := by
  obtain ⟨i0, hi0, hz0, hz1, hz2⟩ := info_parts info_byte
  have HROW := Lib.hid hr
  have HJ := Lib.hid (fun k => Nat.le_trans (jn_le l k) hj)
  have HT := Lib.hid (fun k h => jn_take l k h)
  have hsz1 : sep.size = 1 := by rw [show sep.size = sep.data.toList.length by simp, hsep]; rfl
  have HSEP := Lib.hid hsep
  clear hr hj hsep
  go_enter Tryd.func18, Tryd.ntmps18
  go_wp2_with fail
  go_loopw [5, 6] (fun v i wr => ∃ (k : Nat) (o : List UInt8) (v' : Value), i = .int .i64 k ∧ v' = v ∧ k ≤ l.length ∧ Hid (o = jn (l.take k)) ∧ UnSt w o v' wr) (fun _ i _ => l.length - (intOf i).toNat)
  case atStart => exact ⟨0, [], _, rfl, rfl, Nat.zero_le _, Lib.hid rfl, UnSt.start w⟩
  case round =>
    obtain ⟨k, o, v, rfl, rfl, hk, HO, hst⟩ := hrel
    have hsz := hst.bel.size
    have HST := Lib.hid hst
    clear hst
    have hol := HJ.out k
    rw [← HO.out] at hol
    by_cases hlt : k < l.length
    · have t1 : decide ((k : Int) < l.length) = true := decide_eq_true (by omega)
      have e0 := (HROW.out.below HST.out.bel).2 k hlt
      have hnext := HT.out k hlt
      have hol2 := HJ.out (k + 1)
      rw [hnext, ← HO.out] at hol2
      obtain ⟨y, hy⟩ : ∃ y : ByteArray, (⟨l[k].toArray⟩ : ByteArray) = y := ⟨_, rfl⟩
      rw [hy] at e0
      have HY := Lib.hid hy
      have hyl : l[k] = y.data.toList := by rw [← hy]
      rw [hyl] at hnext hol2
      have hys : y.data.toList.length = y.size := by simp
      have HN := Lib.hid hnext
      clear hy hyl hnext
      by_cases h0 : k = 0
      · subst h0
        rw [Nat.add_zero] at e0
        rw [if_pos rfl, List.length_append, hys] at hol2
        have t2 : decide ((0 : Int) < 0) = false := by decide
        clear hys
        go_wp2_with (at_builtin; (refine Lib.wpList_append_own_string _ rfl _ _ 77 9 rfl w.heap.size 5 i0 Tryd.underlying77 Tryd.underlying9 hi0 hz0 hz1 hz2 _ _ _ rfl HST.out.row y rfl (by unfold maxLen; omega) (by omega) (by omega) ?_; intro v' w1 hown' hgrow hnil))
        have hst1 := HST.out.pushS y hown' hgrow hnil
        go_roundw
        case rel => exact ⟨1, _, _, by go_num, rfl, by omega, Lib.hid (by have := HN.out; rw [if_pos rfl] at this; rw [this, ← HO.out]), hst1⟩
        case measure => simp [intOf]; omega
      · rw [if_neg h0] at hol2
        simp only [List.length_append, List.length_cons, hys] at hol2
        have t2 : decide ((0 : Int) < k) = true := decide_eq_true (by omega)
        clear hys
        go_wp2_with (first
          | (at_builtin; refine Lib.wpList_append_own_string _ rfl _ _ 77 9 rfl w.heap.size 5 i0 Tryd.underlying77 Tryd.underlying9 hi0 hz0 hz1 hz2 _ _ _ rfl HST.out.row sep rfl (by unfold maxLen; omega) (by omega) (by omega) ?_
             intro v1 w1 hown1 hgrow1 hnil1
             have hst1 := HST.out.pushS sep hown1 hgrow1 hnil1
             rw [HSEP.out] at hst1
             have HST1 := Lib.hid hst1
             have hb1 := hst1.bel.size
             have e1 := (HROW.out.below hst1.bel).2 k hlt
             rw [show (⟨l[k].toArray⟩ : ByteArray) = y from HY.out] at e1
             clear hst1 hown1 hgrow1 hnil1)
          | (at_builtin; refine Lib.wpList_append_own_string _ rfl _ _ 77 9 rfl w.heap.size 5 i0 Tryd.underlying77 Tryd.underlying9 hi0 hz0 hz1 hz2 _ _ _ rfl HST1.out.row y rfl (by unfold maxLen; simp; omega) (by simp; omega) (by omega) ?_
             intro v2 w2 hown2 hgrow2 hnil2))
        have hst2 := HST1.out.pushS y hown2 hgrow2 hnil2
        go_roundw
        case rel => exact ⟨k + 1, _, _, by go_num, rfl, by omega, Lib.hid (by have := HN.out; rw [if_neg h0] at this; rw [this, ← HO.out]; simp), hst2⟩
        case measure => simp [intOf]; omega
    · have t1 : decide ((k : Int) < l.length) = false := decide_eq_false (by omega)
      have hf : o = jn l := by rw [HO.out, List.take_of_length_le (by omega)]
      obtain ⟨g1, cap1, hv⟩ := HST.out.form
      subst hv
      have e2 := HST.out.text
      have HF := Lib.hid hf
      clear hf
      go_wp2_with fail
      go_ret
      refine ⟨?_, HST.out.bel⟩
      rw [HF.out]; rfl
end Go.Proofs.YtopaeiogbijppaaDoor
