/- Rows of names, both sides. Printed by gen_names.py. -/
import Derived.Test.YtopaeiogbijppaaDoorNmName
import Derived.Test.YtopaeiogbijppaaDoorRegion2
import Derived.Deep.DeepCutAuto
namespace Go.Proofs.YtopaeiogbijppaaDoor
open Go.RowKit

theorem allNm_yes {l : List ByteArray} (h : ∀ k (hk : k < l.length), isNm l[k] = true) : l.all isNm = true := by
  rw [List.all_eq_true]
  intro x hx
  obtain ⟨k, hk, rfl⟩ := List.getElem_of_mem hx
  exact h k hk
theorem allNm_no {l : List ByteArray} {j : Nat} (hj : j < l.length) (h : isNm l[j] = false) : l.all isNm = false := by
  rw [List.all_eq_false]
  exact ⟨_, List.getElem_mem hj, by rw [h]; decide⟩
/-- Whether a text stands there twice. -/
def twB (l : List ByteArray) : Bool := (List.range l.length).any fun j => hasB (l.take j) (l.getD j ⟨#[]⟩)
theorem getD_at {l : List ByteArray} {j : Nat} (hj : j < l.length) (d : ByteArray) : l.getD j d = l[j] := by
  rw [List.getD_eq_getElem?_getD, List.getElem?_eq_getElem hj]; rfl
theorem twB_yes {l : List ByteArray} {j : Nat} (hj : j < l.length) (h : hasB (l.take j) l[j] = true) : twB l = true := by
  unfold twB
  rw [List.any_eq_true]
  exact ⟨j, List.mem_range.2 hj, by rw [getD_at hj]; exact h⟩
theorem twB_no {l : List ByteArray} (h : ∀ k (hk : k < l.length), hasB (l.take k) l[k] = false) : twB l = false := by
  unfold twB
  rw [List.any_eq_false]
  intro j hj
  rw [List.mem_range] at hj
  rw [getD_at hj, h j hj]
  decide
theorem RowIs.take {α : Type} {El : Elem α} {size : Nat} {F : Nat → Prop} {w : World} {l : List α} {A : Option Addr} {n c j : Nat} (hj : j ≤ l.length) (h : RowIs El size F w l (.slice A n c)) : RowIs El size F w (l.take j) (.slice A j c) := by
  obtain ⟨A', c', e, h1, h2, h3⟩ := h
  cases e
  have hlen : (l.take j).length = j := by rw [List.length_take]; omega
  refine ⟨A, c, by rw [hlen], by omega, h2, fun i hi => ?_⟩
  obtain ⟨b, o, cs, e, hF, hb, hel, hc⟩ := h3 i (by omega)
  exact ⟨b, o, cs, e, hF, hb, by rw [List.getElem_take]; exact hel, hc⟩
set_option maxRecDepth 100000 in
set_option maxHeartbeats 2000000 in
theorem allNames_any (l : List ByteArray) (v : Value) (F : Nat → Prop) (w : World) (hr : RowIs strEl 1 F w l v) (ht : Spc w) : Calls Tryd.prog 39 #[v] w fun e w' => e = .returned (.bool (l.all isNm)) ∧ Below w.heap.size w w' := by
  obtain ⟨A, c, rfl, hc, hcm, hel⟩ := hr
  unfold maxLen at hcm
  have HEL := Lib.hid hel
  obtain ⟨R, hR⟩ : ∃ R, (l.all isNm) = R := ⟨_, rfl⟩
  rw [hR]
  have HR := Lib.hid hR
  have HT := Lib.hid ht
  clear hR hel ht
  go_enter Tryd.func39, Tryd.ntmps39
  go_wp2_with fail
  go_loopw [7] (fun i wr => ∃ j : Nat, i = .int .i64 j ∧ j ≤ l.length ∧ Hid (∀ k (h : k < l.length), k < j → isNm l[k] = true) ∧ Below w.heap.size w wr) (fun i _ => l.length - (intOf i).toNat)
  case atStart => exact ⟨0, rfl, Nat.zero_le _, Lib.hid (fun k _ h => by omega), Below.refl _ _⟩
  case round =>
    obtain ⟨j, rfl, hj, HD, hbel⟩ := hrel
    have hsz := hbel.size
    by_cases hlt : j < l.length
    · obtain ⟨b, o, cs, rfl, hF, hbl, hE, hcell⟩ := HEL.out j hlt
      obtain ⟨rfl, hsm⟩ := hE
      have t1 : decide ((j : Int) < l.length) = true := decide_eq_true (by omega)
      have hlt' : (j : Int) < l.length := by omega
      have e0 := (hbel.cell (p := ⟨b, o + j * 1 + 0, none⟩) hbl).trans (hcell 0 _ rfl)
      simp only [Nat.mul_one, Nat.add_zero] at e0
      obtain ⟨s, hs⟩ : ∃ s, l[j] = s := ⟨_, rfl⟩
      rw [hs] at e0 hsm
      have HN := Lib.hid (implIsName_any s wr hsm (HT.out.below hbel))
      have HD2 := Lib.hid (fun (h : isNm s = true) => show ∀ k (h : k < l.length), k < j + 1 → isNm l[k] = true from fun k hk h1 => by
        rcases Nat.lt_or_ge k j with h2 | h2
        · exact HD.out k hk h2
        · obtain rfl : k = j := by omega
          rw [hs]; exact h)
      have HNO := Lib.hid (fun (h : isNm s = false) => allNm_no hlt (by rw [hs]; exact h))
      clear hcell hsm hs
      go_wp2_with fail
      refine HN.out.mono ?_
      rintro e w1 ⟨rfl, hb1⟩
      have hbel1 := hbel.trans (Below.mono hb1 hsz)
      clear e0 hb1
      by_cases hn : isNm s = true
      · have HD3 := Lib.hid (HD2.out hn)
        rw [hn]
        clear HD2 HNO HN hn
        go_wp2_with fail
        go_roundw
        case rel => exact ⟨j + 1, by go_num, by omega, HD3, hbel1⟩
        case measure => simp [intOf]; omega
      · have hn2 : isNm s = false := by simpa using hn
        have hR0 : R = false := by rw [← HR.out, HNO.out hn2]
        rw [hn2]
        subst hR0
        clear hn hn2 HNO HD2 HN
        go_wp2_with fail
        go_ret
        exact ⟨rfl, hbel1⟩
    · have t1 : decide ((j : Int) < l.length) = false := decide_eq_false (by omega)
      have hR0 : R = true := by rw [← HR.out, allNm_yes (fun k hk => HD.out k hk (by omega))]
      subst hR0
      go_wp2_with fail
      go_ret
      exact ⟨rfl, hbel⟩
set_option maxRecDepth 100000 in
set_option maxHeartbeats 2000000 in
theorem l7NamesOk_any (l : List ByteArray) (v : Value) (most : Int) (F : Nat → Prop) (w : World) (hr : RowIs strEl 1 F w l v) : Calls Tryd.prog 29 #[v, .int .i64 most] w fun e w' => e = .returned (.bool (l.all isNm && decide ((l.length : Int) ≤ most))) ∧ Below w.heap.size w w' := by
  obtain ⟨A, c, rfl, hc, hcm, hel⟩ := hr
  unfold maxLen at hcm
  have HEL := Lib.hid hel
  obtain ⟨R, hR⟩ : ∃ R, (l.all isNm && decide ((l.length : Int) ≤ most)) = R := ⟨_, rfl⟩
  rw [hR]
  have HR := Lib.hid hR
  skip
  clear hR hel
  go_enter Tryd.func29, Tryd.ntmps29
  go_wp2_with fail
  go_loopw [5] (fun i wr => ∃ j : Nat, i = .int .i64 j ∧ j ≤ l.length ∧ Hid (∀ k (h : k < l.length), k < j → isNm l[k] = true) ∧ Below w.heap.size w wr) (fun i _ => l.length - (intOf i).toNat)
  case atStart => exact ⟨0, rfl, Nat.zero_le _, Lib.hid (fun k _ h => by omega), Below.refl _ _⟩
  case round =>
    obtain ⟨j, rfl, hj, HD, hbel⟩ := hrel
    have hsz := hbel.size
    by_cases hlt : j < l.length
    · obtain ⟨b, o, cs, rfl, hF, hbl, hE, hcell⟩ := HEL.out j hlt
      obtain ⟨rfl, hsm⟩ := hE
      have t1 : decide ((j : Int) < l.length) = true := decide_eq_true (by omega)
      have hlt' : (j : Int) < l.length := by omega
      have e0 := (hbel.cell (p := ⟨b, o + j * 1 + 0, none⟩) hbl).trans (hcell 0 _ rfl)
      simp only [Nat.mul_one, Nat.add_zero] at e0
      obtain ⟨s, hs⟩ : ∃ s, l[j] = s := ⟨_, rfl⟩
      rw [hs] at e0 hsm
      have HN := Lib.hid (specIsName_any s wr hsm)
      have HD2 := Lib.hid (fun (h : isNm s = true) => show ∀ k (h : k < l.length), k < j + 1 → isNm l[k] = true from fun k hk h1 => by
        rcases Nat.lt_or_ge k j with h2 | h2
        · exact HD.out k hk h2
        · obtain rfl : k = j := by omega
          rw [hs]; exact h)
      have HNO := Lib.hid (fun (h : isNm s = false) => allNm_no hlt (by rw [hs]; exact h))
      clear hcell hsm hs
      go_wp2_with fail
      refine HN.out.mono ?_
      rintro e w1 ⟨rfl, hb1⟩
      have hbel1 := hbel.trans (Below.mono hb1 hsz)
      clear e0 hb1
      by_cases hn : isNm s = true
      · have HD3 := Lib.hid (HD2.out hn)
        rw [hn]
        clear HD2 HNO HN hn
        go_wp2_with fail
        go_roundw
        case rel => exact ⟨j + 1, by go_num, by omega, HD3, hbel1⟩
        case measure => simp [intOf]; omega
      · have hn2 : isNm s = false := by simpa using hn
        have hR0 : R = false := by rw [← HR.out, HNO.out hn2]; rfl
        rw [hn2]
        subst hR0
        clear hn hn2 HNO HD2 HN
        go_wp2_with fail
        go_ret
        exact ⟨rfl, hbel1⟩
    · have t1 : decide ((j : Int) < l.length) = false := decide_eq_false (by omega)
      have hR0 : R = decide ((l.length : Int) ≤ most) := by rw [← HR.out, allNm_yes (fun k hk => HD.out k hk (by omega)), Bool.true_and]
      subst hR0
      go_wp2_with fail
      go_ret
      exact ⟨rfl, hbel⟩
set_option maxRecDepth 100000 in
set_option maxHeartbeats 2000000 in
theorem l9Twice_any (l : List ByteArray) (v : Value) (F : Nat → Prop) (w : World) (hr : RowIs strEl 1 F w l v) : Calls Tryd.prog 32 #[v] w fun e w' => e = .returned (.bool (twB l)) ∧ w' = w := by
  have HROW := Lib.hid hr
  obtain ⟨A, c, rfl, hc, hcm, hel⟩ := hr
  unfold maxLen at hcm
  have HEL := Lib.hid hel
  obtain ⟨R, hR⟩ : ∃ R, twB l = R := ⟨_, rfl⟩
  rw [hR]
  have HR := Lib.hid hR
  clear hR hel
  go_enter Tryd.func32, Tryd.ntmps32
  go_wp2_with fail
  go_loopw [3] (fun i wr => ∃ j : Nat, i = .int .i64 j ∧ j ≤ l.length ∧ Hid (∀ k (h : k < l.length), k < j → hasB (l.take k) l[k] = false) ∧ wr = w) (fun i _ => l.length - (intOf i).toNat)
  case atStart => exact ⟨0, rfl, Nat.zero_le _, Lib.hid (fun k _ h => by omega), rfl⟩
  case round =>
    obtain ⟨j, rfl, hj, HD, hw⟩ := hrel
    obtain rfl : w = wr := hw.symm
    by_cases hlt : j < l.length
    · obtain ⟨b, o, cs, rfl, hF, hbl, hE, hcell⟩ := HEL.out j hlt
      obtain ⟨rfl, hsm⟩ := hE
      have t1 : decide ((j : Int) < l.length) = true := decide_eq_true (by omega)
      have hlt' : (j : Int) < l.length := by omega
      have e0 := hcell 0 _ rfl
      simp only [Nat.mul_one, Nat.add_zero] at e0
      have hff := findB_lt hlt
      have HYES := Lib.hid (fun h => twB_yes hlt h)
      have HD2 := Lib.hid (fun (h : hasB (l.take j) l[j] = false) => show ∀ k (h : k < l.length), k < j + 1 → hasB (l.take k) l[k] = false from fun k hk h1 => by
        rcases Nat.lt_or_ge k j with h2 | h2
        · exact HD.out k hk h2
        · obtain rfl : k = j := by omega
          exact h)
      obtain ⟨s, hs⟩ : ∃ s, l[j] = s := ⟨_, rfl⟩
      rw [hs] at e0 hff HYES HD2
      have HN := Lib.hid (l9Find_row l _ s F w HROW.out)
      obtain ⟨z, hz⟩ : ∃ z, findB l s = z := ⟨_, rfl⟩
      rw [hz] at HN hff
      clear hcell hsm hs hz
      go_wp2_with fail
      refine HN.out.mono ?_
      rintro e w1 ⟨rfl, hw1⟩
      obtain rfl := hw1.symm
      clear e0
      by_cases hn : hasB (l.take j) s = true
      · have hR0 : R = true := by rw [← HR.out, HYES.out hn]
        rw [hn] at hff
        subst hR0
        clear hn HYES HD2 HN
        go_wp2_with fail
        go_ret
        exact ⟨rfl, rfl⟩
      · have hn2 : hasB (l.take j) s = false := by simpa using hn
        have HD3 := Lib.hid (HD2.out hn2)
        rw [hn2] at hff
        clear hn hn2 HYES HD2 HN
        go_wp2_with fail
        go_roundw
        case rel => exact ⟨j + 1, by go_num, by omega, HD3, trivial⟩
        case measure => simp [intOf]; omega
    · have t1 : decide ((j : Int) < l.length) = false := decide_eq_false (by omega)
      have hR0 : R = false := by rw [← HR.out, twB_no (fun k hk => HD.out k hk (by omega))]
      subst hR0
      go_wp2_with fail
      go_ret
      exact ⟨rfl, rfl⟩
set_option maxRecDepth 100000 in
set_option maxHeartbeats 2000000 in
theorem repeated_any (l : List ByteArray) (v : Value) (F : Nat → Prop) (w : World) (hr : RowIs strEl 1 F w l v) : Calls Tryd.prog 70 #[v] w fun e w' => e = .returned (.bool (twB l)) ∧ Below w.heap.size w w' := by
  have HROW := Lib.hid hr
  obtain ⟨A, c, rfl, hc, hcm, hel⟩ := hr
  unfold maxLen at hcm
  have HEL := Lib.hid hel
  obtain ⟨R, hR⟩ : ∃ R, twB l = R := ⟨_, rfl⟩
  rw [hR]
  have HR := Lib.hid hR
  clear hR hel
  go_enter Tryd.func70, Tryd.ntmps70
  go_wp2_with fail
  go_loopw [6] (fun i wr => ∃ j : Nat, i = .int .i64 j ∧ j ≤ l.length ∧ Hid (∀ k (h : k < l.length), k < j → hasB (l.take k) l[k] = false) ∧ Below w.heap.size w wr) (fun i _ => l.length - (intOf i).toNat)
  case atStart => exact ⟨0, rfl, Nat.zero_le _, Lib.hid (fun k _ h => by omega), Below.refl _ _⟩
  case round =>
    obtain ⟨j, rfl, hj, HD, hbel⟩ := hrel
    have hsz := hbel.size
    by_cases hlt : j < l.length
    · obtain ⟨b, o, cs, rfl, hF, hbl, hE, hcell⟩ := HEL.out j hlt
      obtain ⟨rfl, hsm⟩ := hE
      have t1 : decide ((j : Int) < l.length) = true := decide_eq_true (by omega)
      have hlt' : (j : Int) < l.length := by omega
      have e0 := (hbel.cell (p := ⟨b, o + j * 1 + 0, none⟩) hbl).trans (hcell 0 _ rfl)
      simp only [Nat.mul_one, Nat.add_zero] at e0
      have HYES := Lib.hid (fun h => twB_yes hlt h)
      have HD2 := Lib.hid (fun (h : hasB (l.take j) l[j] = false) => show ∀ k (h : k < l.length), k < j + 1 → hasB (l.take k) l[k] = false from fun k hk h1 => by
        rcases Nat.lt_or_ge k j with h2 | h2
        · exact HD.out k hk h2
        · obtain rfl : k = j := by omega
          exact h)
      obtain ⟨s, hs⟩ : ∃ s, l[j] = s := ⟨_, rfl⟩
      rw [hs] at e0 HYES HD2
      have hbr : b < wr.heap.size := Nat.lt_of_lt_of_le hbl hsz
      have hjc : j ≤ c := by omega
      have hjc' : (j : Int) ≤ c := by omega
      have HTK := Lib.hid (RowIs.take hj (HROW.out.later strEl_is hbel))
      clear hcell hsm hs
      go_upto_region 4 with (fail)
      -- region 4: 8 operations, the last [7]
      refine wpU_begin [7] [] (by kernel_rfl) (fun W hW => ?_)
      have hWL : Later wr W := by rw [hW]; exact (Later.refl _).drew
      have eW := (hWL.cell ⟨b, o + j, none⟩ hbr).trans e0
      have hbW : b < W.heap.size := Nat.lt_of_lt_of_le hbr hWL.size
      clear hW
      refine wpU_take 0 (some 9) (v := ?_) rfl rfl (by kernel_rfl) (fun _ _ _ h => h) rfl (fun x hx => ?_) ?_
      rotate_left 1
      · go_simp; first | done | with_reducible rfl | rw [if_neg (by omega)] | rw [if_pos (by omega)]
      simp only [Act.put, List.setIfInBounds_toArray, List.set_cons_zero, List.set_cons_succ]
      refine wpU_take 1 (some 10) (v := ?_) rfl rfl (by kernel_rfl) (fun _ _ _ h => h) rfl (fun x hx => ?_) ?_
      rotate_left 1
      · go_simp; first | done | with_reducible rfl | rw [if_neg (by omega)] | rw [if_pos (by omega)]
      simp only [Act.put, List.setIfInBounds_toArray, List.set_cons_zero, List.set_cons_succ]
      refine wpU_take 2 (some 11) (v := ?_) rfl rfl (by kernel_rfl) (fun _ _ _ h => h) rfl (fun x hx => ?_) ?_
      rotate_left 1
      · go_simp; first | done | with_reducible rfl | rw [if_neg (by omega)] | rw [if_pos (by omega)]
      simp only [Act.put, List.setIfInBounds_toArray, List.set_cons_zero, List.set_cons_succ]
      refine wpU_take 3 (some 12) (v := ?_) rfl rfl (by kernel_rfl) (fun _ _ _ h => h) rfl (fun x hx => ?_) ?_
      rotate_left 1
      · go_simp; first | done | with_reducible rfl | rw [if_neg (by omega)] | rw [if_pos (by omega)]
      simp only [Act.put, List.setIfInBounds_toArray, List.set_cons_zero, List.set_cons_succ]
      refine wpU_take 4 (some 13) (v := ?_) rfl rfl (by kernel_rfl) (fun _ _ _ h => h) rfl (fun x hx => ?_) ?_
      rotate_left 1
      · go_simp; first | done | with_reducible rfl | rw [if_neg (by omega)] | rw [if_pos (by omega)]
      simp only [Act.put, List.setIfInBounds_toArray, List.set_cons_zero, List.set_cons_succ]
      refine wpU_take 5 (some 14) (v := ?_) rfl rfl (by kernel_rfl) (fun _ _ _ h => h) rfl (fun x hx => ?_) ?_
      rotate_left 1
      · go_simp; first | done | with_reducible rfl | rw [if_neg (by omega)] | rw [if_pos (by omega)]
      simp only [Act.put, List.setIfInBounds_toArray, List.set_cons_zero, List.set_cons_succ]
      refine wpU_take 6 (some 15) (v := ?_) rfl rfl (by kernel_rfl) (fun _ _ _ h => h) rfl (fun x hx => ?_) ?_
      rotate_left 1
      · have hx0 := (hx.cell ⟨b, o + j, none⟩ hbW).trans eW; go_simp; first | done | with_reducible rfl | rw [if_neg (by omega)] | rw [if_pos (by omega)]
      simp only [Act.put, List.setIfInBounds_toArray, List.set_cons_zero, List.set_cons_succ]
      refine wpU_last [_] (by kernel_rfl) rfl rfl ?_
      simp only [List.getElem_toArray, List.getElem_cons_succ, List.getElem_cons_zero]
      have HN := Lib.hid (contains_row (l.take j) _ s F W (HTK.out.later strEl_is hWL))
      have hbel1 := hbel.trans (Below.mono hWL hsz)
      clear e0 eW hWL hbW hbr
      go_wp2_with fail
      refine HN.out.mono ?_
      rintro e w1 ⟨rfl, hw1⟩
      obtain rfl := hw1.symm
      by_cases hn : hasB (l.take j) s = true
      · have hR0 : R = true := by rw [← HR.out, HYES.out hn]
        rw [hn]
        subst hR0
        clear hn HYES HD2 HN
        go_wp2_with fail
        go_ret
        exact ⟨rfl, hbel1⟩
      · have hn2 : hasB (l.take j) s = false := by simpa using hn
        have HD3 := Lib.hid (HD2.out hn2)
        rw [hn2]
        clear hn hn2 HYES HD2 HN
        go_wp2_with fail
        go_roundw
        case rel => exact ⟨j + 1, by go_num, by omega, HD3, hbel1⟩
        case measure => simp [intOf]; omega
    · have t1 : decide ((j : Int) < l.length) = false := decide_eq_false (by omega)
      have hR0 : R = false := by rw [← HR.out, twB_no (fun k hk => HD.out k hk (by omega))]
      subst hR0
      go_wp2_with fail
      go_ret
      exact ⟨rfl, hbel⟩
end Go.Proofs.YtopaeiogbijppaaDoor
