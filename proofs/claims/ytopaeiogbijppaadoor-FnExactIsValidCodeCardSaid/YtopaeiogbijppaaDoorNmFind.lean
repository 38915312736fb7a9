/- Searches in rows of texts. Printed by gen_names.py. -/
import Derived.Test.YtopaeiogbijppaaDoorData
import Derived.Test.YtopaeiogbijppaaDoorParRes
import Derived.Test.YtopaeiogbijppaaDoorChecked
import Derived.Test.YtopaeiogbijppaaDoorBytes
import Derived.Lib.Hide
import Derived.WalkKit
import Derived.WalkSpells
import Derived.WalkLawsBesides
import Derived.Outline
namespace Go.Proofs.YtopaeiogbijppaaDoor
open Go.RowKit

/-- The texts' bytes. -/
def bl (s : ByteArray) : List UInt8 := s.data.toList
theorem bl_inj {a b : ByteArray} (h : bl a = bl b) : a = b := by
  cases a; cases b
  simp only [bl, ByteArray.mk.injEq] at h ⊢
  exact Array.ext' h
theorem text_inj {a b : ByteArray} (h : a.toList = b.toList) : a = b := by
  have e : ∀ x : ByteArray, x.toList = x.data.toList := fun x => ByteArray.toList_eq x
  rw [e, e] at h
  exact bl_inj h
theorem bl_eq {a b : ByteArray} : bl a = bl b ↔ a = b := ⟨bl_inj, fun h => by rw [h]⟩
theorem idxOf_le : ∀ (L : List (List UInt8)) (x : List UInt8) (j : Nat) (h : j < L.length), L[j] = x → L.idxOf x ≤ j
  | a :: L, x, j, h, e => by
    rw [List.idxOf_cons]
    cases hx : a == x with
    | true => simp
    | false =>
      cases j with
      | zero => simp at e; simp [e] at hx
      | succ j =>
        have := idxOf_le L x j (by simpa using h) (by simpa using e)
        simp; omega
def hasB (l : List ByteArray) (s : ByteArray) : Bool := decide (bl s ∈ l.map bl)
def findB (l : List ByteArray) (s : ByteArray) : Int := if bl s ∈ l.map bl then ((l.map bl).idxOf (bl s) : Int) else -1
theorem hasB_iff {l : List ByteArray} {s : ByteArray} : hasB l s = true ↔ s ∈ l := by
  unfold hasB
  rw [decide_eq_true_eq, List.mem_map]
  exact ⟨fun ⟨a, h1, h2⟩ => bl_inj h2 ▸ h1, fun h => ⟨s, h, rfl⟩⟩
theorem hasB_at {l : List ByteArray} {s : ByteArray} {j : Nat} (h : j < l.length) (he : l[j] = s) : hasB l s = true := hasB_iff.2 (he ▸ List.getElem_mem h)
theorem hasB_no {l : List ByteArray} {s : ByteArray} (h : ∀ k (hk : k < l.length), l[k] ≠ s) : hasB l s = false := by
  rw [← Bool.not_eq_true, hasB_iff]
  intro hm
  obtain ⟨k, hk, e⟩ := List.getElem_of_mem hm
  exact h k hk e
theorem findB_at {l : List ByteArray} {s : ByteArray} {j : Nat} (h : j < l.length) (he : l[j] = s) (hn : ∀ k (hk : k < l.length), k < j → l[k] ≠ s) : findB l s = j := by
  have hm : bl s ∈ l.map bl := List.mem_map.2 ⟨s, he ▸ List.getElem_mem h, rfl⟩
  rw [findB, if_pos hm]
  congr 1
  have hi := List.idxOf_lt_length_iff.2 hm
  have hg := List.getElem_idxOf hi
  rw [List.getElem_map] at hg
  have e2 := bl_inj hg
  rw [List.length_map] at hi
  rcases Nat.lt_trichotomy ((l.map bl).idxOf (bl s)) j with h1 | h1 | h1
  · exact absurd e2 (hn _ hi h1)
  · exact h1
  · have := idxOf_le (l.map bl) (bl s) j (by simpa using h) (by simp [he])
    omega
theorem findB_no {l : List ByteArray} {s : ByteArray} (h : ∀ k (hk : k < l.length), l[k] ≠ s) : findB l s = -1 := by
  have := hasB_no h
  rw [findB, if_neg]
  simpa [hasB] using this
theorem findB_ge (l : List ByteArray) (s : ByteArray) : decide (0 ≤ findB l s) = hasB l s := by
  unfold findB hasB
  split
  · rename_i h; simp [h]
  · rename_i h; simp [h]
theorem findB_lt {l : List ByteArray} {j : Nat} (h : j < l.length) : decide (findB l l[j] < j) = hasB (l.take j) l[j] := by
  by_cases hm : l[j] ∈ l.take j
  · rw [hasB_iff.2 hm]
    have h1 : bl l[j] ∈ l.map bl := List.mem_map.2 ⟨_, List.getElem_mem h, rfl⟩
    rw [findB, if_pos h1, decide_eq_true_eq]
    obtain ⟨k, hk, e⟩ := List.getElem_of_mem hm
    rw [List.length_take] at hk
    rw [List.getElem_take] at e
    rcases Nat.lt_or_ge ((l.map bl).idxOf (bl l[j])) j with h2 | h2
    · omega
    · have := idxOf_le (l.map bl) (bl l[j]) k (by simp; omega) (by simp [e])
      omega
  · have h0 : hasB (l.take j) l[j] = false := by rw [← Bool.not_eq_true, hasB_iff]; exact hm
    rw [h0, findB_at h rfl (fun k hk h1 e => hm (by rw [← e, List.mem_take_iff_getElem]; exact ⟨k, by omega, rfl⟩))]
    simp
set_option maxRecDepth 100000 in
set_option maxHeartbeats 1000000 in
theorem l9Find_row (l : List ByteArray) (v : Value) (s : ByteArray) (F : Nat → Prop) (w : World) (hr : RowIs strEl 1 F w l v) :
    Calls Tryd.prog 14 #[v, .string s] w fun e w' => e = .returned (.int .i64 (findB l s)) ∧ w' = w := by
  obtain ⟨A, c, rfl, hc, hcm, hel⟩ := hr
  unfold maxLen at hcm
  have HEL := Lib.hid hel
  clear hel
  obtain ⟨R, hR⟩ : ∃ R, findB l s = R := ⟨_, rfl⟩
  rw [hR]
  have HR := Lib.hid hR
  clear hR
  go_enter Tryd.func14, Tryd.ntmps14
  go_wp2_with fail
  go_loopw [5] (fun i wr => ∃ j : Nat, i = .int .i64 j ∧ j ≤ l.length ∧ Hid (∀ k (h : k < l.length), k < j → l[k] ≠ s) ∧ wr = w) (fun i _ => l.length - (intOf i).toNat)
  case atStart => exact ⟨0, rfl, Nat.zero_le _, Lib.hid (fun k _ h => by omega), rfl⟩
  case round =>
    obtain ⟨j, rfl, hj, HD, hw⟩ := hrel
    obtain rfl : w = wr := hw.symm
    by_cases hlt : j < l.length
    · obtain ⟨b, o, cs, rfl, hF, hbl, hE, hcell⟩ := HEL.out j hlt
      obtain ⟨rfl, hsm⟩ := hE
      have t1 : decide ((j : Int) < l.length) = true := decide_eq_true (by omega)
      have e0 := hcell 0 _ rfl
      simp only [Nat.mul_one, Nat.add_zero] at e0
      by_cases he : l[j] = s
      · have hR0 : R = (j : Int) := by rw [← HR.out, findB_at hlt he HD.out]
        rw [he] at e0
        subst hR0
        have v2 : (s.toList == s.toList) = true := by simp
        clear hcell hsm he
        go_wp2_with fail
        go_ret
        exact ⟨rfl, rfl⟩
      · obtain ⟨y, hy⟩ : ∃ y, l[j] = y := ⟨_, rfl⟩
        rw [hy] at e0
        have v1 : (y.toList == s.toList) = false := by rw [beq_eq_false_iff_ne]; exact fun h => he (hy.trans (text_inj h))
        have HD2 : Hid (∀ k (h : k < l.length), k < j + 1 → l[k] ≠ s) := Lib.hid (fun k hk h => by
          rcases Nat.lt_or_ge k j with h1 | h1
          · exact HD.out k hk h1
          · obtain rfl : k = j := by omega
            exact he)
        clear hcell hsm he hy
        go_wp2_with fail
        go_roundw
        case rel => exact ⟨j + 1, by go_num, by omega, HD2, trivial⟩
        case measure => simp [intOf]; omega
    · have t1 : decide ((j : Int) < l.length) = false := decide_eq_false (by omega)
      have hR0 : R = -1 := by rw [← HR.out, findB_no (fun k hk => HD.out k hk (by omega))]
      subst hR0
      go_wp2_with fail
      go_ret
      exact ⟨rfl, rfl⟩
set_option maxRecDepth 100000 in
set_option maxHeartbeats 1000000 in
theorem index_row (l : List ByteArray) (v : Value) (s : ByteArray) (F : Nat → Prop) (w : World) (hr : RowIs strEl 1 F w l v) :
    Calls Tryd.prog 107 #[v, .string s] w fun e w' => e = .returned (.int .i64 (findB l s)) ∧ w' = w := by
  obtain ⟨A, c, rfl, hc, hcm, hel⟩ := hr
  unfold maxLen at hcm
  have HEL := Lib.hid hel
  clear hel
  obtain ⟨R, hR⟩ : ∃ R, findB l s = R := ⟨_, rfl⟩
  rw [hR]
  have HR := Lib.hid hR
  clear hR
  go_enter Tryd.func107, Tryd.ntmps107
  go_wp2_with fail
  go_loopw [8] (fun i wr => ∃ j : Nat, i = .int .i64 j ∧ j ≤ l.length ∧ Hid (∀ k (h : k < l.length), k < j → l[k] ≠ s) ∧ wr = w) (fun i _ => l.length - (intOf i).toNat)
  case atStart => exact ⟨0, rfl, Nat.zero_le _, Lib.hid (fun k _ h => by omega), rfl⟩
  case round =>
    obtain ⟨j, rfl, hj, HD, hw⟩ := hrel
    obtain rfl : w = wr := hw.symm
    by_cases hlt : j < l.length
    · obtain ⟨b, o, cs, rfl, hF, hbl, hE, hcell⟩ := HEL.out j hlt
      obtain ⟨rfl, hsm⟩ := hE
      have t1 : decide ((j : Int) < l.length) = true := decide_eq_true (by omega)
      have e0 := hcell 0 _ rfl
      simp only [Nat.mul_one, Nat.add_zero] at e0
      by_cases he : l[j] = s
      · have hR0 : R = (j : Int) := by rw [← HR.out, findB_at hlt he HD.out]
        rw [he] at e0
        subst hR0
        have v2 : (s.toList == s.toList) = true := by simp
        clear hcell hsm he
        go_wp2_with fail
        go_ret
        exact ⟨rfl, rfl⟩
      · obtain ⟨y, hy⟩ : ∃ y, l[j] = y := ⟨_, rfl⟩
        rw [hy] at e0
        have v1 : (s.toList == y.toList) = false := by rw [beq_eq_false_iff_ne]; exact fun h => he (hy.trans (text_inj h.symm))
        have HD2 : Hid (∀ k (h : k < l.length), k < j + 1 → l[k] ≠ s) := Lib.hid (fun k hk h => by
          rcases Nat.lt_or_ge k j with h1 | h1
          · exact HD.out k hk h1
          · obtain rfl : k = j := by omega
            exact he)
        clear hcell hsm he hy
        go_wp2_with fail
        go_roundw
        case rel => exact ⟨j + 1, by go_num, by omega, HD2, trivial⟩
        case measure => simp [intOf]; omega
    · have t1 : decide ((j : Int) < l.length) = false := decide_eq_false (by omega)
      have hR0 : R = -1 := by rw [← HR.out, findB_no (fun k hk => HD.out k hk (by omega))]
      subst hR0
      go_wp2_with fail
      go_ret
      exact ⟨rfl, rfl⟩
set_option maxRecDepth 100000 in
set_option maxHeartbeats 1000000 in
theorem l1Has_row (l : List ByteArray) (v : Value) (s : ByteArray) (F : Nat → Prop) (w : World) (hr : RowIs strEl 1 F w l v) :
    Calls Tryd.prog 91 #[v, .string s] w fun e w' => e = .returned (.bool (hasB l s)) ∧ w' = w := by
  obtain ⟨A, c, rfl, hc, hcm, hel⟩ := hr
  unfold maxLen at hcm
  have HEL := Lib.hid hel
  clear hel
  obtain ⟨R, hR⟩ : ∃ R, hasB l s = R := ⟨_, rfl⟩
  rw [hR]
  have HR := Lib.hid hR
  clear hR
  go_enter Tryd.func91, Tryd.ntmps91
  go_wp2_with fail
  go_loopw [5] (fun i wr => ∃ j : Nat, i = .int .i64 j ∧ j ≤ l.length ∧ Hid (∀ k (h : k < l.length), k < j → l[k] ≠ s) ∧ wr = w) (fun i _ => l.length - (intOf i).toNat)
  case atStart => exact ⟨0, rfl, Nat.zero_le _, Lib.hid (fun k _ h => by omega), rfl⟩
  case round =>
    obtain ⟨j, rfl, hj, HD, hw⟩ := hrel
    obtain rfl : w = wr := hw.symm
    by_cases hlt : j < l.length
    · obtain ⟨b, o, cs, rfl, hF, hbl, hE, hcell⟩ := HEL.out j hlt
      obtain ⟨rfl, hsm⟩ := hE
      have t1 : decide ((j : Int) < l.length) = true := decide_eq_true (by omega)
      have e0 := hcell 0 _ rfl
      simp only [Nat.mul_one, Nat.add_zero] at e0
      by_cases he : l[j] = s
      · have hR0 : R = true := by rw [← HR.out, hasB_at hlt he]
        rw [he] at e0
        subst hR0
        have v2 : (s.toList == s.toList) = true := by simp
        clear hcell hsm he
        go_wp2_with fail
        go_ret
        exact ⟨rfl, rfl⟩
      · obtain ⟨y, hy⟩ : ∃ y, l[j] = y := ⟨_, rfl⟩
        rw [hy] at e0
        have v1 : (y.toList == s.toList) = false := by rw [beq_eq_false_iff_ne]; exact fun h => he (hy.trans (text_inj h))
        have HD2 : Hid (∀ k (h : k < l.length), k < j + 1 → l[k] ≠ s) := Lib.hid (fun k hk h => by
          rcases Nat.lt_or_ge k j with h1 | h1
          · exact HD.out k hk h1
          · obtain rfl : k = j := by omega
            exact he)
        clear hcell hsm he hy
        go_wp2_with fail
        go_roundw
        case rel => exact ⟨j + 1, by go_num, by omega, HD2, trivial⟩
        case measure => simp [intOf]; omega
    · have t1 : decide ((j : Int) < l.length) = false := decide_eq_false (by omega)
      have hR0 : R = false := by rw [← HR.out, hasB_no (fun k hk => HD.out k hk (by omega))]
      subst hR0
      go_wp2_with fail
      go_ret
      exact ⟨rfl, rfl⟩
set_option maxHeartbeats 400000 in
theorem contains_row (l : List ByteArray) (v : Value) (s : ByteArray) (F : Nat → Prop) (w : World) (hr : RowIs strEl 1 F w l v) :
    Calls Tryd.prog 95 #[v, .string s] w fun e w' => e = .returned (.bool (hasB l s)) ∧ w' = w := by
  have HI := Lib.hid (index_row l v s F w hr)
  have HG := Lib.hid (findB_ge l s)
  clear hr
  go_enter Tryd.func95, Tryd.ntmps95
  go_wp2_with fail
  refine HI.out.mono ?_
  rintro e w' ⟨rfl, hw⟩
  obtain rfl := hw.symm
  go_wp2_with fail
  go_ret
  exact ⟨by rw [← HG.out]; rfl, rfl⟩
end Go.Proofs.YtopaeiogbijppaaDoor
