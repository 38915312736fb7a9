/- The walk of spec.l18Valid, rest. Printed by gen_svalid.py. -/
import Derived.Test.YtndefbecoahfhaaSValBase
namespace Go.Proofs.Ytndefbecoahfhaa
open Go.RowKit


set_option maxRecDepth 100000 in
set_option maxHeartbeats 2000000 in
theorem l18Valid_rest_t (op : Int) (text : ByteArray) (num lo hi : Int) (kids : List Pat) (A : Option Addr) (c : Nat) (w : World) (n : Int) (hop : 11 ≤ op ∧ op ≤ 23 ∧ op ≠ 16 ∧ op ≠ 17 ∧ op ≠ 18 ∧ op ≠ 20) (hk : (kids.length : Int) = kidsOf op) (ht : ¬ text.toList = []) :
    Calls Try.prog 93 #[patV op text num lo hi (.slice A kids.length c), .int .i64 n] w fun e w' => e = .returned (.bool false) ∧ Below w.heap.size w w' := by
  have g1 : decide (op < 1) = false := by simp; omega
  have g2 : decide (23 < op) = false := by simp; omega
  have g3 : ((kids.length : Int) != kidsOf op) = false := by simp [hk]
  clear hk
  have f0 : (op != 1) = true := by simp; omega
  have f1 : decide (op < 7) = false := by simp; omega
  have f2 : decide (10 < op) = true := by simp; omega
  have f3 : decide (2 ≤ op) = true := by simp; omega
  have f4 : decide (op ≤ 6) = false := by simp; omega
  have tb : (text.toList != []) = true := by simpa using ht
  have tb2 : (text.toList == []) = false := by simpa using ht
  have tb3 : text.toList.isEmpty = false := by simpa using ht
  have HC : Hid (kidsOf op = kidsOf op) := rfl
  have hs : (decide (16 ≤ op) = false) ∨ (decide (16 ≤ op) = true ∧ decide (op ≤ 20) = false) ∨ (decide (16 ≤ op) = true ∧ decide (op ≤ 20) = true ∧ (op != 19) = false) := by
    have : op < 16 ∨ (20 < op) ∨ op = 19 := by omega
    rcases this with h | h | h
    · left; simp; omega
    · right; left; simp; omega
    · right; right; subst h; decide
  clear HC
  clear hop
  rcases hs with hs | ⟨hs, hs2⟩ | ⟨hs, hs2, hs3⟩
  all_goals
    go_enter Try.func93, Try.ntmps93
    go_wp2_with fail
    go_quiet ((go_at_call 87; exact quiet_left (l18Kids_any _ _)))
    go_wp2_with fail
    go_ret
    exact ⟨rfl, by first | exact later_drewN ((Below.refl _ _).alloc (Nat.le_refl _) _) _ | exact (Below.refl _ _).alloc (Nat.le_refl _) _⟩

set_option maxRecDepth 100000 in
set_option maxHeartbeats 2000000 in
theorem l18Valid_rest_l (op : Int) (text : ByteArray) (num lo hi : Int) (kids : List Pat) (A : Option Addr) (c : Nat) (w : World) (n : Int) (hop : 11 ≤ op ∧ op ≤ 23 ∧ op ≠ 16 ∧ op ≠ 17 ∧ op ≠ 18 ∧ op ≠ 20) (hk : (kids.length : Int) = kidsOf op) (ht : text.toList = []) (hl : ¬ lo = 0) :
    Calls Try.prog 93 #[patV op text num lo hi (.slice A kids.length c), .int .i64 n] w fun e w' => e = .returned (.bool false) ∧ Below w.heap.size w w' := by
  have g1 : decide (op < 1) = false := by simp; omega
  have g2 : decide (23 < op) = false := by simp; omega
  have g3 : ((kids.length : Int) != kidsOf op) = false := by simp [hk]
  clear hk
  have f0 : (op != 1) = true := by simp; omega
  have f1 : decide (op < 7) = false := by simp; omega
  have f2 : decide (10 < op) = true := by simp; omega
  have f3 : decide (2 ≤ op) = true := by simp; omega
  have f4 : decide (op ≤ 6) = false := by simp; omega
  have t0 : decide (120 < (text.size : Int)) = false := by rw [size_of_empty ht]; decide
  have HC : Hid (kidsOf op = kidsOf op) := rfl
  have hs : (decide (16 ≤ op) = false) ∨ (decide (16 ≤ op) = true ∧ decide (op ≤ 20) = false) ∨ (decide (16 ≤ op) = true ∧ decide (op ≤ 20) = true ∧ (op != 19) = false) := by
    have : op < 16 ∨ (20 < op) ∨ op = 19 := by omega
    rcases this with h | h | h
    · left; simp; omega
    · right; left; simp; omega
    · right; right; subst h; decide
  have l0 : (lo == 0) = false := by simp [hl]
  clear HC
  clear hop
  rcases hs with hs | ⟨hs, hs2⟩ | ⟨hs, hs2, hs3⟩
  all_goals
    go_enter Try.func93, Try.ntmps93
    go_wp2_with fail
    go_quiet ((go_at_call 87; exact quiet_left (l18Kids_any _ _)))
    go_wp2_with fail
    go_ret
    exact ⟨rfl, by first | exact later_drewN ((Below.refl _ _).alloc (Nat.le_refl _) _) _ | exact (Below.refl _ _).alloc (Nat.le_refl _) _⟩

set_option maxRecDepth 100000 in
set_option maxHeartbeats 2000000 in
theorem l18Valid_rest_h (op : Int) (text : ByteArray) (num lo hi : Int) (kids : List Pat) (A : Option Addr) (c : Nat) (w : World) (n : Int) (hop : 11 ≤ op ∧ op ≤ 23 ∧ op ≠ 16 ∧ op ≠ 17 ∧ op ≠ 18 ∧ op ≠ 20) (hk : (kids.length : Int) = kidsOf op) (ht : text.toList = []) (hl : lo = 0) (hh : ¬ hi = 0) :
    Calls Try.prog 93 #[patV op text num lo hi (.slice A kids.length c), .int .i64 n] w fun e w' => e = .returned (.bool false) ∧ Below w.heap.size w w' := by
  have g1 : decide (op < 1) = false := by simp; omega
  have g2 : decide (23 < op) = false := by simp; omega
  have g3 : ((kids.length : Int) != kidsOf op) = false := by simp [hk]
  clear hk
  have f0 : (op != 1) = true := by simp; omega
  have f1 : decide (op < 7) = false := by simp; omega
  have f2 : decide (10 < op) = true := by simp; omega
  have f3 : decide (2 ≤ op) = true := by simp; omega
  have f4 : decide (op ≤ 6) = false := by simp; omega
  have t0 : decide (120 < (text.size : Int)) = false := by rw [size_of_empty ht]; decide
  have HC : Hid (kidsOf op = kidsOf op) := rfl
  have hs : (decide (16 ≤ op) = false) ∨ (decide (16 ≤ op) = true ∧ decide (op ≤ 20) = false) ∨ (decide (16 ≤ op) = true ∧ decide (op ≤ 20) = true ∧ (op != 19) = false) := by
    have : op < 16 ∨ (20 < op) ∨ op = 19 := by omega
    rcases this with h | h | h
    · left; simp; omega
    · right; left; simp; omega
    · right; right; subst h; decide
  subst hl
  have l0 : (hi == 0) = false := by simp [hh]
  clear HC
  clear hop
  rcases hs with hs | ⟨hs, hs2⟩ | ⟨hs, hs2, hs3⟩
  all_goals
    go_enter Try.func93, Try.ntmps93
    go_wp2_with fail
    go_quiet ((go_at_call 87; exact quiet_left (l18Kids_any _ _)))
    go_wp2_with fail
    go_ret
    exact ⟨rfl, by first | exact later_drewN ((Below.refl _ _).alloc (Nat.le_refl _) _) _ | exact (Below.refl _ _).alloc (Nat.le_refl _) _⟩

set_option maxRecDepth 100000 in
set_option maxHeartbeats 2000000 in
theorem l18Valid_rest_n (op : Int) (text : ByteArray) (num lo hi : Int) (kids : List Pat) (A : Option Addr) (c : Nat) (w : World) (n : Int) (hop : 11 ≤ op ∧ op ≤ 23 ∧ op ≠ 16 ∧ op ≠ 17 ∧ op ≠ 18 ∧ op ≠ 20) (hk : (kids.length : Int) = kidsOf op) (ht : text.toList = []) (hl : lo = 0) (hh : hi = 0) (hm : ¬ num = 0) :
    Calls Try.prog 93 #[patV op text num lo hi (.slice A kids.length c), .int .i64 n] w fun e w' => e = .returned (.bool false) ∧ Below w.heap.size w w' := by
  have g1 : decide (op < 1) = false := by simp; omega
  have g2 : decide (23 < op) = false := by simp; omega
  have g3 : ((kids.length : Int) != kidsOf op) = false := by simp [hk]
  clear hk
  have f0 : (op != 1) = true := by simp; omega
  have f1 : decide (op < 7) = false := by simp; omega
  have f2 : decide (10 < op) = true := by simp; omega
  have f3 : decide (2 ≤ op) = true := by simp; omega
  have f4 : decide (op ≤ 6) = false := by simp; omega
  have t0 : decide (120 < (text.size : Int)) = false := by rw [size_of_empty ht]; decide
  have HC : Hid (kidsOf op = kidsOf op) := rfl
  have hs : (decide (16 ≤ op) = false) ∨ (decide (16 ≤ op) = true ∧ decide (op ≤ 20) = false) ∨ (decide (16 ≤ op) = true ∧ decide (op ≤ 20) = true ∧ (op != 19) = false) := by
    have : op < 16 ∨ (20 < op) ∨ op = 19 := by omega
    rcases this with h | h | h
    · left; simp; omega
    · right; left; simp; omega
    · right; right; subst h; decide
  subst hl hh
  have m0 : (num != 0) = true := by simp [hm]
  clear HC
  clear hop
  rcases hs with hs | ⟨hs, hs2⟩ | ⟨hs, hs2, hs3⟩
  all_goals
    go_enter Try.func93, Try.ntmps93
    go_wp2_with fail
    go_quiet ((go_at_call 87; exact quiet_left (l18Kids_any _ _)))
    go_wp2_with fail
    go_ret
    exact ⟨rfl, by first | exact later_drewN ((Below.refl _ _).alloc (Nat.le_refl _) _) _ | exact (Below.refl _ _).alloc (Nat.le_refl _) _⟩

set_option maxRecDepth 100000 in
set_option maxHeartbeats 2000000 in
theorem l18Valid_rest_good (op : Int) (text : ByteArray) (num lo hi : Int) (kids : List Pat) (A : Option Addr) (c : Nat) (w : World) (n : Int) (hop : 11 ≤ op ∧ op ≤ 23 ∧ op ≠ 16 ∧ op ≠ 17 ∧ op ≠ 18 ∧ op ≠ 20) (hk : (kids.length : Int) = kidsOf op) (hn : kids.length ≤ 1099511627776)
    (IH : Hid (∀ j (h : j < kids.length) kv w, KidsIn w kids[j] kv → Calls Try.prog 93 #[kids[j].v kv, .int .i64 n] w fun e w' => e = .returned (.bool (valid kids[j] n)) ∧ Below w.heap.size w w'))
    (hrow : RowIn w A 0 kids) (ht : text.toList = []) (hl : lo = 0) (hh : hi = 0) (hm : num = 0) :
    Calls Try.prog 93 #[patV op text num lo hi (.slice A kids.length c), .int .i64 n] w fun e w' => e = .returned (.bool (validAll kids n)) ∧ Below w.heap.size w w' := by
  have g1 : decide (op < 1) = false := by simp; omega
  have g2 : decide (23 < op) = false := by simp; omega
  have g3 : ((kids.length : Int) != kidsOf op) = false := by simp [hk]
  clear hk
  have f0 : (op != 1) = true := by simp; omega
  have f1 : decide (op < 7) = false := by simp; omega
  have f2 : decide (10 < op) = true := by simp; omega
  have f3 : decide (2 ≤ op) = true := by simp; omega
  have f4 : decide (op ≤ 6) = false := by simp; omega
  have t0 : decide (120 < (text.size : Int)) = false := by rw [size_of_empty ht]; decide
  have HC : Hid (kidsOf op = kidsOf op) := rfl
  have hs : (decide (16 ≤ op) = false) ∨ (decide (16 ≤ op) = true ∧ decide (op ≤ 20) = false) ∨ (decide (16 ≤ op) = true ∧ decide (op ≤ 20) = true ∧ (op != 19) = false) := by
    have : op < 16 ∨ (20 < op) ∨ op = 19 := by omega
    rcases this with h | h | h
    · left; simp; omega
    · right; left; simp; omega
    · right; right; subst h; decide
  subst hl hh
  subst hm
  clear HC
  clear hop
  rcases hs with hs | ⟨hs, hs2⟩ | ⟨hs, hs2, hs3⟩
  all_goals
    go_enter Try.func93, Try.ntmps93
    go_wp2_with fail
    go_quiet ((go_at_call 87; exact quiet_left (l18Kids_any _ _)))
    go_wp2_with fail
    go_loopw [5] (fun i wr => ∃ j : Nat, j ≤ kids.length ∧ i = .int .i64 j ∧ (∀ i (h : i < j) (h2 : i < kids.length), valid kids[i] n = true) ∧ RowIn wr A 0 kids ∧ w.heap.size < wr.heap.size ∧ wr.cell? ⟨w.heap.size, 5, none⟩ = some (.slice A kids.length c) ∧ Below w.heap.size w wr) (fun i _ => kids.length - (intOf i).toNat)
    case atStart => exact ⟨0, Nat.zero_le _, rfl, by intro i h; omega, RowIn.later (later_drewN ((Later.refl w).alloc _) _) A 0 _ hrow, by simp, cell_of_row _ w.heap.size 5 _ _ _ (heap_alloc_new w _), later_drewN ((Below.refl _ _).alloc (Nat.le_refl _) _) _⟩
    case round =>
      obtain ⟨j, hj, rfl, hall, hr, hN, hc5, hbel⟩ := hrel
      have HA := Lib.hid hall
      clear hall
      have hsz := hbel.size
      by_cases hlt : j < kids.length
      · obtain ⟨g, kv', rfl, hg, he, hkid⟩ := rowOf wr kids hr hlt
        obtain ⟨A', c', rfl, _, _⟩ := hkid.form
        obtain ⟨e0, e1, e2, e3, e4, e5⟩ := he
        have hlt' : (j : Int) < kids.length := by omega
        have HKid := Lib.hid hkid
        have HR := Lib.hid hr
        clear hkid hr
        go_wp2_with fail
        refine (IH.out j hlt _ _ HKid.out).mono ?_
        rintro e w2 ⟨rfl, hb2⟩
        have hb3 : Below w.heap.size w w2 := hbel.trans (Below.mono hb2 hsz)
        have HR2 := Lib.hid (RowIn.later hb2 _ 0 _ HR.out)
        have hc5' : w2.cell? ⟨w.heap.size, 5, none⟩ = some (.slice (some ⟨g, 0, none⟩) kids.length c) := (hb2.cell hN).trans hc5
        have hN' : w.heap.size < w2.heap.size := Nat.lt_of_lt_of_le hN hb2.size
        clear hb2
        cases hvj : valid kids[j] n with
        | false =>
          have HF := Lib.hid (validAll_false kids n j hlt hvj)
          clear hvj
          go_wp2_with fail
          go_ret
          exact ⟨ret_bool HF.out.symm, hb3⟩
        | true =>
          have HJ := Lib.hid hvj
          clear hvj
          go_wp2_with fail
          go_roundw
          case rel => exact ⟨j + 1, by omega, by go_num, fun i hi hi2 => (by
            by_cases hij : i = j
            · subst hij; exact HJ.out
            · exact HA.out i (by omega) hi2), HR2.out, hN', hc5', hb3⟩
          case measure => simp [intOf]; omega
      · go_wp2_with fail
        go_ret
        exact ⟨ret_bool ((validAll_iff kids n).2 (fun i hi => HA.out i (by omega) hi)).symm, hbel⟩
end Go.Proofs.Ytndefbecoahfhaa
