/- Part of the walks that the claim stands on. -/
import Derived.Test.YtndefbecoahfhaaZQ2
import Derived.Test.YtndefbecoahfhaaZQ1
import Derived.Laws.AppendOwn
import Derived.OwnWalk
import Derived.WalkSmall

/- The walk of spec.l18Valid, len. Printed by gen_svalid.py. -/
namespace Go.Proofs.Ytndefbecoahfhaa
open Go.RowKit


set_option maxRecDepth 100000 in
set_option maxHeartbeats 2000000 in
theorem l18Valid_len_t (op : Int) (text : ByteArray) (num lo hi : Int) (kids : List Pat) (A : Option Addr) (c : Nat) (w : World) (n : Int) (hop : 2 ≤ op ∧ op ≤ 6) (hk : (kids.length : Int) = kidsOf op) (ht : ¬ text.toList = []) :
    Calls Try.prog 93 #[patV op text num lo hi (.slice A kids.length c), .int .i64 n] w fun e w' => e = .returned (.bool false) ∧ Below w.heap.size w w' := by
  have g1 : decide (op < 1) = false := by simp; omega
  have g2 : decide (23 < op) = false := by simp; omega
  have g3 : ((kids.length : Int) != kidsOf op) = false := by simp [hk]
  clear hk
  have f0 : (op != 1) = true := by simp; omega
  have f1 : decide (op < 7) = true := by simp; omega
  have f2 : decide (2 ≤ op) = true := by simp; omega
  have f3 : decide (op ≤ 6) = true := by simp; omega
  have tb : (text.toList != []) = true := by simpa using ht
  have tb2 : (text.toList == []) = false := by simpa using ht
  have tb3 : text.toList.isEmpty = false := by simpa using ht
  have HC : Hid (kidsOf op = kidsOf op) := rfl
  clear HC
  all_goals
    go_enter Try.func93, Try.ntmps93
    go_wp2_with fail
    go_quiet ((go_at_call 87; exact quiet_left (l18Kids_any _ _)))
    go_wp2_with fail
    go_ret
    exact ⟨rfl, by first | exact later_drewN ((Below.refl _ _).alloc (Nat.le_refl _) _) _ | exact (Below.refl _ _).alloc (Nat.le_refl _) _⟩

set_option maxRecDepth 100000 in
set_option maxHeartbeats 2000000 in
theorem l18Valid_len_l (op : Int) (text : ByteArray) (num lo hi : Int) (kids : List Pat) (A : Option Addr) (c : Nat) (w : World) (n : Int) (hop : 2 ≤ op ∧ op ≤ 6) (hk : (kids.length : Int) = kidsOf op) (ht : text.toList = []) (hl : ¬ lo = 0) :
    Calls Try.prog 93 #[patV op text num lo hi (.slice A kids.length c), .int .i64 n] w fun e w' => e = .returned (.bool false) ∧ Below w.heap.size w w' := by
  have g1 : decide (op < 1) = false := by simp; omega
  have g2 : decide (23 < op) = false := by simp; omega
  have g3 : ((kids.length : Int) != kidsOf op) = false := by simp [hk]
  clear hk
  have f0 : (op != 1) = true := by simp; omega
  have f1 : decide (op < 7) = true := by simp; omega
  have f2 : decide (2 ≤ op) = true := by simp; omega
  have f3 : decide (op ≤ 6) = true := by simp; omega
  have t0 : decide (120 < (text.size : Int)) = false := by rw [size_of_empty ht]; decide
  have HC : Hid (kidsOf op = kidsOf op) := rfl
  have l0 : (lo == 0) = false := by simp [hl]
  clear HC
  all_goals
    go_enter Try.func93, Try.ntmps93
    go_wp2_with fail
    go_quiet ((go_at_call 87; exact quiet_left (l18Kids_any _ _)))
    go_wp2_with fail
    go_ret
    exact ⟨rfl, by first | exact later_drewN ((Below.refl _ _).alloc (Nat.le_refl _) _) _ | exact (Below.refl _ _).alloc (Nat.le_refl _) _⟩

set_option maxRecDepth 100000 in
set_option maxHeartbeats 2000000 in
theorem l18Valid_len_h (op : Int) (text : ByteArray) (num lo hi : Int) (kids : List Pat) (A : Option Addr) (c : Nat) (w : World) (n : Int) (hop : 2 ≤ op ∧ op ≤ 6) (hk : (kids.length : Int) = kidsOf op) (ht : text.toList = []) (hl : lo = 0) (hh : ¬ hi = 0) :
    Calls Try.prog 93 #[patV op text num lo hi (.slice A kids.length c), .int .i64 n] w fun e w' => e = .returned (.bool false) ∧ Below w.heap.size w w' := by
  have g1 : decide (op < 1) = false := by simp; omega
  have g2 : decide (23 < op) = false := by simp; omega
  have g3 : ((kids.length : Int) != kidsOf op) = false := by simp [hk]
  clear hk
  have f0 : (op != 1) = true := by simp; omega
  have f1 : decide (op < 7) = true := by simp; omega
  have f2 : decide (2 ≤ op) = true := by simp; omega
  have f3 : decide (op ≤ 6) = true := by simp; omega
  have t0 : decide (120 < (text.size : Int)) = false := by rw [size_of_empty ht]; decide
  have HC : Hid (kidsOf op = kidsOf op) := rfl
  subst hl
  have l0 : (hi == 0) = false := by simp [hh]
  clear HC
  all_goals
    go_enter Try.func93, Try.ntmps93
    go_wp2_with fail
    go_quiet ((go_at_call 87; exact quiet_left (l18Kids_any _ _)))
    go_wp2_with fail
    go_ret
    exact ⟨rfl, by first | exact later_drewN ((Below.refl _ _).alloc (Nat.le_refl _) _) _ | exact (Below.refl _ _).alloc (Nat.le_refl _) _⟩

set_option maxRecDepth 100000 in
set_option maxHeartbeats 2000000 in
theorem l18Valid_len_n (op : Int) (text : ByteArray) (num lo hi : Int) (kids : List Pat) (A : Option Addr) (c : Nat) (w : World) (n : Int) (hop : 2 ≤ op ∧ op ≤ 6) (hk : (kids.length : Int) = kidsOf op) (ht : text.toList = []) (hl : lo = 0) (hh : hi = 0) (hm : ¬ (0 ≤ num ∧ num ≤ 120)) :
    Calls Try.prog 93 #[patV op text num lo hi (.slice A kids.length c), .int .i64 n] w fun e w' => e = .returned (.bool false) ∧ Below w.heap.size w w' := by
  have g1 : decide (op < 1) = false := by simp; omega
  have g2 : decide (23 < op) = false := by simp; omega
  have g3 : ((kids.length : Int) != kidsOf op) = false := by simp [hk]
  clear hk
  have f0 : (op != 1) = true := by simp; omega
  have f1 : decide (op < 7) = true := by simp; omega
  have f2 : decide (2 ≤ op) = true := by simp; omega
  have f3 : decide (op ≤ 6) = true := by simp; omega
  have t0 : decide (120 < (text.size : Int)) = false := by rw [size_of_empty ht]; decide
  have HC : Hid (kidsOf op = kidsOf op) := rfl
  subst hl hh
  clear HC
  all_goals
    go_enter Try.func93, Try.ntmps93
    go_wp2_with fail
    go_quiet ((go_at_call 87; exact quiet_left (l18Kids_any _ _)))
    go_wp2_with fail
    refine (l1In_is false _ _ _ _ (by simp only [Bool.and_eq_false_iff, decide_eq_false_iff_not]; omega)).mono ?_
    rintro e w2 ⟨rfl, rfl⟩
    go_wp2_with fail
    go_ret
    exact ⟨rfl, by first | exact later_drewN ((Below.refl _ _).alloc (Nat.le_refl _) _) _ | exact (Below.refl _ _).alloc (Nat.le_refl _) _⟩

set_option maxRecDepth 100000 in
set_option maxHeartbeats 2000000 in
theorem l18Valid_len_good (op : Int) (text : ByteArray) (num lo hi : Int) (kids : List Pat) (A : Option Addr) (c : Nat) (w : World) (n : Int) (hop : 2 ≤ op ∧ op ≤ 6) (hk : (kids.length : Int) = kidsOf op) (hn : kids.length ≤ 1099511627776)
    (IH : Hid (∀ j (h : j < kids.length) kv w, KidsIn w kids[j] kv → Calls Try.prog 93 #[kids[j].v kv, .int .i64 n] w fun e w' => e = .returned (.bool (valid kids[j] n)) ∧ Below w.heap.size w w'))
    (hrow : RowIn w A 0 kids) (ht : text.toList = []) (hl : lo = 0) (hh : hi = 0) (hm : 0 ≤ num ∧ num ≤ 120) :
    Calls Try.prog 93 #[patV op text num lo hi (.slice A kids.length c), .int .i64 n] w fun e w' => e = .returned (.bool (validAll kids n)) ∧ Below w.heap.size w w' := by
  have g1 : decide (op < 1) = false := by simp; omega
  have g2 : decide (23 < op) = false := by simp; omega
  have g3 : ((kids.length : Int) != kidsOf op) = false := by simp [hk]
  clear hk
  have f0 : (op != 1) = true := by simp; omega
  have f1 : decide (op < 7) = true := by simp; omega
  have f2 : decide (2 ≤ op) = true := by simp; omega
  have f3 : decide (op ≤ 6) = true := by simp; omega
  have t0 : decide (120 < (text.size : Int)) = false := by rw [size_of_empty ht]; decide
  have HC : Hid (kidsOf op = kidsOf op) := rfl
  subst hl hh
  clear HC
  all_goals
    go_enter Try.func93, Try.ntmps93
    go_wp2_with fail
    go_quiet ((go_at_call 87; exact quiet_left (l18Kids_any _ _)))
    go_wp2_with fail
    refine (l1In_is true _ _ _ _ (by simp only [Bool.and_eq_true, decide_eq_true_eq]; omega)).mono ?_
    rintro e w2 ⟨rfl, rfl⟩
    go_wp2_with fail
    go_loopw [5] (fun i wr => ∃ j : Nat, j ≤ kids.length ∧ i = .int .i64 j ∧ (∀ i (h : i < j) (h2 : i < kids.length), valid kids[i] n = true) ∧ RowIn wr A 0 kids ∧ w.heap.size < wr.heap.size ∧ wr.cell? ⟨w.heap.size, 5, none⟩ = some (.slice A kids.length c) ∧ Below w.heap.size w wr) (fun i _ => kids.length - (intOf i).toNat)
    case atStart => exact ⟨0, Nat.zero_le _, rfl, by intro i h; omega, RowIn.later (later_drewN ((Later.refl w).alloc _) _) A 0 _ hrow, by simp, cell_of_row _ w.heap.size 5 _ _ _ (heap_alloc_new w _), later_drewN ((Below.refl _ _).alloc (Nat.le_refl _) _) _⟩
    case round =>
      obtain ⟨j, hj, rfl, hall, hr, hN, hc5, hbel⟩ := hrel
      have HA := Lib.hid hall
      clear hall
      have hsz := hbel.size
      by_cases hlt : j < kids.length
      · obtain ⟨g, kv', rfl, hg, he, hkid⟩ := rowOf wr kids hr hlt
        obtain ⟨A', c', rfl, _, _⟩ := hkid.form
        obtain ⟨e0, e1, e2, e3, e4, e5⟩ := he
        have hlt' : (j : Int) < kids.length := by omega
        have HKid := Lib.hid hkid
        have HR := Lib.hid hr
        clear hkid hr
        go_wp2_with fail
        refine (IH.out j hlt _ _ HKid.out).mono ?_
        rintro e w2 ⟨rfl, hb2⟩
        have hb3 : Below w.heap.size w w2 := hbel.trans (Below.mono hb2 hsz)
        have HR2 := Lib.hid (RowIn.later hb2 _ 0 _ HR.out)
        have hc5' : w2.cell? ⟨w.heap.size, 5, none⟩ = some (.slice (some ⟨g, 0, none⟩) kids.length c) := (hb2.cell hN).trans hc5
        have hN' : w.heap.size < w2.heap.size := Nat.lt_of_lt_of_le hN hb2.size
        clear hb2
        cases hvj : valid kids[j] n with
        | false =>
          have HF := Lib.hid (validAll_false kids n j hlt hvj)
          clear hvj
          go_wp2_with fail
          go_ret
          exact ⟨ret_bool HF.out.symm, hb3⟩
        | true =>
          have HJ := Lib.hid hvj
          clear hvj
          go_wp2_with fail
          go_roundw
          case rel => exact ⟨j + 1, by omega, by go_num, fun i hi hi2 => (by
            by_cases hij : i = j
            · subst hij; exact HJ.out
            · exact HA.out i (by omega) hi2), HR2.out, hN', hc5', hb3⟩
          case measure => simp [intOf]; omega
      · go_wp2_with fail
        go_ret
        exact ⟨ret_bool ((validAll_iff kids n).2 (fun i hi => HA.out i (by omega) hi)).symm, hbel⟩
end Go.Proofs.Ytndefbecoahfhaa

/- The walk of spec.l18Valid, set. Printed by gen_svalid.py. -/
namespace Go.Proofs.Ytndefbecoahfhaa
open Go.RowKit


set_option maxRecDepth 100000 in
set_option maxHeartbeats 2000000 in
theorem l18Valid_set_t (op : Int) (text : ByteArray) (num lo hi : Int) (kids : List Pat) (A : Option Addr) (c : Nat) (w : World) (n : Int) (hop : 7 ≤ op ∧ op ≤ 10) (hk : (kids.length : Int) = kidsOf op) (ht : ¬ text.toList = []) :
    Calls Try.prog 93 #[patV op text num lo hi (.slice A kids.length c), .int .i64 n] w fun e w' => e = .returned (.bool false) ∧ Below w.heap.size w w' := by
  have g1 : decide (op < 1) = false := by simp; omega
  have g2 : decide (23 < op) = false := by simp; omega
  have g3 : ((kids.length : Int) != kidsOf op) = false := by simp [hk]
  clear hk
  have f0 : (op != 1) = true := by simp; omega
  have f1 : decide (op < 7) = false := by simp; omega
  have f2 : decide (10 < op) = false := by simp; omega
  have f3 : decide (2 ≤ op) = true := by simp; omega
  have f4 : decide (op ≤ 6) = false := by simp; omega
  have f5 : decide (16 ≤ op) = false := by simp; omega
  have tb : (text.toList != []) = true := by simpa using ht
  have tb2 : (text.toList == []) = false := by simpa using ht
  have tb3 : text.toList.isEmpty = false := by simpa using ht
  have HC : Hid (kidsOf op = kidsOf op) := rfl
  clear HC
  all_goals
    go_enter Try.func93, Try.ntmps93
    go_wp2_with fail
    go_quiet ((go_at_call 87; exact quiet_left (l18Kids_any _ _)))
    go_wp2_with fail
    go_ret
    exact ⟨rfl, by first | exact later_drewN ((Below.refl _ _).alloc (Nat.le_refl _) _) _ | exact (Below.refl _ _).alloc (Nat.le_refl _) _⟩

set_option maxRecDepth 100000 in
set_option maxHeartbeats 2000000 in
theorem l18Valid_set_n (op : Int) (text : ByteArray) (num lo hi : Int) (kids : List Pat) (A : Option Addr) (c : Nat) (w : World) (n : Int) (hop : 7 ≤ op ∧ op ≤ 10) (hk : (kids.length : Int) = kidsOf op) (ht : text.toList = []) (hm : ¬ num = 0) :
    Calls Try.prog 93 #[patV op text num lo hi (.slice A kids.length c), .int .i64 n] w fun e w' => e = .returned (.bool false) ∧ Below w.heap.size w w' := by
  have g1 : decide (op < 1) = false := by simp; omega
  have g2 : decide (23 < op) = false := by simp; omega
  have g3 : ((kids.length : Int) != kidsOf op) = false := by simp [hk]
  clear hk
  have f0 : (op != 1) = true := by simp; omega
  have f1 : decide (op < 7) = false := by simp; omega
  have f2 : decide (10 < op) = false := by simp; omega
  have f3 : decide (2 ≤ op) = true := by simp; omega
  have f4 : decide (op ≤ 6) = false := by simp; omega
  have f5 : decide (16 ≤ op) = false := by simp; omega
  have t0 : decide (120 < (text.size : Int)) = false := by rw [size_of_empty ht]; decide
  have HC : Hid (kidsOf op = kidsOf op) := rfl
  have m0 : (num != 0) = true := by simp [hm]
  clear HC
  all_goals
    go_enter Try.func93, Try.ntmps93
    go_wp2_with fail
    go_quiet ((go_at_call 87; exact quiet_left (l18Kids_any _ _)))
    go_wp2_with fail
    go_ret
    exact ⟨rfl, by first | exact later_drewN ((Below.refl _ _).alloc (Nat.le_refl _) _) _ | exact (Below.refl _ _).alloc (Nat.le_refl _) _⟩

set_option maxRecDepth 100000 in
set_option maxHeartbeats 2000000 in
theorem l18Valid_set_good (op : Int) (text : ByteArray) (num lo hi : Int) (kids : List Pat) (A : Option Addr) (c : Nat) (w : World) (n : Int) (hop : 7 ≤ op ∧ op ≤ 10) (hk : (kids.length : Int) = kidsOf op) (hn : kids.length ≤ 1099511627776)
    (IH : Hid (∀ j (h : j < kids.length) kv w, KidsIn w kids[j] kv → Calls Try.prog 93 #[kids[j].v kv, .int .i64 n] w fun e w' => e = .returned (.bool (valid kids[j] n)) ∧ Below w.heap.size w w'))
    (hrow : RowIn w A 0 kids) (ht : text.toList = []) (hm : num = 0) :
    Calls Try.prog 93 #[patV op text num lo hi (.slice A kids.length c), .int .i64 n] w fun e w' => e = .returned (.bool (validAll kids n)) ∧ Below w.heap.size w w' := by
  have g1 : decide (op < 1) = false := by simp; omega
  have g2 : decide (23 < op) = false := by simp; omega
  have g3 : ((kids.length : Int) != kidsOf op) = false := by simp [hk]
  clear hk
  have f0 : (op != 1) = true := by simp; omega
  have f1 : decide (op < 7) = false := by simp; omega
  have f2 : decide (10 < op) = false := by simp; omega
  have f3 : decide (2 ≤ op) = true := by simp; omega
  have f4 : decide (op ≤ 6) = false := by simp; omega
  have f5 : decide (16 ≤ op) = false := by simp; omega
  have t0 : decide (120 < (text.size : Int)) = false := by rw [size_of_empty ht]; decide
  have HC : Hid (kidsOf op = kidsOf op) := rfl
  subst hm
  clear HC
  all_goals
    go_enter Try.func93, Try.ntmps93
    go_wp2_with fail
    go_quiet ((go_at_call 87; exact quiet_left (l18Kids_any _ _)))
    go_wp2_with fail
    go_loopw [5] (fun i wr => ∃ j : Nat, j ≤ kids.length ∧ i = .int .i64 j ∧ (∀ i (h : i < j) (h2 : i < kids.length), valid kids[i] n = true) ∧ RowIn wr A 0 kids ∧ w.heap.size < wr.heap.size ∧ wr.cell? ⟨w.heap.size, 5, none⟩ = some (.slice A kids.length c) ∧ Below w.heap.size w wr) (fun i _ => kids.length - (intOf i).toNat)
    case atStart => exact ⟨0, Nat.zero_le _, rfl, by intro i h; omega, RowIn.later (later_drewN ((Later.refl w).alloc _) _) A 0 _ hrow, by simp, cell_of_row _ w.heap.size 5 _ _ _ (heap_alloc_new w _), later_drewN ((Below.refl _ _).alloc (Nat.le_refl _) _) _⟩
    case round =>
      obtain ⟨j, hj, rfl, hall, hr, hN, hc5, hbel⟩ := hrel
      have HA := Lib.hid hall
      clear hall
      have hsz := hbel.size
      by_cases hlt : j < kids.length
      · obtain ⟨g, kv', rfl, hg, he, hkid⟩ := rowOf wr kids hr hlt
        obtain ⟨A', c', rfl, _, _⟩ := hkid.form
        obtain ⟨e0, e1, e2, e3, e4, e5⟩ := he
        have hlt' : (j : Int) < kids.length := by omega
        have HKid := Lib.hid hkid
        have HR := Lib.hid hr
        clear hkid hr
        go_wp2_with fail
        refine (IH.out j hlt _ _ HKid.out).mono ?_
        rintro e w2 ⟨rfl, hb2⟩
        have hb3 : Below w.heap.size w w2 := hbel.trans (Below.mono hb2 hsz)
        have HR2 := Lib.hid (RowIn.later hb2 _ 0 _ HR.out)
        have hc5' : w2.cell? ⟨w.heap.size, 5, none⟩ = some (.slice (some ⟨g, 0, none⟩) kids.length c) := (hb2.cell hN).trans hc5
        have hN' : w.heap.size < w2.heap.size := Nat.lt_of_lt_of_le hN hb2.size
        clear hb2
        cases hvj : valid kids[j] n with
        | false =>
          have HF := Lib.hid (validAll_false kids n j hlt hvj)
          clear hvj
          go_wp2_with fail
          go_ret
          exact ⟨ret_bool HF.out.symm, hb3⟩
        | true =>
          have HJ := Lib.hid hvj
          clear hvj
          go_wp2_with fail
          go_roundw
          case rel => exact ⟨j + 1, by omega, by go_num, fun i hi hi2 => (by
            by_cases hij : i = j
            · subst hij; exact HJ.out
            · exact HA.out i (by omega) hi2), HR2.out, hN', hc5', hb3⟩
          case measure => simp [intOf]; omega
      · go_wp2_with fail
        go_ret
        exact ⟨ret_bool ((validAll_iff kids n).2 (fun i hi => HA.out i (by omega) hi)).symm, hbel⟩
end Go.Proofs.Ytndefbecoahfhaa

/- The walk of spec.l18Valid, var. Printed by gen_svalid.py. -/
namespace Go.Proofs.Ytndefbecoahfhaa
open Go.RowKit


set_option maxRecDepth 100000 in
set_option maxHeartbeats 2000000 in
theorem l18Valid_var_t (op : Int) (text : ByteArray) (num lo hi : Int) (kids : List Pat) (A : Option Addr) (c : Nat) (w : World) (n : Int) (hop : op = 16 ∨ op = 17 ∨ op = 18 ∨ op = 20) (hk : (kids.length : Int) = kidsOf op) (ht : ¬ text.toList = []) :
    Calls Try.prog 93 #[patV op text num lo hi (.slice A kids.length c), .int .i64 n] w fun e w' => e = .returned (.bool false) ∧ Below w.heap.size w w' := by
  have g1 : decide (op < 1) = false := by simp; omega
  have g2 : decide (23 < op) = false := by simp; omega
  have g3 : ((kids.length : Int) != kidsOf op) = false := by simp [hk]
  clear hk
  have tb : (text.toList != []) = true := by simpa using ht
  have tb2 : (text.toList == []) = false := by simpa using ht
  have tb3 : text.toList.isEmpty = false := by simpa using ht
  have HC : Hid (kidsOf op = kidsOf op) := rfl
  clear HC
  rcases hop with hop | hop | hop | hop <;> subst hop
  all_goals
    go_enter Try.func93, Try.ntmps93
    go_wp2_with fail
    go_quiet ((go_at_call 87; exact quiet_left (l18Kids_any _ _)))
    go_wp2_with fail
    go_ret
    exact ⟨rfl, by first | exact later_drewN ((Below.refl _ _).alloc (Nat.le_refl _) _) _ | exact (Below.refl _ _).alloc (Nat.le_refl _) _⟩

set_option maxRecDepth 100000 in
set_option maxHeartbeats 2000000 in
theorem l18Valid_var_l (op : Int) (text : ByteArray) (num lo hi : Int) (kids : List Pat) (A : Option Addr) (c : Nat) (w : World) (n : Int) (hop : op = 16 ∨ op = 17 ∨ op = 18 ∨ op = 20) (hk : (kids.length : Int) = kidsOf op) (ht : text.toList = []) (hl : ¬ lo = 0) :
    Calls Try.prog 93 #[patV op text num lo hi (.slice A kids.length c), .int .i64 n] w fun e w' => e = .returned (.bool false) ∧ Below w.heap.size w w' := by
  have g1 : decide (op < 1) = false := by simp; omega
  have g2 : decide (23 < op) = false := by simp; omega
  have g3 : ((kids.length : Int) != kidsOf op) = false := by simp [hk]
  clear hk
  have t0 : decide (120 < (text.size : Int)) = false := by rw [size_of_empty ht]; decide
  have HC : Hid (kidsOf op = kidsOf op) := rfl
  have l0 : (lo == 0) = false := by simp [hl]
  clear HC
  rcases hop with hop | hop | hop | hop <;> subst hop
  all_goals
    go_enter Try.func93, Try.ntmps93
    go_wp2_with fail
    go_quiet ((go_at_call 87; exact quiet_left (l18Kids_any _ _)))
    go_wp2_with fail
    go_ret
    exact ⟨rfl, by first | exact later_drewN ((Below.refl _ _).alloc (Nat.le_refl _) _) _ | exact (Below.refl _ _).alloc (Nat.le_refl _) _⟩

set_option maxRecDepth 100000 in
set_option maxHeartbeats 2000000 in
theorem l18Valid_var_h (op : Int) (text : ByteArray) (num lo hi : Int) (kids : List Pat) (A : Option Addr) (c : Nat) (w : World) (n : Int) (hop : op = 16 ∨ op = 17 ∨ op = 18 ∨ op = 20) (hk : (kids.length : Int) = kidsOf op) (ht : text.toList = []) (hl : lo = 0) (hh : ¬ hi = 0) :
    Calls Try.prog 93 #[patV op text num lo hi (.slice A kids.length c), .int .i64 n] w fun e w' => e = .returned (.bool false) ∧ Below w.heap.size w w' := by
  have g1 : decide (op < 1) = false := by simp; omega
  have g2 : decide (23 < op) = false := by simp; omega
  have g3 : ((kids.length : Int) != kidsOf op) = false := by simp [hk]
  clear hk
  have t0 : decide (120 < (text.size : Int)) = false := by rw [size_of_empty ht]; decide
  have HC : Hid (kidsOf op = kidsOf op) := rfl
  subst hl
  have l0 : (hi == 0) = false := by simp [hh]
  clear HC
  rcases hop with hop | hop | hop | hop <;> subst hop
  all_goals
    go_enter Try.func93, Try.ntmps93
    go_wp2_with fail
    go_quiet ((go_at_call 87; exact quiet_left (l18Kids_any _ _)))
    go_wp2_with fail
    go_ret
    exact ⟨rfl, by first | exact later_drewN ((Below.refl _ _).alloc (Nat.le_refl _) _) _ | exact (Below.refl _ _).alloc (Nat.le_refl _) _⟩

set_option maxRecDepth 100000 in
set_option maxHeartbeats 2000000 in
theorem l18Valid_var_n (op : Int) (text : ByteArray) (num lo hi : Int) (kids : List Pat) (A : Option Addr) (c : Nat) (w : World) (n : Int) (hn0 : 0 ≤ n) (hn1 : n ≤ 24) (hop : op = 16 ∨ op = 17 ∨ op = 18 ∨ op = 20) (hk : (kids.length : Int) = kidsOf op) (ht : text.toList = []) (hl : lo = 0) (hh : hi = 0) (hm : ¬ (0 ≤ num ∧ num < n)) :
    Calls Try.prog 93 #[patV op text num lo hi (.slice A kids.length c), .int .i64 n] w fun e w' => e = .returned (.bool false) ∧ Below w.heap.size w w' := by
  have g1 : decide (op < 1) = false := by simp; omega
  have g2 : decide (23 < op) = false := by simp; omega
  have g3 : ((kids.length : Int) != kidsOf op) = false := by simp [hk]
  clear hk
  have t0 : decide (120 < (text.size : Int)) = false := by rw [size_of_empty ht]; decide
  have HC : Hid (kidsOf op = kidsOf op) := rfl
  subst hl hh
  clear HC
  rcases hop with hop | hop | hop | hop <;> subst hop
  all_goals
    go_enter Try.func93, Try.ntmps93
    go_wp2_with fail
    go_quiet ((go_at_call 87; exact quiet_left (l18Kids_any _ _)))
    go_wp2_with fail
    refine (l1In_is false _ _ _ _ (by simp only [Bool.and_eq_false_iff, decide_eq_false_iff_not]; omega)).mono ?_
    rintro e w2 ⟨rfl, rfl⟩
    go_wp2_with fail
    go_ret
    exact ⟨rfl, by first | exact later_drewN ((Below.refl _ _).alloc (Nat.le_refl _) _) _ | exact (Below.refl _ _).alloc (Nat.le_refl _) _⟩

set_option maxRecDepth 100000 in
set_option maxHeartbeats 2000000 in
theorem l18Valid_var_good (op : Int) (text : ByteArray) (num lo hi : Int) (kids : List Pat) (A : Option Addr) (c : Nat) (w : World) (n : Int) (hn0 : 0 ≤ n) (hn1 : n ≤ 24) (hop : op = 16 ∨ op = 17 ∨ op = 18 ∨ op = 20) (hk : (kids.length : Int) = kidsOf op) (hn : kids.length ≤ 1099511627776)
    (IH : Hid (∀ j (h : j < kids.length) kv w, KidsIn w kids[j] kv → Calls Try.prog 93 #[kids[j].v kv, .int .i64 n] w fun e w' => e = .returned (.bool (valid kids[j] n)) ∧ Below w.heap.size w w'))
    (hrow : RowIn w A 0 kids) (ht : text.toList = []) (hl : lo = 0) (hh : hi = 0) (hm : 0 ≤ num ∧ num < n) :
    Calls Try.prog 93 #[patV op text num lo hi (.slice A kids.length c), .int .i64 n] w fun e w' => e = .returned (.bool (validAll kids n)) ∧ Below w.heap.size w w' := by
  have g1 : decide (op < 1) = false := by simp; omega
  have g2 : decide (23 < op) = false := by simp; omega
  have g3 : ((kids.length : Int) != kidsOf op) = false := by simp [hk]
  clear hk
  have t0 : decide (120 < (text.size : Int)) = false := by rw [size_of_empty ht]; decide
  have HC : Hid (kidsOf op = kidsOf op) := rfl
  subst hl hh
  clear HC
  rcases hop with hop | hop | hop | hop <;> subst hop
  all_goals
    go_enter Try.func93, Try.ntmps93
    go_wp2_with fail
    go_quiet ((go_at_call 87; exact quiet_left (l18Kids_any _ _)))
    go_wp2_with fail
    refine (l1In_is true _ _ _ _ (by simp only [Bool.and_eq_true, decide_eq_true_eq]; omega)).mono ?_
    rintro e w2 ⟨rfl, rfl⟩
    go_wp2_with fail
    go_loopw [5] (fun i wr => ∃ j : Nat, j ≤ kids.length ∧ i = .int .i64 j ∧ (∀ i (h : i < j) (h2 : i < kids.length), valid kids[i] n = true) ∧ RowIn wr A 0 kids ∧ w.heap.size < wr.heap.size ∧ wr.cell? ⟨w.heap.size, 5, none⟩ = some (.slice A kids.length c) ∧ Below w.heap.size w wr) (fun i _ => kids.length - (intOf i).toNat)
    case atStart => exact ⟨0, Nat.zero_le _, rfl, by intro i h; omega, RowIn.later (later_drewN ((Later.refl w).alloc _) _) A 0 _ hrow, by simp, cell_of_row _ w.heap.size 5 _ _ _ (heap_alloc_new w _), later_drewN ((Below.refl _ _).alloc (Nat.le_refl _) _) _⟩
    case round =>
      obtain ⟨j, hj, rfl, hall, hr, hN, hc5, hbel⟩ := hrel
      have HA := Lib.hid hall
      clear hall
      have hsz := hbel.size
      by_cases hlt : j < kids.length
      · obtain ⟨g, kv', rfl, hg, he, hkid⟩ := rowOf wr kids hr hlt
        obtain ⟨A', c', rfl, _, _⟩ := hkid.form
        obtain ⟨e0, e1, e2, e3, e4, e5⟩ := he
        have hlt' : (j : Int) < kids.length := by omega
        have HKid := Lib.hid hkid
        have HR := Lib.hid hr
        clear hkid hr
        go_wp2_with fail
        refine (IH.out j hlt _ _ HKid.out).mono ?_
        rintro e w2 ⟨rfl, hb2⟩
        have hb3 : Below w.heap.size w w2 := hbel.trans (Below.mono hb2 hsz)
        have HR2 := Lib.hid (RowIn.later hb2 _ 0 _ HR.out)
        have hc5' : w2.cell? ⟨w.heap.size, 5, none⟩ = some (.slice (some ⟨g, 0, none⟩) kids.length c) := (hb2.cell hN).trans hc5
        have hN' : w.heap.size < w2.heap.size := Nat.lt_of_lt_of_le hN hb2.size
        clear hb2
        cases hvj : valid kids[j] n with
        | false =>
          have HF := Lib.hid (validAll_false kids n j hlt hvj)
          clear hvj
          go_wp2_with fail
          go_ret
          exact ⟨ret_bool HF.out.symm, hb3⟩
        | true =>
          have HJ := Lib.hid hvj
          clear hvj
          go_wp2_with fail
          go_roundw
          case rel => exact ⟨j + 1, by omega, by go_num, fun i hi hi2 => (by
            by_cases hij : i = j
            · subst hij; exact HJ.out
            · exact HA.out i (by omega) hi2), HR2.out, hN', hc5', hb3⟩
          case measure => simp [intOf]; omega
      · go_wp2_with fail
        go_ret
        exact ⟨ret_bool ((validAll_iff kids n).2 (fun i hi => HA.out i (by omega) hi)).symm, hbel⟩
end Go.Proofs.Ytndefbecoahfhaa

/- The walk of spec.l18Valid, rest. Printed by gen_svalid.py. -/
namespace Go.Proofs.Ytndefbecoahfhaa
open Go.RowKit


set_option maxRecDepth 100000 in
set_option maxHeartbeats 2000000 in
theorem l18Valid_rest_t (op : Int) (text : ByteArray) (num lo hi : Int) (kids : List Pat) (A : Option Addr) (c : Nat) (w : World) (n : Int) (hop : 11 ≤ op ∧ op ≤ 23 ∧ op ≠ 16 ∧ op ≠ 17 ∧ op ≠ 18 ∧ op ≠ 20) (hk : (kids.length : Int) = kidsOf op) (ht : ¬ text.toList = []) :
    Calls Try.prog 93 #[patV op text num lo hi (.slice A kids.length c), .int .i64 n] w fun e w' => e = .returned (.bool false) ∧ Below w.heap.size w w' := by
  have g1 : decide (op < 1) = false := by simp; omega
  have g2 : decide (23 < op) = false := by simp; omega
  have g3 : ((kids.length : Int) != kidsOf op) = false := by simp [hk]
  clear hk
  have f0 : (op != 1) = true := by simp; omega
  have f1 : decide (op < 7) = false := by simp; omega
  have f2 : decide (10 < op) = true := by simp; omega
  have f3 : decide (2 ≤ op) = true := by simp; omega
  have f4 : decide (op ≤ 6) = false := by simp; omega
  have tb : (text.toList != []) = true := by simpa using ht
  have tb2 : (text.toList == []) = false := by simpa using ht
  have tb3 : text.toList.isEmpty = false := by simpa using ht
  have HC : Hid (kidsOf op = kidsOf op) := rfl
  have hs : (decide (16 ≤ op) = false) ∨ (decide (16 ≤ op) = true ∧ decide (op ≤ 20) = false) ∨ (decide (16 ≤ op) = true ∧ decide (op ≤ 20) = true ∧ (op != 19) = false) := by
    have : op < 16 ∨ (20 < op) ∨ op = 19 := by omega
    rcases this with h | h | h
    · left; simp; omega
    · right; left; simp; omega
    · right; right; subst h; decide
  clear HC
  clear hop
  rcases hs with hs | ⟨hs, hs2⟩ | ⟨hs, hs2, hs3⟩
  all_goals
    go_enter Try.func93, Try.ntmps93
    go_wp2_with fail
    go_quiet ((go_at_call 87; exact quiet_left (l18Kids_any _ _)))
    go_wp2_with fail
    go_ret
    exact ⟨rfl, by first | exact later_drewN ((Below.refl _ _).alloc (Nat.le_refl _) _) _ | exact (Below.refl _ _).alloc (Nat.le_refl _) _⟩

set_option maxRecDepth 100000 in
set_option maxHeartbeats 2000000 in
theorem l18Valid_rest_l (op : Int) (text : ByteArray) (num lo hi : Int) (kids : List Pat) (A : Option Addr) (c : Nat) (w : World) (n : Int) (hop : 11 ≤ op ∧ op ≤ 23 ∧ op ≠ 16 ∧ op ≠ 17 ∧ op ≠ 18 ∧ op ≠ 20) (hk : (kids.length : Int) = kidsOf op) (ht : text.toList = []) (hl : ¬ lo = 0) :
    Calls Try.prog 93 #[patV op text num lo hi (.slice A kids.length c), .int .i64 n] w fun e w' => e = .returned (.bool false) ∧ Below w.heap.size w w' := by
  have g1 : decide (op < 1) = false := by simp; omega
  have g2 : decide (23 < op) = false := by simp; omega
  have g3 : ((kids.length : Int) != kidsOf op) = false := by simp [hk]
  clear hk
  have f0 : (op != 1) = true := by simp; omega
  have f1 : decide (op < 7) = false := by simp; omega
  have f2 : decide (10 < op) = true := by simp; omega
  have f3 : decide (2 ≤ op) = true := by simp; omega
  have f4 : decide (op ≤ 6) = false := by simp; omega
  have t0 : decide (120 < (text.size : Int)) = false := by rw [size_of_empty ht]; decide
  have HC : Hid (kidsOf op = kidsOf op) := rfl
  have hs : (decide (16 ≤ op) = false) ∨ (decide (16 ≤ op) = true ∧ decide (op ≤ 20) = false) ∨ (decide (16 ≤ op) = true ∧ decide (op ≤ 20) = true ∧ (op != 19) = false) := by
    have : op < 16 ∨ (20 < op) ∨ op = 19 := by omega
    rcases this with h | h | h
    · left; simp; omega
    · right; left; simp; omega
    · right; right; subst h; decide
  have l0 : (lo == 0) = false := by simp [hl]
  clear HC
  clear hop
  rcases hs with hs | ⟨hs, hs2⟩ | ⟨hs, hs2, hs3⟩
  all_goals
    go_enter Try.func93, Try.ntmps93
    go_wp2_with fail
    go_quiet ((go_at_call 87; exact quiet_left (l18Kids_any _ _)))
    go_wp2_with fail
    go_ret
    exact ⟨rfl, by first | exact later_drewN ((Below.refl _ _).alloc (Nat.le_refl _) _) _ | exact (Below.refl _ _).alloc (Nat.le_refl _) _⟩

set_option maxRecDepth 100000 in
set_option maxHeartbeats 2000000 in
theorem l18Valid_rest_h (op : Int) (text : ByteArray) (num lo hi : Int) (kids : List Pat) (A : Option Addr) (c : Nat) (w : World) (n : Int) (hop : 11 ≤ op ∧ op ≤ 23 ∧ op ≠ 16 ∧ op ≠ 17 ∧ op ≠ 18 ∧ op ≠ 20) (hk : (kids.length : Int) = kidsOf op) (ht : text.toList = []) (hl : lo = 0) (hh : ¬ hi = 0) :
    Calls Try.prog 93 #[patV op text num lo hi (.slice A kids.length c), .int .i64 n] w fun e w' => e = .returned (.bool false) ∧ Below w.heap.size w w' := by
  have g1 : decide (op < 1) = false := by simp; omega
  have g2 : decide (23 < op) = false := by simp; omega
  have g3 : ((kids.length : Int) != kidsOf op) = false := by simp [hk]
  clear hk
  have f0 : (op != 1) = true := by simp; omega
  have f1 : decide (op < 7) = false := by simp; omega
  have f2 : decide (10 < op) = true := by simp; omega
  have f3 : decide (2 ≤ op) = true := by simp; omega
  have f4 : decide (op ≤ 6) = false := by simp; omega
  have t0 : decide (120 < (text.size : Int)) = false := by rw [size_of_empty ht]; decide
  have HC : Hid (kidsOf op = kidsOf op) := rfl
  have hs : (decide (16 ≤ op) = false) ∨ (decide (16 ≤ op) = true ∧ decide (op ≤ 20) = false) ∨ (decide (16 ≤ op) = true ∧ decide (op ≤ 20) = true ∧ (op != 19) = false) := by
    have : op < 16 ∨ (20 < op) ∨ op = 19 := by omega
    rcases this with h | h | h
    · left; simp; omega
    · right; left; simp; omega
    · right; right; subst h; decide
  subst hl
  have l0 : (hi == 0) = false := by simp [hh]
  clear HC
  clear hop
  rcases hs with hs | ⟨hs, hs2⟩ | ⟨hs, hs2, hs3⟩
  all_goals
    go_enter Try.func93, Try.ntmps93
    go_wp2_with fail
    go_quiet ((go_at_call 87; exact quiet_left (l18Kids_any _ _)))
    go_wp2_with fail
    go_ret
    exact ⟨rfl, by first | exact later_drewN ((Below.refl _ _).alloc (Nat.le_refl _) _) _ | exact (Below.refl _ _).alloc (Nat.le_refl _) _⟩

set_option maxRecDepth 100000 in
set_option maxHeartbeats 2000000 in
theorem l18Valid_rest_n (op : Int) (text : ByteArray) (num lo hi : Int) (kids : List Pat) (A : Option Addr) (c : Nat) (w : World) (n : Int) (hop : 11 ≤ op ∧ op ≤ 23 ∧ op ≠ 16 ∧ op ≠ 17 ∧ op ≠ 18 ∧ op ≠ 20) (hk : (kids.length : Int) = kidsOf op) (ht : text.toList = []) (hl : lo = 0) (hh : hi = 0) (hm : ¬ num = 0) :
    Calls Try.prog 93 #[patV op text num lo hi (.slice A kids.length c), .int .i64 n] w fun e w' => e = .returned (.bool false) ∧ Below w.heap.size w w' := by
  have g1 : decide (op < 1) = false := by simp; omega
  have g2 : decide (23 < op) = false := by simp; omega
  have g3 : ((kids.length : Int) != kidsOf op) = false := by simp [hk]
  clear hk
  have f0 : (op != 1) = true := by simp; omega
  have f1 : decide (op < 7) = false := by simp; omega
  have f2 : decide (10 < op) = true := by simp; omega
  have f3 : decide (2 ≤ op) = true := by simp; omega
  have f4 : decide (op ≤ 6) = false := by simp; omega
  have t0 : decide (120 < (text.size : Int)) = false := by rw [size_of_empty ht]; decide
  have HC : Hid (kidsOf op = kidsOf op) := rfl
  have hs : (decide (16 ≤ op) = false) ∨ (decide (16 ≤ op) = true ∧ decide (op ≤ 20) = false) ∨ (decide (16 ≤ op) = true ∧ decide (op ≤ 20) = true ∧ (op != 19) = false) := by
    have : op < 16 ∨ (20 < op) ∨ op = 19 := by omega
    rcases this with h | h | h
    · left; simp; omega
    · right; left; simp; omega
    · right; right; subst h; decide
  subst hl hh
  have m0 : (num != 0) = true := by simp [hm]
  clear HC
  clear hop
  rcases hs with hs | ⟨hs, hs2⟩ | ⟨hs, hs2, hs3⟩
  all_goals
    go_enter Try.func93, Try.ntmps93
    go_wp2_with fail
    go_quiet ((go_at_call 87; exact quiet_left (l18Kids_any _ _)))
    go_wp2_with fail
    go_ret
    exact ⟨rfl, by first | exact later_drewN ((Below.refl _ _).alloc (Nat.le_refl _) _) _ | exact (Below.refl _ _).alloc (Nat.le_refl _) _⟩

set_option maxRecDepth 100000 in
set_option maxHeartbeats 2000000 in
theorem l18Valid_rest_good (op : Int) (text : ByteArray) (num lo hi : Int) (kids : List Pat) (A : Option Addr) (c : Nat) (w : World) (n : Int) (hop : 11 ≤ op ∧ op ≤ 23 ∧ op ≠ 16 ∧ op ≠ 17 ∧ op ≠ 18 ∧ op ≠ 20) (hk : (kids.length : Int) = kidsOf op) (hn : kids.length ≤ 1099511627776)
    (IH : Hid (∀ j (h : j < kids.length) kv w, KidsIn w kids[j] kv → Calls Try.prog 93 #[kids[j].v kv, .int .i64 n] w fun e w' => e = .returned (.bool (valid kids[j] n)) ∧ Below w.heap.size w w'))
    (hrow : RowIn w A 0 kids) (ht : text.toList = []) (hl : lo = 0) (hh : hi = 0) (hm : num = 0) :
    Calls Try.prog 93 #[patV op text num lo hi (.slice A kids.length c), .int .i64 n] w fun e w' => e = .returned (.bool (validAll kids n)) ∧ Below w.heap.size w w' := by
  have g1 : decide (op < 1) = false := by simp; omega
  have g2 : decide (23 < op) = false := by simp; omega
  have g3 : ((kids.length : Int) != kidsOf op) = false := by simp [hk]
  clear hk
  have f0 : (op != 1) = true := by simp; omega
  have f1 : decide (op < 7) = false := by simp; omega
  have f2 : decide (10 < op) = true := by simp; omega
  have f3 : decide (2 ≤ op) = true := by simp; omega
  have f4 : decide (op ≤ 6) = false := by simp; omega
  have t0 : decide (120 < (text.size : Int)) = false := by rw [size_of_empty ht]; decide
  have HC : Hid (kidsOf op = kidsOf op) := rfl
  have hs : (decide (16 ≤ op) = false) ∨ (decide (16 ≤ op) = true ∧ decide (op ≤ 20) = false) ∨ (decide (16 ≤ op) = true ∧ decide (op ≤ 20) = true ∧ (op != 19) = false) := by
    have : op < 16 ∨ (20 < op) ∨ op = 19 := by omega
    rcases this with h | h | h
    · left; simp; omega
    · right; left; simp; omega
    · right; right; subst h; decide
  subst hl hh
  subst hm
  clear HC
  clear hop
  rcases hs with hs | ⟨hs, hs2⟩ | ⟨hs, hs2, hs3⟩
  all_goals
    go_enter Try.func93, Try.ntmps93
    go_wp2_with fail
    go_quiet ((go_at_call 87; exact quiet_left (l18Kids_any _ _)))
    go_wp2_with fail
    go_loopw [5] (fun i wr => ∃ j : Nat, j ≤ kids.length ∧ i = .int .i64 j ∧ (∀ i (h : i < j) (h2 : i < kids.length), valid kids[i] n = true) ∧ RowIn wr A 0 kids ∧ w.heap.size < wr.heap.size ∧ wr.cell? ⟨w.heap.size, 5, none⟩ = some (.slice A kids.length c) ∧ Below w.heap.size w wr) (fun i _ => kids.length - (intOf i).toNat)
    case atStart => exact ⟨0, Nat.zero_le _, rfl, by intro i h; omega, RowIn.later (later_drewN ((Later.refl w).alloc _) _) A 0 _ hrow, by simp, cell_of_row _ w.heap.size 5 _ _ _ (heap_alloc_new w _), later_drewN ((Below.refl _ _).alloc (Nat.le_refl _) _) _⟩
    case round =>
      obtain ⟨j, hj, rfl, hall, hr, hN, hc5, hbel⟩ := hrel
      have HA := Lib.hid hall
      clear hall
      have hsz := hbel.size
      by_cases hlt : j < kids.length
      · obtain ⟨g, kv', rfl, hg, he, hkid⟩ := rowOf wr kids hr hlt
        obtain ⟨A', c', rfl, _, _⟩ := hkid.form
        obtain ⟨e0, e1, e2, e3, e4, e5⟩ := he
        have hlt' : (j : Int) < kids.length := by omega
        have HKid := Lib.hid hkid
        have HR := Lib.hid hr
        clear hkid hr
        go_wp2_with fail
        refine (IH.out j hlt _ _ HKid.out).mono ?_
        rintro e w2 ⟨rfl, hb2⟩
        have hb3 : Below w.heap.size w w2 := hbel.trans (Below.mono hb2 hsz)
        have HR2 := Lib.hid (RowIn.later hb2 _ 0 _ HR.out)
        have hc5' : w2.cell? ⟨w.heap.size, 5, none⟩ = some (.slice (some ⟨g, 0, none⟩) kids.length c) := (hb2.cell hN).trans hc5
        have hN' : w.heap.size < w2.heap.size := Nat.lt_of_lt_of_le hN hb2.size
        clear hb2
        cases hvj : valid kids[j] n with
        | false =>
          have HF := Lib.hid (validAll_false kids n j hlt hvj)
          clear hvj
          go_wp2_with fail
          go_ret
          exact ⟨ret_bool HF.out.symm, hb3⟩
        | true =>
          have HJ := Lib.hid hvj
          clear hvj
          go_wp2_with fail
          go_roundw
          case rel => exact ⟨j + 1, by omega, by go_num, fun i hi hi2 => (by
            by_cases hij : i = j
            · subst hij; exact HJ.out
            · exact HA.out i (by omega) hi2), HR2.out, hN', hc5', hb3⟩
          case measure => simp [intOf]; omega
      · go_wp2_with fail
        go_ret
        exact ⟨ret_bool ((validAll_iff kids n).2 (fun i hi => HA.out i (by omega) hi)).symm, hbel⟩
end Go.Proofs.Ytndefbecoahfhaa

/- The walk of spec.l18Valid, joined; IsValidPattern of both sides. -/
namespace Go.Proofs.Ytndefbecoahfhaa
open Go.RowKit

set_option maxRecDepth 100000 in
set_option maxHeartbeats 1000000 in
theorem l18Valid_out (op : Int) (text : ByteArray) (num lo hi : Int) (l : Nat) (A : Option Addr) (c : Nat) (w : World) (n : Int) (h : ¬ (1 ≤ op ∧ op ≤ 23)) :
    Calls Try.prog 93 #[patV op text num lo hi (.slice A l c), .int .i64 n] w fun e w' => e = .returned (.bool false) ∧ Below w.heap.size w w' := by
  by_cases h1 : op < 1
  · have g1 : decide (op < 1) = true := by simp; omega
    clear h h1
    go_enter Try.func93, Try.ntmps93
    go_wp2_with fail
    go_quiet (fail)
    go_wp2_with fail
    go_ret
    exact ⟨rfl, later_drewN ((Below.refl _ _).alloc (Nat.le_refl _) _) _⟩
  · have g1 : decide (op < 1) = false := by simp; omega
    have g2 : decide (23 < op) = true := by simp; omega
    clear h h1
    go_enter Try.func93, Try.ntmps93
    go_wp2_with fail
    go_quiet (fail)
    go_wp2_with fail
    go_ret
    exact ⟨rfl, later_drewN ((Below.refl _ _).alloc (Nat.le_refl _) _) _⟩

set_option maxRecDepth 100000 in
set_option maxHeartbeats 1000000 in
theorem l18Valid_kids (op : Int) (text : ByteArray) (num lo hi : Int) (l : Nat) (A : Option Addr) (c : Nat) (w : World) (n : Int) (h : 1 ≤ op ∧ op ≤ 23) (hk : ¬ (l : Int) = kidsOf op) :
    Calls Try.prog 93 #[patV op text num lo hi (.slice A l c), .int .i64 n] w fun e w' => e = .returned (.bool false) ∧ Below w.heap.size w w' := by
  have g1 : decide (op < 1) = false := by simp; omega
  have g2 : decide (23 < op) = false := by simp; omega
  have g3 : ((l : Int) != kidsOf op) = true := by simp [hk]
  clear h hk
  go_enter Try.func93, Try.ntmps93
  go_wp2_with fail
  go_quiet ((go_at_call 87; exact quiet_left (l18Kids_any _ _)))
  go_wp2_with fail
  go_ret
  exact ⟨rfl, later_drewN ((Below.refl _ _).alloc (Nat.le_refl _) _) _⟩

theorem l18Valid_any (k : Nat) : ∀ (p : Pat) (kv : Value) (w : World) (n : Int), count p ≤ k → k ≤ 1099511627776 → 0 ≤ n → n ≤ 24 → KidsIn w p kv →
    Calls Try.prog 93 #[p.v kv, .int .i64 n] w fun e w' => e = .returned (.bool (valid p n)) ∧ Below w.heap.size w w' := by
  induction k with
  | zero => intro p kv w n h; have := count_pos p; omega
  | succ k ih =>
    intro p kv w n hk hk2 hn0 hn1 hin
    obtain ⟨A, c, rfl, hc, hrow⟩ := hin.form
    have hlen := countAll_len p.kids
    have hce := count_eq p
    have hn : p.kids.length ≤ 1099511627776 := by omega
    by_cases h1 : 1 ≤ p.op ∧ p.op ≤ 23
    · by_cases h2 : (p.kids.length : Int) = kidsOf p.op
      · have IH : Hid (∀ j (h : j < p.kids.length) kv w, KidsIn w p.kids[j] kv → Calls Try.prog 93 #[p.kids[j].v kv, .int .i64 n] w fun e w' => e = .returned (.bool (valid p.kids[j] n)) ∧ Below w.heap.size w w') := by
          intro j hj kv w hkv
          have := count_kid_lt p j hj
          exact ih p.kids[j] kv w n (by omega) (by omega) hn0 hn1 hkv
        obtain ⟨op, text, num, lo, hi, kids⟩ := p
        simp only [Pat.kids, Pat.op, Pat.v, Pat.text, Pat.num, Pat.lo, Pat.hi] at *
        rw [valid_eq]
        simp only [Pat.kids]
        rcases op_groups op h1 with hg | hg | hg | hg | hg
        · rw [head_text op text num lo hi kids n hg h2]
          by_cases ht : text.size ≤ 120
          · by_cases hl : lo = 0
            · by_cases hh : hi = 0
              · by_cases hm : num = 0
                · rw [decide_eq_true ⟨ht, hm, hl, hh⟩, Bool.true_and]; exact l18Valid_text_good op text num lo hi kids A c w n hg h2 hn IH hrow ht hl hh hm
                · rw [decide_eq_false (fun h => hm h.2.1), Bool.false_and]; exact l18Valid_text_n op text num lo hi kids A c w n hg h2 ht hl hh hm
              · rw [decide_eq_false (fun h => hh h.2.2.2), Bool.false_and]; exact l18Valid_text_h op text num lo hi kids A c w n hg h2 ht hl hh
            · rw [decide_eq_false (fun h => hl h.2.2.1), Bool.false_and]; exact l18Valid_text_l op text num lo hi kids A c w n hg h2 ht hl
          · rw [decide_eq_false (fun h => ht h.1), Bool.false_and]; exact l18Valid_text_t op text num lo hi kids A c w n hg h2 (by omega)
        · rw [head_len op text num lo hi kids n hg h2]
          by_cases ht : text.toList = []
          · by_cases hl : lo = 0
            · by_cases hh : hi = 0
              · by_cases hm : 0 ≤ num ∧ num ≤ 120
                · rw [decide_eq_true ⟨ht, hm.1, hm.2, hl, hh⟩, Bool.true_and]; exact l18Valid_len_good op text num lo hi kids A c w n hg h2 hn IH hrow ht hl hh hm
                · rw [decide_eq_false (fun h => hm ⟨h.2.1, h.2.2.1⟩), Bool.false_and]; exact l18Valid_len_n op text num lo hi kids A c w n hg h2 ht hl hh hm
              · rw [decide_eq_false (fun h => hh h.2.2.2.2), Bool.false_and]; exact l18Valid_len_h op text num lo hi kids A c w n hg h2 ht hl hh
            · rw [decide_eq_false (fun h => hl h.2.2.2.1), Bool.false_and]; exact l18Valid_len_l op text num lo hi kids A c w n hg h2 ht hl
          · rw [decide_eq_false (fun h => ht h.1), Bool.false_and]; exact l18Valid_len_t op text num lo hi kids A c w n hg h2 ht
        · rw [head_set op text num lo hi kids n hg h2]
          by_cases ht : text.toList = []
          · by_cases hm : num = 0
            · rw [decide_eq_true ⟨ht, hm⟩, Bool.true_and]; exact l18Valid_set_good op text num lo hi kids A c w n hg h2 hn IH hrow ht hm
            · rw [decide_eq_false (fun h => hm h.2), Bool.false_and]; exact l18Valid_set_n op text num lo hi kids A c w n hg h2 ht hm
          · rw [decide_eq_false (fun h => ht h.1), Bool.false_and]; exact l18Valid_set_t op text num lo hi kids A c w n hg h2 ht
        · rw [head_var op text num lo hi kids n hg h2]
          by_cases ht : text.toList = []
          · by_cases hl : lo = 0
            · by_cases hh : hi = 0
              · by_cases hm : 0 ≤ num ∧ num < n
                · rw [decide_eq_true ⟨ht, hm.1, hm.2, hl, hh⟩, Bool.true_and]; exact l18Valid_var_good op text num lo hi kids A c w n hn0 hn1 hg h2 hn IH hrow ht hl hh hm
                · rw [decide_eq_false (fun h => hm ⟨h.2.1, h.2.2.1⟩), Bool.false_and]; exact l18Valid_var_n op text num lo hi kids A c w n hn0 hn1 hg h2 ht hl hh hm
              · rw [decide_eq_false (fun h => hh h.2.2.2.2), Bool.false_and]; exact l18Valid_var_h op text num lo hi kids A c w n hg h2 ht hl hh
            · rw [decide_eq_false (fun h => hl h.2.2.2.1), Bool.false_and]; exact l18Valid_var_l op text num lo hi kids A c w n hg h2 ht hl
          · rw [decide_eq_false (fun h => ht h.1), Bool.false_and]; exact l18Valid_var_t op text num lo hi kids A c w n hg h2 ht
        · rw [head_rest op text num lo hi kids n hg h2]
          by_cases ht : text.toList = []
          · by_cases hl : lo = 0
            · by_cases hh : hi = 0
              · by_cases hm : num = 0
                · rw [decide_eq_true ⟨ht, hm, hl, hh⟩, Bool.true_and]; exact l18Valid_rest_good op text num lo hi kids A c w n hg h2 hn IH hrow ht hl hh hm
                · rw [decide_eq_false (fun h => hm h.2.1), Bool.false_and]; exact l18Valid_rest_n op text num lo hi kids A c w n hg h2 ht hl hh hm
              · rw [decide_eq_false (fun h => hh h.2.2.2), Bool.false_and]; exact l18Valid_rest_h op text num lo hi kids A c w n hg h2 ht hl hh
            · rw [decide_eq_false (fun h => hl h.2.2.1), Bool.false_and]; exact l18Valid_rest_l op text num lo hi kids A c w n hg h2 ht hl
          · rw [decide_eq_false (fun h => ht h.1), Bool.false_and]; exact l18Valid_rest_t op text num lo hi kids A c w n hg h2 ht
      · rw [valid_eq, okHead_kids p n h2, Bool.false_and]
        exact l18Valid_kids p.op p.text p.num p.lo p.hi p.kids.length A c w n h1 h2
    · rw [valid_eq, okHead_out p n h1, Bool.false_and]
      exact l18Valid_out p.op p.text p.num p.lo p.hi p.kids.length A c w n h1

/-! ### IsValidPattern -/
theorem validP_eq (p : Pat) (n : Int) (h0 : 0 ≤ n) (h1 : n ≤ 24) (h2 : (count p : Int) ≤ 300) : validP p n = valid p n := by
  have : count p ≤ 300 := by omega
  simp [validP, h0, h1, this]
theorem validP_not (p : Pat) (n : Int) (h : ¬ (0 ≤ n ∧ n ≤ 24 ∧ (count p : Int) ≤ 300)) : validP p n = false := by
  have : ¬ (0 ≤ n ∧ n ≤ 24 ∧ count p ≤ 300) := by omega
  cases hb : validP p n with
  | false => rfl
  | true => simp only [validP, Bool.and_eq_true, decide_eq_true_eq] at hb; exact absurd ⟨hb.1.1.1, hb.1.1.2, hb.1.2⟩ this

set_option maxRecDepth 100000 in
set_option maxHeartbeats 1000000 in
theorem implValid_any (p : Pat) (kv : Value) (w : World) (n : Int) (hc : count p ≤ 1099511627776) (hin : KidsIn w p kv) :
    Calls Try.prog 67 #[p.v kv, .int .i64 n] w fun e w' => e = .returned (.bool (validP p n)) ∧ Below w.heap.size w w' := by
  obtain ⟨A, c, rfl, _, _⟩ := hin.form
  have HIN := Lib.hid hin
  have hc' : (count p : Int) ≤ 1099511627776 := by omega
  clear hin
  by_cases h0 : 0 ≤ n
  · by_cases h1 : n ≤ 24
    · by_cases h2 : (count p : Int) ≤ 300
      · have HV := Lib.hid (validP_eq p n h0 h1 h2)
        go_enter Try.func67, Try.ntmps67
        go_wp2_with fail
        refine (count_any (count p) p _ _ (Nat.le_refl _) hc (KidsIn.later ((Later.refl w).alloc _) _ _ HIN.out)).mono ?_
        rintro e w2 ⟨rfl, hb2⟩
        have hN : w.heap.size < w2.heap.size := Nat.lt_of_lt_of_le (by simp) hb2.size
        have hcell : ∀ k, w2.cell? ⟨w.heap.size, k, none⟩ = (w.alloc _).cell? ⟨w.heap.size, k, none⟩ := fun k => hb2.cell (by simp)
        have hc0 := (hcell 0).trans (cell_of_row _ w.heap.size 0 _ _ _ (heap_alloc_new w _))
        have hc1 := (hcell 1).trans (cell_of_row _ w.heap.size 1 _ _ _ (heap_alloc_new w _))
        have hc2 := (hcell 2).trans (cell_of_row _ w.heap.size 2 _ _ _ (heap_alloc_new w _))
        have hc3 := (hcell 3).trans (cell_of_row _ w.heap.size 3 _ _ _ (heap_alloc_new w _))
        have hc4 := (hcell 4).trans (cell_of_row _ w.heap.size 4 _ _ _ (heap_alloc_new w _))
        have hc5 := (hcell 5).trans (cell_of_row _ w.heap.size 5 _ _ _ (heap_alloc_new w _))
        have hb3 : Below w.heap.size w w2 := ((Below.refl _ _).alloc (Nat.le_refl _) _).trans (Below.mono hb2 (by simp))
        have HIN2 := Lib.hid (KidsIn.later hb3 _ _ HIN.out)
        simp at hc0 hc1 hc2 hc3 hc4 hc5
        clear hcell hb2
        go_wp2_with fail
        refine (validPattern_any (count p) p _ _ n (Nat.le_refl _) hc HIN2.out).mono ?_
        rintro e w3 ⟨rfl, hb4⟩
        have hb5 : Below w.heap.size w w3 := hb3.trans (Below.mono hb4 hb3.size)
        clear hb4
        go_wp2_with fail
        go_ret
        exact ⟨ret_bool HV.out.symm, hb5⟩
      · have HV := Lib.hid (validP_not p n (fun h => h2 h.2.2))
        go_enter Try.func67, Try.ntmps67
        go_wp2_with fail
        refine (count_any (count p) p _ _ (Nat.le_refl _) hc (KidsIn.later ((Later.refl w).alloc _) _ _ HIN.out)).mono ?_
        rintro e w2 ⟨rfl, hb2⟩
        have hb3 : Below w.heap.size w w2 := ((Below.refl _ _).alloc (Nat.le_refl _) _).trans (Below.mono hb2 (by simp))
        clear hb2
        go_wp2_with fail
        go_ret
        exact ⟨ret_bool HV.out.symm, hb3⟩
    · have HV := Lib.hid (validP_not p n (fun h => h1 h.2.1))
      go_enter Try.func67, Try.ntmps67
      go_wp2_with fail
      go_ret
      exact ⟨ret_bool HV.out.symm, (Below.refl _ _).alloc (Nat.le_refl _) _⟩
  · have HV := Lib.hid (validP_not p n (fun h => h0 h.1))
    go_enter Try.func67, Try.ntmps67
    go_wp2_with fail
    go_ret
    exact ⟨ret_bool HV.out.symm, (Below.refl _ _).alloc (Nat.le_refl _) _⟩

end Go.Proofs.Ytndefbecoahfhaa

/- spec.IsValidPattern, validDefinitions, l18Defs. -/
namespace Go.Proofs.Ytndefbecoahfhaa
open Go.RowKit

set_option maxRecDepth 100000 in
set_option maxHeartbeats 1000000 in
theorem specValid_any (p : Pat) (kv : Value) (w : World) (n : Int) (hc : count p ≤ 1099511627776) (hin : KidsIn w p kv) :
    Calls Try.prog 69 #[p.v kv, .int .i64 n] w fun e w' => e = .returned (.bool (validP p n)) ∧ Below w.heap.size w w' := by
  obtain ⟨A, c, rfl, _, _⟩ := hin.form
  have HIN := Lib.hid hin
  have hc' : (count p : Int) ≤ 1099511627776 := by omega
  have HL := Lib.hid (left_nonneg p 300 (by omega))
  clear hin
  obtain ⟨L, hL⟩ : ∃ L, left p 300 = L := ⟨_, rfl⟩
  have HE := Lib.hid hL
  clear hL
  by_cases h0 : 0 ≤ n
  · by_cases h1 : n ≤ 24
    · by_cases h2 : (count p : Int) ≤ 300
      · have HV := Lib.hid (validP_eq p n h0 h1 h2)
        have h3 : 0 ≤ L := by rw [← HE.out]; exact HL.out.2 h2
        go_enter Try.func69, Try.ntmps69
        go_wp2_with fail
        refine (left_any (count p) p _ _ 300 (Nat.le_refl _) hc (by omega) (by omega) (KidsIn.later ((Later.refl w).alloc _) _ _ HIN.out)).mono ?_
        rintro e w2 ⟨rfl, hb2⟩
        rw [HE.out]
        have hN : w.heap.size < w2.heap.size := Nat.lt_of_lt_of_le (by simp) hb2.size
        have hcell : ∀ k, w2.cell? ⟨w.heap.size, k, none⟩ = (w.alloc _).cell? ⟨w.heap.size, k, none⟩ := fun k => hb2.cell (by simp)
        have hc0 := (hcell 0).trans (cell_of_row _ w.heap.size 0 _ _ _ (heap_alloc_new w _))
        have hc1 := (hcell 1).trans (cell_of_row _ w.heap.size 1 _ _ _ (heap_alloc_new w _))
        have hc2 := (hcell 2).trans (cell_of_row _ w.heap.size 2 _ _ _ (heap_alloc_new w _))
        have hc3 := (hcell 3).trans (cell_of_row _ w.heap.size 3 _ _ _ (heap_alloc_new w _))
        have hc4 := (hcell 4).trans (cell_of_row _ w.heap.size 4 _ _ _ (heap_alloc_new w _))
        have hc5 := (hcell 5).trans (cell_of_row _ w.heap.size 5 _ _ _ (heap_alloc_new w _))
        have hb3 : Below w.heap.size w w2 := ((Below.refl _ _).alloc (Nat.le_refl _) _).trans (Below.mono hb2 (by simp))
        have HIN2 := Lib.hid (KidsIn.later hb3 _ _ HIN.out)
        simp at hc0 hc1 hc2 hc3 hc4 hc5
        clear hcell hb2
        go_wp2_with fail
        refine (l18Valid_any (count p) p _ _ n (Nat.le_refl _) hc h0 h1 HIN2.out).mono ?_
        rintro e w3 ⟨rfl, hb4⟩
        have hb5 : Below w.heap.size w w3 := hb3.trans (Below.mono hb4 hb3.size)
        clear hb4
        go_wp2_with fail
        go_ret
        exact ⟨ret_bool HV.out.symm, hb5⟩
      · have HV := Lib.hid (validP_not p n (fun h => h2 h.2.2))
        have h3 : ¬ 0 ≤ L := by rw [← HE.out]; exact fun h => h2 (HL.out.1 h)
        go_enter Try.func69, Try.ntmps69
        go_wp2_with fail
        refine (left_any (count p) p _ _ 300 (Nat.le_refl _) hc (by omega) (by omega) (KidsIn.later ((Later.refl w).alloc _) _ _ HIN.out)).mono ?_
        rintro e w2 ⟨rfl, hb2⟩
        rw [HE.out]
        have hb3 : Below w.heap.size w w2 := ((Below.refl _ _).alloc (Nat.le_refl _) _).trans (Below.mono hb2 (by simp))
        clear hb2
        go_wp2_with fail
        go_ret
        exact ⟨ret_bool HV.out.symm, hb3⟩
    · have HV := Lib.hid (validP_not p n (fun h => h1 h.2.1))
      go_enter Try.func69, Try.ntmps69
      go_wp2_with fail
      go_ret
      exact ⟨ret_bool HV.out.symm, (Below.refl _ _).alloc (Nat.le_refl _) _⟩
  · have HV := Lib.hid (validP_not p n (fun h => h0 h.1))
    go_enter Try.func69, Try.ntmps69
    go_wp2_with fail
    go_ret
    exact ⟨ret_bool HV.out.symm, (Below.refl _ _).alloc (Nat.le_refl _) _⟩

theorem validD_big (defs : List Pat) (p : Pat) (h : ¬ defs.length ≤ 24) : validD defs p = false := by simp [validD, h]
theorem validD_p (defs : List Pat) (p : Pat) (h : validP p defs.length = false) : validD defs p = false := by simp [validD, h]
theorem validD_d (defs : List Pat) (p : Pat) (j : Nat) (hj : j < defs.length) (h : validP defs[j] defs.length = false) : validD defs p = false := by
  cases hb : validD defs p with
  | false => rfl
  | true =>
    simp only [validD, Bool.and_eq_true, List.all_eq_true] at hb
    have := hb.2 defs[j] (List.getElem_mem hj)
    rw [h] at this; cases this
theorem validD_yes (defs : List Pat) (p : Pat) (h1 : defs.length ≤ 24) (h2 : validP p defs.length = true) (h3 : ∀ j (hj : j < defs.length), validP defs[j] defs.length = true) : validD defs p = true := by
  simp only [validD, Bool.and_eq_true, List.all_eq_true]
  refine ⟨⟨by simpa using h1, h2⟩, fun d hd => ?_⟩
  obtain ⟨j, hj, rfl⟩ := List.getElem_of_mem hd
  exact h3 j hj

/-- Patterns of a size that can be counted. -/
def Small (p : Pat) : Prop := count p ≤ 1099511627776
def Smalls (ps : List Pat) : Prop := ∀ j (h : j < ps.length), Small ps[j]

set_option maxRecDepth 100000 in
set_option maxHeartbeats 1000000 in
theorem validDefinitions_any (defs : List Pat) (A : Option Addr) (c : Nat) (p : Pat) (kv : Value) (w : World) (hs : Smalls defs) (hp : Small p) (hd : RowIn w A 0 defs) (hin : KidsIn w p kv) (hdl : defs.length ≤ 1099511627776) :
    Calls Try.prog 37 #[.slice A defs.length c, p.v kv] w fun e w' => e = .returned (.bool (validD defs p)) ∧ Below w.heap.size w w' := by
  obtain ⟨A', c', rfl, _, _⟩ := hin.form
  have HIN := Lib.hid hin
  have HS := Lib.hid hs
  have HP := Lib.hid hp
  have HD := Lib.hid hd
  clear hin hs hp hd
  by_cases h1 : defs.length ≤ 24
  · have h1' : (defs.length : Int) ≤ 24 := by omega
    go_enter Try.func37, Try.ntmps37
    go_wp2_with fail
    refine (implValid_any p _ _ defs.length HP.out (KidsIn.later ((Later.refl w).alloc _) _ _ HIN.out)).mono ?_
    rintro e w2 ⟨rfl, hb2⟩
    have hb3 : Below w.heap.size w w2 := ((Below.refl _ _).alloc (Nat.le_refl _) _).trans (Below.mono hb2 (by simp))
    clear hb2
    cases hv : validP p defs.length with
    | false =>
      have HV := Lib.hid (validD_p defs p hv)
      clear hv
      go_wp2_with fail
      go_ret
      exact ⟨ret_bool HV.out.symm, hb3⟩
    | true =>
      have HV := Lib.hid hv
      clear hv
      go_wp2_with fail
      go_loopw [19] (fun i wr => ∃ j : Nat, j ≤ defs.length ∧ i = .int .i64 j ∧ (∀ i (h : i < j) (h2 : i < defs.length), validP defs[i] defs.length = true) ∧ RowIn wr A 0 defs ∧ Below w.heap.size w wr) (fun i _ => defs.length - (intOf i).toNat)
      case atStart => exact ⟨0, Nat.zero_le _, rfl, by intro i h; omega, RowIn.later hb3 A 0 _ HD.out, hb3⟩
      case round =>
        obtain ⟨j, hj, rfl, hall, hr, hbel⟩ := hrel
        have HA := Lib.hid hall
        clear hall hb3
        have hsz := hbel.size
        by_cases hlt : j < defs.length
        · obtain ⟨g, kv', rfl, hg, he, hkid⟩ := rowOf wr defs hr hlt
          obtain ⟨A'', c'', rfl, _, _⟩ := hkid.form
          obtain ⟨e0, e1, e2, e3, e4, e5⟩ := he
          have hlt' : (j : Int) < defs.length := by omega
          have HKid := Lib.hid hkid
          have HR := Lib.hid hr
          clear hkid hr
          go_wp2_with fail
          refine (implValid_any defs[j] _ _ defs.length (HS.out j hlt) (KidsIn.later ((Later.refl wr).alloc _) _ _ HKid.out)).mono ?_
          rintro e w4 ⟨rfl, hb4⟩
          have hb5 : Below w.heap.size w w4 := (hbel.alloc hsz _).trans (Below.mono hb4 (by simp; omega))
          have HR2 := Lib.hid (RowIn.later (Later.trans ((Later.refl wr).alloc _) hb4) _ 0 _ HR.out)
          clear hb4
          cases hvj : validP defs[j] defs.length with
          | false =>
            have HF := Lib.hid (validD_d defs p j hlt hvj)
            clear hvj
            go_wp2_with fail
            go_ret
            exact ⟨ret_bool HF.out.symm, hb5⟩
          | true =>
            have HJ := Lib.hid hvj
            clear hvj
            go_wp2_with fail
            go_roundw
            case rel => exact ⟨j + 1, by omega, by go_num, fun i hi hi2 => (by
              by_cases hij : i = j
              · subst hij; exact HJ.out
              · exact HA.out i (by omega) hi2), HR2.out, hb5⟩
            case measure => simp [intOf]; omega
        · go_wp2_with fail
          go_ret
          exact ⟨ret_bool (validD_yes defs p h1 HV.out (fun i hi => HA.out i (by omega) hi)).symm, hbel⟩
  · have HV := Lib.hid (validD_big defs p h1)
    have h1' : ¬ (defs.length : Int) ≤ 24 := by omega
    go_enter Try.func37, Try.ntmps37
    go_wp2_with fail
    go_ret
    exact ⟨ret_bool HV.out.symm, (Below.refl _ _).alloc (Nat.le_refl _) _⟩

set_option maxRecDepth 100000 in
set_option maxHeartbeats 1000000 in
theorem l18Defs_any (defs : List Pat) (A : Option Addr) (c : Nat) (p : Pat) (kv : Value) (w : World) (hs : Smalls defs) (hp : Small p) (hd : RowIn w A 0 defs) (hin : KidsIn w p kv) (hdl : defs.length ≤ 1099511627776) :
    Calls Try.prog 39 #[.slice A defs.length c, p.v kv] w fun e w' => e = .returned (.bool (validD defs p)) ∧ Below w.heap.size w w' := by
  obtain ⟨A', c', rfl, _, _⟩ := hin.form
  have HIN := Lib.hid hin
  have HS := Lib.hid hs
  have HP := Lib.hid hp
  have HD := Lib.hid hd
  clear hin hs hp hd
  by_cases h1 : defs.length ≤ 24
  · have h1' : (defs.length : Int) ≤ 24 := by omega
    go_enter Try.func39, Try.ntmps39
    go_wp2_with fail
    refine (specValid_any p _ _ defs.length HP.out (KidsIn.later ((Later.refl w).alloc _) _ _ HIN.out)).mono ?_
    rintro e w2 ⟨rfl, hb2⟩
    have hb3 : Below w.heap.size w w2 := ((Below.refl _ _).alloc (Nat.le_refl _) _).trans (Below.mono hb2 (by simp))
    clear hb2
    cases hv : validP p defs.length with
    | false =>
      have HV := Lib.hid (validD_p defs p hv)
      clear hv
      go_wp2_with fail
      go_ret
      exact ⟨ret_bool HV.out.symm, hb3⟩
    | true =>
      have HV := Lib.hid hv
      clear hv
      go_wp2_with fail
      go_loopw [5] (fun i wr => ∃ j : Nat, j ≤ defs.length ∧ i = .int .i64 j ∧ (∀ i (h : i < j) (h2 : i < defs.length), validP defs[i] defs.length = true) ∧ RowIn wr A 0 defs ∧ Below w.heap.size w wr) (fun i _ => defs.length - (intOf i).toNat)
      case atStart => exact ⟨0, Nat.zero_le _, rfl, by intro i h; omega, RowIn.later hb3 A 0 _ HD.out, hb3⟩
      case round =>
        obtain ⟨j, hj, rfl, hall, hr, hbel⟩ := hrel
        have HA := Lib.hid hall
        clear hall hb3
        have hsz := hbel.size
        by_cases hlt : j < defs.length
        · obtain ⟨g, kv', rfl, hg, he, hkid⟩ := rowOf wr defs hr hlt
          obtain ⟨A'', c'', rfl, _, _⟩ := hkid.form
          obtain ⟨e0, e1, e2, e3, e4, e5⟩ := he
          have hlt' : (j : Int) < defs.length := by omega
          have HKid := Lib.hid hkid
          have HR := Lib.hid hr
          clear hkid hr
          go_wp2_with fail
          refine (specValid_any defs[j] _ _ defs.length (HS.out j hlt) HKid.out).mono ?_
          rintro e w4 ⟨rfl, hb4⟩
          have hb5 : Below w.heap.size w w4 := hbel.trans (Below.mono hb4 hsz)
          have HR2 := Lib.hid (RowIn.later hb4 _ 0 _ HR.out)
          clear hb4
          cases hvj : validP defs[j] defs.length with
          | false =>
            have HF := Lib.hid (validD_d defs p j hlt hvj)
            clear hvj
            go_wp2_with fail
            go_ret
            exact ⟨ret_bool HF.out.symm, hb5⟩
          | true =>
            have HJ := Lib.hid hvj
            clear hvj
            go_wp2_with fail
            go_roundw
            case rel => exact ⟨j + 1, by omega, by go_num, fun i hi hi2 => (by
              by_cases hij : i = j
              · subst hij; exact HJ.out
              · exact HA.out i (by omega) hi2), HR2.out, hb5⟩
            case measure => simp [intOf]; omega
        · go_wp2_with fail
          go_ret
          exact ⟨ret_bool (validD_yes defs p h1 HV.out (fun i hi => HA.out i (by omega) hi)).symm, hbel⟩
  · have HV := Lib.hid (validD_big defs p h1)
    have h1' : ¬ (defs.length : Int) ≤ 24 := by omega
    go_enter Try.func39, Try.ntmps39
    go_wp2_with fail
    go_ret
    exact ⟨ret_bool HV.out.symm, (Below.refl _ _).alloc (Nat.le_refl _) _⟩

end Go.Proofs.Ytndefbecoahfhaa

/- The matcher as a plain machine. No walk in sight. -/
namespace Go.Proofs.Ytndefbecoahfhaa
open Go.RowKit

structure Cap where
  var : Int
  fr : Int
  to : Int
structure Goal where
  kind : Nat
  p : Pat
  fr : Int
structure Choice where
  stop : Bool
  goals : List Goal
  at_ : Nat
  ncap : Nat
/-- What a match has in hand, besides its goals. -/
structure Mst where
  at_ : Nat
  caps : List Cap
  events : List Cap
  choices : List Choice

inductive Out where
  | go (gs : List Goal) (m : Mst)
  | fail
  | stop

/-- A kid, of a pattern that has it. -/
def Pat.kid (p : Pat) (i : Nat) : Pat := p.kids.getD i (.mk 0 ByteArray.empty 0 0 0 [])
def Mst.choose (m : Mst) (c : List Goal) (at_ : Nat) : Mst := { m with choices := m.choices ++ [⟨false, c, at_, m.caps.length⟩] }
def Mst.event (m : Mst) (c : Cap) : Mst := { m with events := m.events ++ [c] }
def Mst.cap (m : Mst) (c : Cap) : Mst := { m with caps := m.caps ++ [c] }

/-- One goal to match a pattern. -/
def stepMatch (defs : List Pat) (s : ByteArray) (p : Pat) (gs : List Goal) (m : Mst) : Out :=
  if p.op = 11 then .go gs (if m.at_ < s.size then m.choose (⟨0, p, 0⟩ :: gs) (m.at_ + 1) else m)
  else if p.op = 13 then .go gs (m.choose (⟨3, p, 0⟩ :: gs) m.at_)
  else if p.op = 14 then .go (⟨0, p.kid 0, 0⟩ :: ⟨0, p.kid 1, 0⟩ :: gs) m
  else if p.op = 15 then .go (⟨0, p.kid 0, 0⟩ :: gs) (m.choose (⟨0, p.kid 1, 0⟩ :: gs) m.at_)
  else if p.op = 16 then .go (⟨0, p.kid 0, 0⟩ :: ⟨1, p, m.at_⟩ :: gs) m
  else if p.op = 17 then .go (⟨0, p.kid 0, 0⟩ :: ⟨2, p, m.at_⟩ :: gs) m
  else if p.op = 18 then .go gs (m.event ⟨p.num, m.at_, -1⟩)
  else if p.op = 19 then .go gs { m with choices := m.choices ++ [⟨true, [], m.at_, m.caps.length⟩] }
  else if p.op = 20 then .go (⟨0, defs.getD p.num.toNat (.mk 0 ByteArray.empty 0 0 0 []), 0⟩ :: gs) m
  else if p.op = 21 then .stop
  else match oneEnd p.op p.text p.num p.lo p.hi s m.at_ with
    | some e => .go gs { m with at_ := e }
    | none => .fail

/-- One goal. -/
def step (defs : List Pat) (s : ByteArray) (g : Goal) (gs : List Goal) (m : Mst) : Out :=
  if g.kind = 1 then .go gs (m.cap ⟨g.p.num, g.fr, m.at_⟩)
  else if g.kind = 2 then .go gs (m.event ⟨g.p.num, g.fr, m.at_⟩)
  else if g.kind = 3 then .go (⟨0, g.p.kid 0, 0⟩ :: ⟨4, g.p, m.at_⟩ :: gs) m
  else if g.kind = 4 then (if (m.at_ : Int) = g.fr then .fail else .go (⟨0, g.p, 0⟩ :: gs) m)
  else stepMatch defs s g.p gs m

structure Res where
  found : Bool
  stopped : Bool
  exhausted : Bool
  at_ : Nat
  steps : Nat
  caps : List Cap
  events : List Cap

/-- k: what is left of the fuel; n: the steps that were made. -/
def play (defs : List Pat) (s : ByteArray) : Nat → Nat → List Goal → Mst → Res
  | _, n, [], m => ⟨true, false, false, m.at_, n, m.caps, m.events⟩
  | 0, n, _ :: _, m => ⟨false, false, true, 0, n, [], m.events⟩
  | k + 1, n, g :: gs, m =>
    match step defs s g gs m with
    | .go gs' m' => play defs s k (n + 1) gs' m'
    | .stop => ⟨false, true, false, 0, n + 1, [], m.events⟩
    | .fail =>
      match m.choices.getLast? with
      | none => ⟨false, false, false, 0, n + 1, [], m.events⟩
      | some c => if c.stop then ⟨false, true, false, 0, n + 1, [], m.events⟩ else play defs s k (n + 1) c.goals ⟨c.at_, m.caps.take c.ncap, m.events, m.choices.dropLast⟩

theorem play_nil (defs : List Pat) (s : ByteArray) (k n : Nat) (m : Mst) : play defs s k n [] m = ⟨true, false, false, m.at_, n, m.caps, m.events⟩ := by rw [play.eq_def]
theorem play_zero (defs : List Pat) (s : ByteArray) (n : Nat) (g : Goal) (gs : List Goal) (m : Mst) : play defs s 0 n (g :: gs) m = ⟨false, false, true, 0, n, [], m.events⟩ := by rw [play.eq_def]
theorem play_go {defs : List Pat} {s : ByteArray} {g : Goal} {gs gs' : List Goal} {m m' : Mst} (h : step defs s g gs m = .go gs' m') (k n : Nat) : play defs s (k + 1) n (g :: gs) m = play defs s k (n + 1) gs' m' := by
  rw [play.eq_def]; dsimp only; rw [h]
theorem play_stop {defs : List Pat} {s : ByteArray} {g : Goal} {gs : List Goal} {m : Mst} (h : step defs s g gs m = .stop) (k n : Nat) : play defs s (k + 1) n (g :: gs) m = ⟨false, true, false, 0, n + 1, [], m.events⟩ := by
  rw [play.eq_def]; dsimp only; rw [h]
theorem play_none {defs : List Pat} {s : ByteArray} {g : Goal} {gs : List Goal} {m : Mst} (h : step defs s g gs m = .fail) (hc : m.choices = []) (k n : Nat) : play defs s (k + 1) n (g :: gs) m = ⟨false, false, false, 0, n + 1, [], m.events⟩ := by
  rw [play.eq_def]; dsimp only; rw [h, hc]; rfl
theorem play_last {defs : List Pat} {s : ByteArray} {g : Goal} {gs : List Goal} {m : Mst} {cs : List Choice} {c : Choice} (h : step defs s g gs m = .fail) (hc : m.choices = cs ++ [c]) (k n : Nat) :
    play defs s (k + 1) n (g :: gs) m = if c.stop then ⟨false, true, false, 0, n + 1, [], m.events⟩ else play defs s k (n + 1) c.goals ⟨c.at_, m.caps.take c.ncap, m.events, cs⟩ := by
  rw [play.eq_def]; dsimp only; rw [h, hc]; simp

/-- More fuel changes nothing of a match that has come to its end. -/
theorem play_more (defs : List Pat) (s : ByteArray) : ∀ (k n : Nat) (gs : List Goal) (m : Mst) (j : Nat), (play defs s k n gs m).exhausted = false → play defs s (k + j) n gs m = play defs s k n gs m
  | k, n, [], m, j, _ => by rw [play_nil, play_nil]
  | 0, n, g :: gs, m, j, h => by rw [play_zero] at h; cases h
  | k + 1, n, g :: gs, m, j, h => by
    rw [show k + 1 + j = (k + j) + 1 by omega]
    cases hs : step defs s g gs m with
    | go gs' m' =>
      rw [play_go hs] at h ⊢
      rw [play_go hs]
      exact play_more defs s k (n + 1) gs' m' j h
    | stop => rw [play_stop hs, play_stop hs]
    | fail =>
      rcases List.eq_nil_or_concat m.choices with hc | ⟨cs, c, hc⟩
      · rw [play_none hs hc, play_none hs hc]
      · rw [List.concat_eq_append] at hc
        rw [play_last hs hc] at h ⊢
        rw [play_last hs hc]
        by_cases hst : c.stop = true
        · rw [if_pos hst, if_pos hst]
        · rw [if_neg hst] at h
          rw [if_neg hst, if_neg hst]
          exact play_more defs s k (n + 1) _ _ j h

/-! ### What stays true -/
/-- A goal is of one of the five kinds, and its pattern is a valid one. -/
structure GoalOk (n : Int) (g : Goal) : Prop where
  val : valid g.p n = true
  small : Small g.p
  kind : (g.kind = 0 ∧ g.fr = 0) ∨ (g.kind = 1 ∧ g.p.op = 16) ∨ (g.kind = 2 ∧ g.p.op = 17) ∨ (g.kind = 3 ∧ g.p.op = 13) ∨ (g.kind = 4 ∧ g.p.op = 13)
  fr0 : 0 ≤ g.fr
  fr1 : g.fr ≤ 120
def GoalsOk (n : Int) (gs : List Goal) : Prop := ∀ g ∈ gs, GoalOk n g
structure Choices (n : Int) (s : ByteArray) (cs : List Choice) (len : Nat) : Prop where
  goals : ∀ c ∈ cs, GoalsOk n c.goals ∧ c.at_ ≤ s.size
  sorted : (cs.map (·.ncap)).Pairwise (· ≤ ·)
  le : ∀ c ∈ cs, c.ncap ≤ len
/-- The state between two steps, k steps in. -/
structure Ok (defs : List Pat) (s : ByteArray) (k : Nat) (gs : List Goal) (m : Mst) : Prop where
  goals : GoalsOk defs.length gs
  at_ : m.at_ ≤ s.size
  choices : Choices defs.length s m.choices m.caps.length
  nch : m.choices.length ≤ k
  ncap : m.caps.length ≤ k
  nev : m.events.length ≤ k


theorem valid_head {p : Pat} {n : Int} (h : valid p n = true) : okHead p n = true := by rw [valid_eq, Bool.and_eq_true] at h; exact h.1
theorem valid_kids {p : Pat} {n : Int} (h : valid p n = true) : (1 ≤ p.op ∧ p.op ≤ 23) ∧ (p.kids.length : Int) = kidsOf p.op := by
  have h := valid_head h
  simp only [okHead, Bool.and_eq_true, decide_eq_true_eq] at h
  exact ⟨h.1.1.1.1, h.1.1.1.2⟩
theorem valid_text {p : Pat} {n : Int} (h : valid p n = true) : okText p = true := by
  have h := valid_head h
  simp only [okHead, Bool.and_eq_true] at h
  exact h.1.1.2
theorem valid_num {p : Pat} {n : Int} (h : valid p n = true) : okNum p n = true := by
  have h := valid_head h
  simp only [okHead, Bool.and_eq_true] at h
  exact h.1.2
theorem valid_words {p : Pat} {n : Int} (h : valid p n = true) : okWords p.op p.text p.num := by
  have ht := valid_text h
  have hn := valid_num h
  unfold okText at ht
  unfold okNum at hn
  refine ⟨?_, fun h1 h2 => ?_⟩
  · by_cases h1 : p.op = 1
    · rw [if_pos h1] at ht; exact of_decide_eq_true ht
    · rw [if_neg h1] at ht
      have := size_of_empty (List.isEmpty_iff.1 ht)
      omega
  · rw [if_pos ⟨h1, h2⟩, Bool.and_eq_true] at hn
    exact ⟨of_decide_eq_true hn.1, of_decide_eq_true hn.2⟩
theorem valid_var {p : Pat} {n : Int} (h : valid p n = true) (ho : p.op = 16 ∨ p.op = 17 ∨ p.op = 18 ∨ p.op = 20) : 0 ≤ p.num ∧ p.num < n := by
  have hn := valid_num h
  unfold okNum at hn
  rw [if_neg (by omega), if_pos ho, Bool.and_eq_true] at hn
  exact ⟨of_decide_eq_true hn.1, of_decide_eq_true hn.2⟩
theorem kid_eq {p : Pat} {i : Nat} (h : i < p.kids.length) : p.kid i = p.kids[i] := by simp [Pat.kid, List.getD, h]
theorem kid_valid {p : Pat} {n : Int} {i : Nat} (h : valid p n = true) (hi : i < p.kids.length) : valid (p.kid i) n = true := by
  rw [valid_eq, Bool.and_eq_true] at h
  rw [kid_eq hi]
  exact (validAll_iff _ _).1 h.2 i hi
theorem kid_small {p : Pat} {i : Nat} (h : Small p) (hi : i < p.kids.length) : Small (p.kid i) := by
  rw [kid_eq hi]
  have := count_kid_lt p i hi
  unfold Small at h ⊢
  omega
theorem kids_two {p : Pat} {n : Int} (h : valid p n = true) (ho : p.op = 14 ∨ p.op = 15) : p.kids.length = 2 := by
  have := (valid_kids h).2
  unfold kidsOf at this
  rw [if_neg (by omega), if_pos ho] at this
  omega
theorem kids_one {p : Pat} {n : Int} (h : valid p n = true) (ho : p.op = 13 ∨ p.op = 16 ∨ p.op = 17) : p.kids.length = 1 := by
  have := (valid_kids h).2
  unfold kidsOf at this
  rw [if_pos ho] at this
  omega
theorem oneEnd_le {op : Int} {text : ByteArray} {num lo hi : Int} {s : ByteArray} {p e : Nat} (hok : okWords op text num) (hp : p ≤ s.size) (h : oneEnd op text num lo hi s p = some e) : e ≤ s.size := by
  have hr1 := run_le (lo := lo) (hi := hi) (yes := true) (s := s) (p := p)
  unfold oneEnd at h
  have hn := hok.2
  by_cases o1 : op = 1
  · rw [if_pos o1] at h
    by_cases c : p + text.size ≤ s.size ∧ s.extract p (p + text.size) = text
    · rw [if_pos c] at h; have h := Option.some.inj h; have := c.1; omega
    · rw [if_neg c] at h; cases h
  rw [if_neg o1] at h
  by_cases o2 : op = 2
  · rw [if_pos o2] at h
    by_cases c : (p : Int) + num ≤ s.size
    · rw [if_pos c] at h; have h := Option.some.inj h; have := hn (by omega) (by omega); omega
    · rw [if_neg c] at h; cases h
  rw [if_neg o2] at h
  by_cases o3 : op = 3
  · rw [if_pos o3] at h
    by_cases c : num = (p : Int)
    · rw [if_pos c] at h; have h := Option.some.inj h; omega
    · rw [if_neg c] at h; cases h
  rw [if_neg o3] at h
  by_cases o4 : op = 4
  · rw [if_pos o4] at h
    by_cases c : num = (s.size : Int) - p
    · rw [if_pos c] at h; have h := Option.some.inj h; omega
    · rw [if_neg c] at h; cases h
  rw [if_neg o4] at h
  by_cases o5 : op = 5
  · rw [if_pos o5] at h
    by_cases c : (p : Int) ≤ num ∧ num ≤ s.size
    · rw [if_pos c] at h; have h := Option.some.inj h; have := c.1; omega
    · rw [if_neg c] at h; cases h
  rw [if_neg o5] at h
  by_cases o6 : op = 6
  · rw [if_pos o6] at h
    by_cases c : (p : Int) ≤ (s.size : Int) - num
    · rw [if_pos c] at h; have h := Option.some.inj h; omega
    · rw [if_neg c] at h; cases h
  rw [if_neg o6] at h
  by_cases o7 : op = 7
  · rw [if_pos o7] at h
    by_cases c : p < s.size ∧ hb lo hi (byteAt s p) = true
    · rw [if_pos c] at h; have h := Option.some.inj h; have := c.1; omega
    · rw [if_neg c] at h; cases h
  rw [if_neg o7] at h
  by_cases o8 : op = 8
  · rw [if_pos o8] at h
    by_cases c : p < s.size ∧ hb lo hi (byteAt s p) = false
    · rw [if_pos c] at h; have h := Option.some.inj h; have := c.1; omega
    · rw [if_neg c] at h; cases h
  rw [if_neg o8] at h
  by_cases o9 : op = 9
  · rw [if_pos o9] at h
    by_cases c : 0 < runOf lo hi true (s.data.toList.drop p)
    · rw [if_pos c] at h; have h := Option.some.inj h; omega
    · rw [if_neg c] at h; cases h
  rw [if_neg o9] at h
  by_cases o10 : op = 10
  · rw [if_pos o10] at h
    by_cases c : p + runOf lo hi false (s.data.toList.drop p) < s.size
    · rw [if_pos c] at h; have h := Option.some.inj h; omega
    · rw [if_neg c] at h; cases h
  rw [if_neg o10] at h
  by_cases o12 : op = 12
  · rw [if_pos o12] at h; have h := Option.some.inj h; omega
  rw [if_neg o12] at h
  by_cases o22 : op = 22
  · rw [if_pos o22] at h; have h := Option.some.inj h; omega
  rw [if_neg o22] at h
  cases h

end Go.Proofs.Ytndefbecoahfhaa

/- What stays true from step to step of the plain machine. -/
namespace Go.Proofs.Ytndefbecoahfhaa
open Go.RowKit

/-- The definitions are valid patterns. -/
structure DefsOk (defs : List Pat) : Prop where
  len : defs.length ≤ 24
  valid : ∀ j (h : j < defs.length), valid defs[j] defs.length = true
  small : Smalls defs

theorem GoalsOk.cons {n : Int} {g : Goal} {gs : List Goal} (h : GoalOk n g) (hs : GoalsOk n gs) : GoalsOk n (g :: gs) := by
  intro x hx
  rcases List.mem_cons.1 hx with rfl | hx
  · exact h
  · exact hs x hx
theorem GoalsOk.tail {n : Int} {g : Goal} {gs : List Goal} (hs : GoalsOk n (g :: gs)) : GoalsOk n gs := fun x hx => hs x (List.mem_cons_of_mem _ hx)
theorem GoalsOk.head {n : Int} {g : Goal} {gs : List Goal} (hs : GoalsOk n (g :: gs)) : GoalOk n g := hs g List.mem_cons_self

theorem Choices.more {n : Int} {s : ByteArray} {cs : List Choice} {a b : Nat} (h : Choices n s cs a) (hab : a ≤ b) : Choices n s cs b :=
  ⟨h.goals, h.sorted, fun c hc => Nat.le_trans (h.le c hc) hab⟩
theorem Choices.push {n : Int} {s : ByteArray} {cs : List Choice} {a : Nat} (h : Choices n s cs a) (c : Choice) (hc : c.ncap = a) (hg : GoalsOk n c.goals) (hat : c.at_ ≤ s.size) : Choices n s (cs ++ [c]) a := by
  refine ⟨fun x hx => ?_, ?_, fun x hx => ?_⟩
  · rcases List.mem_append.1 hx with hx | hx
    · exact h.goals x hx
    · rw [List.mem_singleton.1 hx]; exact ⟨hg, hat⟩
  · rw [List.map_append, List.pairwise_append]
    refine ⟨h.sorted, by simp, fun x hx y hy => ?_⟩
    obtain ⟨d, hd, rfl⟩ := List.mem_map.1 hx
    simp at hy
    have := h.le d hd
    omega
  · rcases List.mem_append.1 hx with hx | hx
    · exact h.le x hx
    · rw [List.mem_singleton.1 hx]; omega
theorem Choices.pop {n : Int} {s : ByteArray} {cs : List Choice} {c : Choice} {a : Nat} (h : Choices n s (cs ++ [c]) a) : Choices n s cs c.ncap ∧ c.ncap ≤ a ∧ GoalsOk n c.goals ∧ c.at_ ≤ s.size := by
  refine ⟨⟨fun x hx => h.goals x (List.mem_append_left _ hx), ?_, fun x hx => ?_⟩, h.le c (by simp), h.goals c (by simp)⟩
  · have := h.sorted
    rw [List.map_append, List.pairwise_append] at this
    exact this.1
  · have := h.sorted
    rw [List.map_append, List.pairwise_append] at this
    exact this.2.2 x.ncap (List.mem_map_of_mem hx) c.ncap (by simp)

theorem Ok.pop {defs : List Pat} {s : ByteArray} {k : Nat} {gs : List Goal} {m : Mst} {cs : List Choice} {c : Choice} (h : Ok defs s k gs m) (hc : m.choices = cs ++ [c]) :
    Ok defs s (k + 1) c.goals ⟨c.at_, m.caps.take c.ncap, m.events, cs⟩ := by
  have h1 := h.choices
  have h2 := h.nch
  rw [hc] at h1 h2
  obtain ⟨p1, p2, p3, p4⟩ := h1.pop
  simp at h2
  have h3 := h.ncap
  have h4 := h.nev
  refine ⟨p3, p4, ?_, ?_, ?_, ?_⟩
  · simpa [Nat.min_eq_left p2] using p1
  · simp; omega
  · simp; omega
  · simp; omega

theorem GoalOk.plain {n : Int} {p : Pat} (h : valid p n = true) (hs : Small p) : GoalOk n ⟨0, p, 0⟩ := ⟨h, hs, .inl ⟨rfl, rfl⟩, Int.le_refl _, by simp⟩

theorem step_ok {defs : List Pat} {s : ByteArray} {k : Nat} {g : Goal} {gs : List Goal} {m : Mst} (hd : DefsOk defs) (hs : s.size ≤ 120) (h : Ok defs s k (g :: gs) m) {gs' : List Goal} {m' : Mst} (e : step defs s g gs m = .go gs' m') :
    Ok defs s (k + 1) gs' m' := by
  obtain ⟨hg, hat, hch, hn1, hn2, hn3⟩ := h
  have hgs := hg.tail
  have hgo := hg.head
  obtain ⟨hv, hsm, hk, hf0, hf1⟩ := hgo
  have hat' : (0 : Int) ≤ m.at_ ∧ (m.at_ : Int) ≤ 120 := by omega
  have same : Ok defs s (k + 1) gs m := ⟨hgs, hat, hch, by omega, by omega, by omega⟩
  have chosen : ∀ c a, GoalsOk defs.length c → a ≤ s.size → Ok defs s (k + 1) gs (m.choose c a) := fun c a hc ha =>
    ⟨hgs, hat, hch.push ⟨false, c, a, m.caps.length⟩ rfl hc ha, by simp [Mst.choose]; omega, by simp [Mst.choose]; omega, by simp [Mst.choose]; omega⟩
  unfold step at e
  by_cases k1 : g.kind = 1
  · rw [if_pos k1] at e
    injection e with e1 e2
    subst e1 e2
    exact ⟨hgs, hat, hch.more (by simp [Mst.cap]), by simp [Mst.cap]; omega, by simp [Mst.cap]; omega, by simp [Mst.cap]; omega⟩
  rw [if_neg k1] at e
  by_cases k2 : g.kind = 2
  · rw [if_pos k2] at e
    injection e with e1 e2
    subst e1 e2
    exact ⟨hgs, hat, hch, by simp [Mst.event]; omega, by simp [Mst.event]; omega, by simp [Mst.event]; omega⟩
  rw [if_neg k2] at e
  by_cases k3 : g.kind = 3
  · have hop : g.p.op = 13 := by omega
    have hl := kids_one hv (.inl hop)
    rw [if_pos k3] at e
    injection e with e1 e2
    subst e1 e2
    refine ⟨GoalsOk.cons (GoalOk.plain (kid_valid hv (by omega)) (kid_small hsm (by omega))) (GoalsOk.cons ⟨hv, hsm, ?_, hat'.1, hat'.2⟩ hgs), hat, hch, by omega, by omega, by omega⟩
    exact .inr (.inr (.inr (.inr ⟨rfl, hop⟩)))
  rw [if_neg k3] at e
  by_cases k4 : g.kind = 4
  · rw [if_pos k4] at e
    by_cases hf : (m.at_ : Int) = g.fr
    · rw [if_pos hf] at e; cases e
    · rw [if_neg hf] at e
      injection e with e1 e2
      subst e1 e2
      exact ⟨GoalsOk.cons (GoalOk.plain hv hsm) hgs, hat, hch, by omega, by omega, by omega⟩
  rw [if_neg k4] at e
  unfold stepMatch at e
  by_cases o11 : g.p.op = 11
  · rw [if_pos o11] at e
    injection e with e1 e2
    subst e1 e2
    by_cases hlt : m.at_ < s.size
    · rw [if_pos hlt]
      exact chosen _ _ (GoalsOk.cons (GoalOk.plain hv hsm) hgs) hlt
    · rw [if_neg hlt]
      exact same
  rw [if_neg o11] at e
  by_cases o13 : g.p.op = 13
  · rw [if_pos o13] at e
    injection e with e1 e2
    subst e1 e2
    exact chosen _ _ (GoalsOk.cons ⟨hv, hsm, .inr (.inr (.inr (.inl ⟨rfl, o13⟩))), Int.le_refl _, by simp⟩ hgs) hat
  rw [if_neg o13] at e
  by_cases o14 : g.p.op = 14
  · have hl := kids_two hv (.inl o14)
    rw [if_pos o14] at e
    injection e with e1 e2
    subst e1 e2
    exact ⟨GoalsOk.cons (GoalOk.plain (kid_valid hv (by omega)) (kid_small hsm (by omega))) (GoalsOk.cons (GoalOk.plain (kid_valid hv (by omega)) (kid_small hsm (by omega))) hgs), hat, hch, by omega, by omega, by omega⟩
  rw [if_neg o14] at e
  by_cases o15 : g.p.op = 15
  · have hl := kids_two hv (.inr o15)
    rw [if_pos o15] at e
    injection e with e1 e2
    subst e1 e2
    have hc := chosen (⟨0, g.p.kid 1, 0⟩ :: gs) m.at_ (GoalsOk.cons (GoalOk.plain (kid_valid hv (by omega)) (kid_small hsm (by omega))) hgs) hat
    exact ⟨GoalsOk.cons (GoalOk.plain (kid_valid hv (by omega)) (kid_small hsm (by omega))) hgs, hc.at_, hc.choices, hc.nch, hc.ncap, hc.nev⟩
  rw [if_neg o15] at e
  by_cases o16 : g.p.op = 16
  · have hl := kids_one hv (.inr (.inl o16))
    rw [if_pos o16] at e
    injection e with e1 e2
    subst e1 e2
    exact ⟨GoalsOk.cons (GoalOk.plain (kid_valid hv (by omega)) (kid_small hsm (by omega))) (GoalsOk.cons ⟨hv, hsm, .inr (.inl ⟨rfl, o16⟩), hat'.1, hat'.2⟩ hgs), hat, hch, by omega, by omega, by omega⟩
  rw [if_neg o16] at e
  by_cases o17 : g.p.op = 17
  · have hl := kids_one hv (.inr (.inr o17))
    rw [if_pos o17] at e
    injection e with e1 e2
    subst e1 e2
    exact ⟨GoalsOk.cons (GoalOk.plain (kid_valid hv (by omega)) (kid_small hsm (by omega))) (GoalsOk.cons ⟨hv, hsm, .inr (.inr (.inl ⟨rfl, o17⟩)), hat'.1, hat'.2⟩ hgs), hat, hch, by omega, by omega, by omega⟩
  rw [if_neg o17] at e
  by_cases o18 : g.p.op = 18
  · rw [if_pos o18] at e
    injection e with e1 e2
    subst e1 e2
    exact ⟨hgs, hat, hch, by simp [Mst.event]; omega, by simp [Mst.event]; omega, by simp [Mst.event]; omega⟩
  rw [if_neg o18] at e
  by_cases o19 : g.p.op = 19
  · rw [if_pos o19] at e
    injection e with e1 e2
    subst e1 e2
    exact ⟨hgs, hat, hch.push ⟨true, [], m.at_, m.caps.length⟩ rfl (fun x hx => by cases hx) hat, by simp; omega, by simp; omega, by simp; omega⟩
  rw [if_neg o19] at e
  by_cases o20 : g.p.op = 20
  · have hn := valid_var hv (.inr (.inr (.inr o20)))
    have hlt : g.p.num.toNat < defs.length := by omega
    rw [if_pos o20] at e
    injection e with e1 e2
    subst e1 e2
    have : defs.getD g.p.num.toNat (.mk 0 ByteArray.empty 0 0 0 []) = defs[g.p.num.toNat] := by simp [List.getD, hlt]
    rw [this]
    exact ⟨GoalsOk.cons (GoalOk.plain (hd.valid _ hlt) (hd.small _ hlt)) hgs, hat, hch, by omega, by omega, by omega⟩
  rw [if_neg o20] at e
  by_cases o21 : g.p.op = 21
  · rw [if_pos o21] at e; cases e
  rw [if_neg o21] at e
  cases ho : oneEnd g.p.op g.p.text g.p.num g.p.lo g.p.hi s m.at_ with
  | none => rw [ho] at e; cases e
  | some y =>
    rw [ho] at e
    injection e with e1 e2
    subst e1 e2
    exact ⟨hgs, oneEnd_le (valid_words hv) hat ho, hch, by simp; omega, by simp; omega, by simp; omega⟩

end Go.Proofs.Ytndefbecoahfhaa

/- The walk of a drawn region in one order, more: operations that read no memory may be left unordered with the last ones; the last ones are any list. -/
namespace Go.Proofs.Ytndefbecoahfhaa
open Go.RowKit

section
variable {P : Program} {ops : Array Oper} {Q : Exit → Act → World → Prop} {md : Region.Mode} {tl pu : Nat → Bool} {S S' : World → Prop}

/-- Whatever order is picked from here on; behind every operation that is not among the last ones S holds; a pure one leaves the world. -/
def wpAnyU (P : Program) (md : Region.Mode) (ops : Array Oper) (Q : Exit → Act → World → Prop) (tl pu : Nat → Bool) (S : World → Prop) : Nat → Array Bool → Act → World → Prop
  | 0, listed, a, w => Region.ready md ops listed = [] ∧ Q .normal a w
  | fuel + 1, listed, a, w =>
    (Region.ready md ops listed = [] → Q .normal a w) ∧
    ∀ i ∈ Region.ready md ops listed, wpOp P ops Q i (fun a' w' => ((tl i = false → S w') ∧ (pu i = true → w' = w)) ∧ wpAnyU P md ops Q tl pu S fuel (listed.setIfInBounds i true) a' w') a w

theorem wpAny_of_U : ∀ (fuel : Nat) (listed : Array Bool) (a : Act) (w : World), wpAnyU P md ops Q tl pu S fuel listed a w → wpAny P md ops Q fuel listed a w
  | 0, _, _, _, h => h
  | fuel + 1, _, _, _, h => ⟨h.1, fun i hi => wpOp_mono (fun a' w' h' => wpAny_of_U fuel _ a' w' h'.2) (h.2 i hi)⟩

theorem wpAnyU_mono (hs : ∀ w, S' w → S w) : ∀ (fuel : Nat) (listed : Array Bool) (a : Act) (w : World), wpAnyU P md ops Q tl pu S' fuel listed a w → wpAnyU P md ops Q tl pu S fuel listed a w
  | 0, _, _, _, h => h
  | fuel + 1, _, _, _, h => ⟨h.1, fun i hi => wpOp_mono (fun a' w' h' => ⟨⟨fun ht => hs _ (h'.1.1 ht), h'.1.2⟩, wpAnyU_mono hs fuel _ a' w' h'.2⟩) (h.2 i hi)⟩

theorem wpAnyU_first {i : Nat} {oi : Oper} {v : Value} (hi : ops[i]? = some oi) (hsel : ∀ (j : Nat) (o : Oper) cs b, ops[j]? = some o → o.op ≠ .select cs b)
    (hQ : ∀ c a w, Q (.panic c) (a.put oi.dst v) w → Q (.panic c) a w) (htl : ∀ j, j < ops.size → tl j = true → pu j = true ∨ reach md ops ops.size j i = true) :
    ∀ (fuel : Nat) (listed : Array Bool) (a : Act) (w : World),
      (∀ j oj, ops[j]? = some oj → j ≠ i → listed.getD j true = false → (∀ e ∈ oj.after, Region.binds md e = true → e.on ≠ i) → oi.apart ops oj = true) → closed md ops listed →
      i ∈ Region.ready md ops listed → YieldsIf P ops S oi v a → S w →
      wpAnyU P md ops Q tl pu S fuel (listed.setIfInBounds i true) (a.put oi.dst v) w → wpAnyU P md ops Q tl pu S (fuel + 1) listed a w := by
  intro fuel
  induction fuel with
  | zero =>
    intro listed a w _ _ hr hy hS H
    refine ⟨fun h => (by rw [h] at hr; cases hr), fun j hj => ?_⟩
    by_cases hji : j = i
    · subst hji; exact hy.wpOp hi hS ⟨⟨fun _ => hS, fun _ => rfl⟩, H⟩
    · have := ready_mono hj hji
      rw [H.1] at this
      cases this
  | succ fuel ih =>
    intro listed a w hfree hcl hr hy hS H
    refine ⟨fun h => (by rw [h] at hr; cases hr), fun j hj => ?_⟩
    by_cases hji : j = i
    · subst hji; exact hy.wpOp hi hS ⟨⟨fun _ => hS, fun _ => rfl⟩, H⟩
    · have h1 := H.2 j (ready_mono hj hji)
      obtain ⟨hjun, oj, hoj, hall⟩ := mem_ready.1 hj
      have hiun : listed.getD i false = true → False := fun h1 => by
        have h0 := (mem_ready.1 hr).1
        rcases Nat.lt_or_ge i listed.size with h' | h'
        · simp [h'] at h0 h1; rw [h0] at h1; cases h1
        · simp [Array.getElem?_eq_none h'] at h1
      have hnot : ∀ e ∈ oj.after, Region.binds md e = true → e.on ≠ i := fun e he hb heq => hiun (by rw [← heq]; exact hall e he hb)
      have hSj : ∀ w', ((tl j = false → S w') ∧ (pu j = true → w' = w)) → S w' := fun w' hw' => by
        cases ht : tl j with
        | false => exact hw'.1 ht
        | true =>
          rcases htl j (Array.getElem?_eq_some_iff.1 hoj).1 ht with h | h
          · rw [hw'.2 h]; exact hS
          · exact (hiun (listed_of_reach hcl _ j i oj hoj hall h)).elim
      have h2 := wpOp_putIf hoj (hfree j oj hoj hji hjun hnot) (fun cs b => hsel i oi cs b hi) (fun cs b => hsel j oj cs b hoj) hQ hy h1
      have hfree' : ∀ k ok, ops[k]? = some ok → k ≠ i → (listed.setIfInBounds j true).getD k true = false →
          (∀ e ∈ ok.after, Region.binds md e = true → e.on ≠ i) → oi.apart ops ok = true := fun k ok hk hki hun hno => by
        refine hfree k ok hk hki ?_ hno
        by_cases hjk : j = k
        · subst hjk; exact hjun
        · rw [getD_set_ne true hjk] at hun; exact hun
      refine wpOp_mono (fun a' w' h3 => ⟨h3.2.1, ih (listed.setIfInBounds j true) a' w' hfree' (closed_set hcl hj) (ready_mono hr (Ne.symm hji)) h3.1 (hSj w' h3.2.1) ?_⟩) h2
      rw [Array.setIfInBounds_comm _ _ hji]
      exact h3.2.2

theorem wpAnyU_pure {i : Nat} {oi : Oper} {v : Value} (hi : ops[i]? = some oi) (hsel : ∀ (j : Nat) (o : Oper) cs b, ops[j]? = some o → o.op ≠ .select cs b)
    (hQ : ∀ c a w, Q (.panic c) (a.put oi.dst v) w → Q (.panic c) a w) (hti : tl i = true) :
    ∀ (fuel : Nat) (listed : Array Bool) (a : Act) (w : World),
      (∀ j oj, ops[j]? = some oj → j ≠ i → listed.getD j true = false → (∀ e ∈ oj.after, Region.binds md e = true → e.on ≠ i) → oi.apart ops oj = true) →
      i ∈ Region.ready md ops listed → YieldsIf P ops (fun _ => True) oi v a →
      wpAnyU P md ops Q tl pu S fuel (listed.setIfInBounds i true) (a.put oi.dst v) w → wpAnyU P md ops Q tl pu S (fuel + 1) listed a w := by
  intro fuel
  induction fuel with
  | zero =>
    intro listed a w _ hr hy H
    refine ⟨fun h => (by rw [h] at hr; cases hr), fun j hj => ?_⟩
    by_cases hji : j = i
    · subst hji; exact hy.wpOp hi trivial ⟨⟨fun h => (by rw [hti] at h; cases h), fun _ => rfl⟩, H⟩
    · have := ready_mono hj hji
      rw [H.1] at this
      cases this
  | succ fuel ih =>
    intro listed a w hfree hr hy H
    refine ⟨fun h => (by rw [h] at hr; cases hr), fun j hj => ?_⟩
    by_cases hji : j = i
    · subst hji; exact hy.wpOp hi trivial ⟨⟨fun h => (by rw [hti] at h; cases h), fun _ => rfl⟩, H⟩
    · have h1 := H.2 j (ready_mono hj hji)
      obtain ⟨hjun, oj, hoj, hall⟩ := mem_ready.1 hj
      have hiun : listed.getD i false = true → False := fun h1 => by
        have h0 := (mem_ready.1 hr).1
        rcases Nat.lt_or_ge i listed.size with h' | h'
        · simp [h'] at h0 h1; rw [h0] at h1; cases h1
        · simp [Array.getElem?_eq_none h'] at h1
      have hnot : ∀ e ∈ oj.after, Region.binds md e = true → e.on ≠ i := fun e he hb heq => hiun (by rw [← heq]; exact hall e he hb)
      have h2 := wpOp_putIf hoj (hfree j oj hoj hji hjun hnot) (fun cs b => hsel i oi cs b hi) (fun cs b => hsel j oj cs b hoj) hQ hy h1
      have hfree' : ∀ k ok, ops[k]? = some ok → k ≠ i → (listed.setIfInBounds j true).getD k true = false →
          (∀ e ∈ ok.after, Region.binds md e = true → e.on ≠ i) → oi.apart ops ok = true := fun k ok hk hki hun hno => by
        refine hfree k ok hk hki ?_ hno
        by_cases hjk : j = k
        · subst hjk; exact hjun
        · rw [getD_set_ne true hjk] at hun; exact hun
      refine wpOp_mono (fun a' w' h3 => ⟨h3.2.1, ih (listed.setIfInBounds j true) a' w' hfree' (ready_mono hr (Ne.symm hji)) h3.1 ?_⟩) h2
      rw [Array.setIfInBounds_comm _ _ hji]
      exact h3.2.2

/-- Which operations are among the last ones (or pure), and which are pure. -/
def tlOf (L U : List Nat) (j : Nat) : Bool := L.contains j || U.contains j
def puOf (U : List Nat) (j : Nat) : Bool := U.contains j
def tailU (md : Region.Mode) (ops : Array Oper) (L : List Nat) (i : Nat) : Bool := L.all fun j => reach md ops ops.size j i
def takeU (ops : Array Oper) (L : List Nat) (listed : Array Bool) (i : Nat) : Bool :=
  Region.noSelect ops && Region.free .any ops listed i && (Region.ready .any ops listed).contains i && closedB .any ops listed && tailU .any ops L i
def pureU (ops : Array Oper) (U : List Nat) (listed : Array Bool) (i : Nat) : Bool :=
  Region.noSelect ops && Region.free .any ops listed i && (Region.ready .any ops listed).contains i && U.contains i

/-- The state of the walk: from world w on; L: the last operations; U: the pure ones. -/
def wpU (P : Program) (ops : Array Oper) (Q : Exit → Act → World → Prop) (L U : List Nat) (fuel : Nat) (listed : Array Bool) (a : Act) (w : World) : Prop :=
  wpAnyU P .any ops Q (tlOf L U) (puOf U) (Later w) fuel listed a w

theorem wpU_begin (L U : List Nat) {id : Nat} {a : Act} {w : World} (hm : P.follows .mixedOrders = true)
    (h : ∀ w1, w1 = w.drew → wpU P ops Q L U ops.size (Array.replicate ops.size false) a w1) : (Code.region id ops true).wp P Q a w :=
  wp_region_any hm (wpAny_of_U _ _ _ _ (h w.drew rfl))

/-- Operation i is taken first: it reads only what lies in w already. -/
theorem wpU_take (i : Nat) (d : Option Tmp) {L U : List Nat} {oi : Oper} {v : Value} {fuel : Nat} {listed : Array Bool} {a : Act} {w : World} (hi : ops[i]? = some oi) (hd : oi.dst = d)
    (hB : takeU ops L listed i = true)
    (hQ : ∀ c a w, Q (.panic c) (a.put d v) w → Q (.panic c) a w)
    (hw : Region.wanted oi (yielded ops a.tmps) = true) (hy : ∀ x, Later w x → (execOp a.eval oi).run P x = .ok (.value v) x)
    (h : wpU P ops Q L U fuel (listed.setIfInBounds i true) (a.put d v) w) : wpU P ops Q L U (fuel + 1) listed a w := by
  subst hd
  simp only [takeU, Bool.and_eq_true] at hB
  obtain ⟨⟨⟨⟨hs, hf⟩, hr⟩, hc⟩, ht⟩ := hB
  refine wpAnyU_first hi (Region.noSelect_spec hs) hQ (fun j _ htj => ?_) fuel listed a w (Region.free_spec hi hf) (closed_of hc) (by simpa using hr) (.inl ⟨hw, hy⟩) (Later.refl w) h
  simp only [tlOf, Bool.or_eq_true] at htj
  rcases htj with h1 | h1
  · exact .inr (List.all_eq_true.1 ht j (by simpa using h1))
  · exact .inl h1

/-- Operation i is taken first: it reads no memory. -/
theorem wpU_pure (i : Nat) (d : Option Tmp) {L U : List Nat} {oi : Oper} {v : Value} {fuel : Nat} {listed : Array Bool} {a : Act} {w : World} (hi : ops[i]? = some oi) (hd : oi.dst = d)
    (hB : pureU ops U listed i = true)
    (hQ : ∀ c a w, Q (.panic c) (a.put d v) w → Q (.panic c) a w)
    (hw : Region.wanted oi (yielded ops a.tmps) = true) (hy : ∀ x, (execOp a.eval oi).run P x = .ok (.value v) x)
    (h : wpU P ops Q L U fuel (listed.setIfInBounds i true) (a.put d v) w) : wpU P ops Q L U (fuel + 1) listed a w := by
  subst hd
  simp only [pureU, Bool.and_eq_true] at hB
  obtain ⟨⟨⟨hs, hf⟩, hr⟩, hu⟩ := hB
  exact wpAnyU_pure hi (Region.noSelect_spec hs) hQ (by simp only [tlOf, Bool.or_eq_true]; exact .inr hu) fuel listed a w (Region.free_spec hi hf) (by simpa using hr) (.inl ⟨hw, fun x _ => hy x⟩) h

/-- Operation i comes up alone: it makes memory, and leaves what lies in w as it is. -/
theorem wpU_step (i : Nat) {L U : List Nat} {o : Oper} {fuel : Nat} {listed : Array Bool} {a : Act} {w : World} (hr : Region.ready .any ops listed = [i]) (hu : U.contains i = false) (ho : ops[i]? = some o)
    (h : wpList P ops (StepQ Q w (fun a' w' => wpU P ops Q L U fuel (listed.setIfInBounds i true) a' w')) [o] a w) : wpU P ops Q L U (fuel + 1) listed a w := by
  refine ⟨fun h0 => (by rw [hr] at h0; cases h0), fun j hj => ?_⟩
  rw [hr] at hj
  obtain rfl : j = i := by simpa using hj
  unfold wpList at h
  unfold wpOp
  rw [ho]
  have hK : ∀ a' w', wpList P ops (StepQ Q w (fun a' w' => wpU P ops Q L U fuel (listed.setIfInBounds j true) a' w')) [] a' w' →
      (((tlOf L U j = false → Later w w') ∧ (puOf U j = true → w' = w)) ∧ wpAnyU P .any ops Q (tlOf L U) (puOf U) (Later w) fuel (listed.setIfInBounds j true) a' w') := fun a' w' h' =>
    ⟨⟨fun _ => h'.1, fun h0 => (by unfold puOf at h0; rw [hu] at h0; cases h0)⟩, wpAnyU_mono (fun x hx => h'.1.trans hx) _ _ _ _ h'.2⟩
  have hup : o.wp P a w (wpList P ops (StepQ Q w (fun a' w' => wpU P ops Q L U fuel (listed.setIfInBounds j true) a' w')) []) (StepQ Q w (fun a' w' => wpU P ops Q L U fuel (listed.setIfInBounds j true) a' w')) →
      o.wp P a w (wpList P ops (StepQ Q w (fun a' w' => wpU P ops Q L U fuel (listed.setIfInBounds j true) a' w')) []) Q := fun h' => by
    unfold Oper.wp at *
    generalize (execOp a.eval o).run P w = r at *
    cases r with
    | ok n w' => cases n <;> exact h'
    | halt x w' => cases x <;> exact h'
  show if Region.wanted o (yielded ops a.tmps) = true then _ else _
  split
  · rename_i hw
    rw [if_pos hw] at h
    rcases h with h | ⟨h1, h2⟩
    · exact .inl (Oper.wp_mono hK (hup h))
    · exact .inr ⟨h1, h2⟩
  · rename_i hw
    rw [if_neg hw] at h
    exact hK _ _ h

theorem wpU_chain {U : List Nat} {S : World → Prop} (L0 : List Nat) : ∀ (L : List Nat) (os : List Oper) (listed : Array Bool) (a : Act) (w : World), chainB ops L listed = true → (∀ i ∈ L, L0.contains i = true ∧ U.contains i = false) → L.map (ops[·]?) = os.map some →
    wpList P ops Q os a w → wpAnyU P .any ops Q (tlOf L0 U) (puOf U) S L.length listed a w
  | [], os, listed, a, w, hch, _, hos, h => by
    have : os = [] := by cases os with
      | nil => rfl
      | cons => simp at hos
    subst this
    exact ⟨by simpa [chainB] using hch, h⟩
  | i :: L, os, listed, a, w, hch, htl, hos, h => by
    obtain ⟨o, os', rfl⟩ : ∃ o os', os = o :: os' := by cases os with
      | nil => simp at hos
      | cons o os' => exact ⟨o, os', rfl⟩
    simp only [List.map_cons, List.cons.injEq] at hos
    simp only [chainB, Bool.and_eq_true, beq_iff_eq] at hch
    obtain ⟨hr, hch'⟩ := hch
    refine ⟨fun h0 => (by rw [hr] at h0; cases h0), fun j hj => ?_⟩
    rw [hr] at hj
    obtain rfl : j = i := by simpa using hj
    have hj2 := htl j (by simp)
    have hK : ∀ a' w', wpList P ops Q os' a' w' → (((tlOf L0 U j = false → S w') ∧ (puOf U j = true → w' = w)) ∧ wpAnyU P .any ops Q (tlOf L0 U) (puOf U) S L.length (listed.setIfInBounds j true) a' w') := fun a' w' h' =>
      ⟨⟨fun ht => (by unfold tlOf at ht; rw [hj2.1] at ht; cases ht), fun ht => (by unfold puOf at ht; rw [hj2.2] at ht; cases ht)⟩, wpU_chain L0 L os' _ a' w' hch' (fun k hk => htl k (by simp [hk])) hos.2 h'⟩
    unfold wpList at h
    unfold wpOp
    rw [hos.1]
    show if Region.wanted o (yielded ops a.tmps) = true then _ else _
    split
    · rename_i hw
      rw [if_pos hw] at h
      exact h.imp (Oper.wp_mono hK) id
    · rename_i hw
      rw [if_neg hw] at h
      exact hK _ _ h

/-- All that is asked where only the last operations L are left. -/
def lastB (ops : Array Oper) (L U : List Nat) (listed : Array Bool) : Bool := chainB ops L listed && L.all fun i => !U.contains i
theorem wpU_last {L U : List Nat} (os : List Oper) {n : Nat} {listed : Array Bool} {a : Act} {w : World} (hB : lastB ops L U listed = true) (hn : L.length = n) (hos : L.map (ops[·]?) = os.map some)
    (h : wpList P ops Q os a w) : wpU P ops Q L U n listed a w := by
  subst hn
  simp only [lastB, Bool.and_eq_true] at hB
  exact wpU_chain L L os listed a w hB.1 (fun i hi => ⟨by simpa using hi, by simpa using List.all_eq_true.1 hB.2 i hi⟩) hos h

end
end Go.Proofs.Ytndefbecoahfhaa

/- Rows that may have been cut, and blocks by their type: what the matchers' memory is said with. No walk in sight. -/
namespace Go.Proofs.Ytndefbecoahfhaa
open Go.RowKit

/-- The call's own row, perhaps cut: its block may be greater than its capacity says. -/
def HasRow (w : World) (base : Nat) (e : TypeId) (size : Nat) (v : Value) (n : Nat) (xs : List Value) : Prop :=
  xs.length = n * size ∧
  ((v = .slice none 0 0 ∧ n = 0) ∨
   ∃ g cap cur, v = .slice (some ⟨g, 0, none⟩) n cap ∧ base ≤ g ∧ w.heap[g]? = some (.cells cur e (0, 0)) ∧ n ≤ cap ∧ cap ≤ maxLen ∧ cap * size ≤ cur.size ∧ cur.toList.take (n * size) = xs)

section
variable {w : World} {base : Nat} {e : TypeId} {size : Nat} {v : Value} {n : Nat} {xs : List Value}

theorem HasRow.nil (w : World) (base : Nat) (e : TypeId) (size : Nat) : HasRow w base e size (.slice none 0 0) 0 [] := ⟨by simp, .inl ⟨rfl, rfl⟩⟩

theorem HasRow.lt (h : HasRow w base e size v n xs) : ∀ k, v.ownBlock = some k → base ≤ k ∧ k < w.heap.size ∧ ∃ cur, w.heap[k]? = some (.cells cur e (0, 0)) := by
  intro k hk
  rcases h.2 with ⟨rfl, _⟩ | ⟨g, cap, cur, rfl, hb, hg, _⟩
  · simp [Value.ownBlock] at hk
  · simp [Value.ownBlock] at hk
    subst hk
    exact ⟨hb, (Array.getElem?_eq_some_iff.1 hg).1, cur, hg⟩

/-- The row's own block is as it was. -/
theorem HasRow.same {w' : World} (h : HasRow w base e size v n xs) (hs : ∀ k, v.ownBlock = some k → w'.heap[k]? = w.heap[k]?) : HasRow w' base e size v n xs := by
  refine ⟨h.1, ?_⟩
  rcases h.2 with hn | ⟨g, cap, cur, rfl, hb, hgg, rest⟩
  · exact .inl hn
  · refine .inr ⟨g, cap, cur, rfl, hb, ?_, rest⟩
    rw [hs g rfl]
    exact hgg

theorem HasRow.cells (h : HasRow w base e size v n xs) {g : Nat} (hg : v.ownBlock = some g) : ∀ j u, xs[j]? = some u → w.cell? ⟨g, j, none⟩ = some u := by
  intro j u hu
  rcases h.2 with ⟨rfl, _⟩ | ⟨g', cap, cur, rfl, _, hgg, _, _, _, htake⟩
  · simp [Value.ownBlock] at hg
  · simp [Value.ownBlock] at hg
    subst hg
    rw [cell_of_row w g' j cur e (0, 0) hgg]
    rw [← htake, List.getElem?_take] at hu
    split at hu
    · simpa using hu
    · cases hu

/-- A row with something in it has a block. -/
theorem HasRow.block_ (h : HasRow w base e size v n xs) (hn : 0 < n) : ∃ g cap, v = .slice (some ⟨g, 0, none⟩) n cap ∧ base ≤ g ∧ n ≤ cap ∧ cap ≤ maxLen := by
  rcases h.2 with ⟨_, h0⟩ | ⟨g, cap, cur, rfl, hb, _, h1, h2, _⟩
  · omega
  · exact ⟨g, cap, rfl, hb, h1, h2⟩
theorem HasRow.form (h : HasRow w base e size v n xs) : ∃ A cap, v = .slice A n cap ∧ n ≤ cap ∧ cap ≤ maxLen := by
  rcases h.2 with ⟨rfl, rfl⟩ | ⟨g, cap, cur, rfl, hb, _, h1, h2, _⟩
  · exact ⟨none, 0, rfl, Nat.le_refl _, Nat.zero_le _⟩
  · exact ⟨_, cap, rfl, h1, h2⟩

/-- Cut to its first k elements, with whatever capacity up to its own. -/
theorem HasRow.cut {g cap k c : Nat} (h : HasRow w base e size (.slice (some ⟨g, 0, none⟩) n cap) n xs) (hk : k ≤ n) (hc : k ≤ c) (hcc : c ≤ cap) : HasRow w base e size (.slice (some ⟨g, 0, none⟩) k c) k (xs.take (k * size)) := by
  rcases h.2 with ⟨h0, _⟩ | ⟨g', cap', cur, hv, hb, hg, h1, h2, h3, h4⟩
  · cases h0
  · cases hv
    have hks : k * size ≤ n * size := Nat.mul_le_mul_right _ hk
    refine ⟨by rw [List.length_take, h.1]; omega, .inr ⟨g, c, cur, rfl, hb, hg, hc, by omega, Nat.le_trans (Nat.mul_le_mul_right _ hcc) h3, ?_⟩⟩
    rw [← h4, List.take_take, Nat.min_eq_left hks]
end

section
variable {P : Program} (w : World)

theorem run_append_has (base : Nat) (t ty e : TypeId) (i : TypeInfo) (z : Value) (size bytes : Nat) (ht : P.underlying t = some (.slice e)) (hi : P.info? e = some i) (hz : i.zero = some z)
    (hsize : i.size = size) (hby : i.bytes = bytes) (hzs : z.cells.size = size)
    (v : Value) (n : Nat) (xs : List Value) (hown : HasRow w base e size v n xs)
    (a : Addr) (m c : Nat) (news : List Value) (hl : news.length = m * size) (hnews : ∀ j u, news[j]? = some u → w.cell? (a.add j) = some u) (h1 : ∀ u ∈ news, u.oneCell' = true) (hm : 0 < m)
    (h63 : n + m ≤ maxLen) (hbytes : (n + m) * bytes ≤ 140737488355328) (hbase : base ≤ w.heap.size) :
    ∃ v' w', (Builtin.append_ #[t, t] ty #[v, .slice (some a) m c]).run P w = .ok v' w' ∧ HasRow w' base e size v' (n + m) (xs ++ news) ∧ w.grownBy w' v.ownBlock ∧
      (v'.ownBlock = v.ownBlock ∨ v'.ownBlock = some w.heap.size) := by
  subst hsize
  subst hby
  have hsmall : n + m ≤ 9223372036854775807 := by simp only [maxLen] at h63; omega
  have hlen : (xs ++ news).length = (n + m) * i.size := by rw [List.length_append, hown.1, hl, Nat.add_mul]
  have grown : ∀ (old : Nat), old < n + m → ∀ (row : Option Nat),
      HasRow (w.drew.alloc (.cells (xs.toArray ++ news.toArray ++ Builtin.zeroCells z.cells (grownCap w (n + m) old e - (n + m))) e)) base e i.size
        (.slice (some ⟨w.heap.size, 0, none⟩) (n + m) (grownCap w (n + m) old e)) (n + m) (xs ++ news) ∧
      w.grownBy (w.drew.alloc (.cells (xs.toArray ++ news.toArray ++ Builtin.zeroCells z.cells (grownCap w (n + m) old e - (n + m))) e)) row := by
    intro old ho row
    have hge := grownCap_ge w (n + m) old e
    have hcm : grownCap w (n + m) old e ≤ maxLen := grownCap_le_maxLen w (n + m) old e h63
    refine ⟨⟨hlen, .inr ⟨w.heap.size, _, _, rfl, hbase, heap_alloc_new w.drew _, hge, hcm, ?_, ?_⟩⟩, ⟨rfl, rfl, rfl, by simp, fun k hk _ => Below.heap_alloc w.drew _ k hk⟩⟩
    · simp only [Array.size_append, List.size_toArray, size_zeroCells, hzs, hown.1, hl, ← Nat.add_mul]
      refine Nat.mul_le_mul_right _ ?_
      omega
    · simp only [Array.toList_append, List.append_assoc]
      rw [← List.append_assoc, ← hlen]
      exact List.take_left
  rcases hown.2 with ⟨rfl, rfl⟩ | ⟨g, cap, cur, rfl, hbg, hg, hnc, hcm, hcs, htake⟩
  · have hx : xs = [] := List.eq_nil_of_length_eq_zero (by simpa using hown.1)
    subst hx
    have hr := run_append_nil (P := P) w t ty e i z ht hi hz a m c news hl hnews (by omega) (by omega) (by have hb := hbytes; simp only [Nat.zero_add] at hb; omega)
    have hgr := grown 0 (by omega) (Value.ownBlock (.slice none 0 0))
    simp only [Nat.zero_add, List.nil_append, Array.empty_append] at hgr ⊢
    exact ⟨_, _, hr, hgr.1, hgr.2, .inr rfl⟩
  · by_cases hroom : n + m ≤ cap
    · have hfit : n * i.size + news.length ≤ cur.size := by rw [hl, ← Nat.add_mul]; exact Nat.le_trans (Nat.mul_le_mul_right _ hroom) hcs
      have hr := run_append_room (P := P) w t ty e i ht hi g n cap cur hg a m c news hl hnews h1 hroom hfit
      refine ⟨_, _, hr, ⟨hlen, .inr ⟨g, cap, _, rfl, hbg, setRow_heap w g cur _ e _ hg, hroom, hcm, ?_, ?_⟩⟩, ⟨rfl, rfl, rfl, by simp, fun k _ hk => setRow_other w g k _ (fun e => hk (by simp [Value.ownBlock, e]))⟩, .inl rfl⟩
      · simp only [List.size_toArray, List.length_append, List.length_take, List.length_drop, Array.length_toList]
        omega
      · rw [htake, ← hlen]
        exact List.take_left
    · have holds : ∀ j u, xs[j]? = some u → w.cell? ((⟨g, 0, none⟩ : Addr).add j) = some u := fun j u hu => by
        have hadd : (⟨g, 0, none⟩ : Addr).add j = ⟨g, j, none⟩ := by unfold Addr.add; split <;> simp_all
        rw [hadd]
        exact hown.cells (g := g) rfl j u hu
      have hr := run_append_grow (P := P) w t ty e i z ht hi hz ⟨g, 0, none⟩ n cap xs hown.1 holds a m c news hl hnews (by omega) (by omega) (growslice_fits (by omega) hbytes)
      have hgr := grown cap (by omega) (Value.ownBlock (.slice (some ⟨g, 0, none⟩) n cap))
      exact ⟨_, _, hr, hgr.1, hgr.2, .inr rfl⟩

theorem wpList_append_has {ops : Array Oper} {rest : List Oper} {o : Oper} {a : Act} {Q : Exit → Act → World → Prop} (hgd : o.guard = none) (s x : Operand) (t : TypeId)
    (ho : o.op = .call { callee := .builtin .append, args := #[s, x], argTypes := #[t, t] })
    (base : Nat) (e : TypeId) (i : TypeInfo) (z : Value) (size bytes : Nat) (ht : P.underlying t = some (.slice e)) (hi : P.info? e = some i) (hz : i.zero = some z)
    (hsize : i.size = size) (hby : i.bytes = bytes) (hzs : z.cells.size = size)
    (v : Value) (n : Nat) (xs : List Value) (hs : a.eval s = v) (hown : HasRow w base e size v n xs)
    (ad : Addr) (m c : Nat) (news : List Value) (hx : a.eval x = .slice (some ad) m c) (hl : news.length = m * size) (hnews : ∀ j u, news[j]? = some u → w.cell? (ad.add j) = some u) (h1 : ∀ u ∈ news, u.oneCell' = true) (hm : 0 < m)
    (h63 : n + m ≤ maxLen) (hbytes : (n + m) * bytes ≤ 140737488355328) (hbase : base ≤ w.heap.size)
    (h : ∀ v' w', HasRow w' base e size v' (n + m) (xs ++ news) → w.grownBy w' v.ownBlock → (v'.ownBlock = v.ownBlock ∨ v'.ownBlock = some w.heap.size) → wpList P ops Q rest (a.put o.dst v') w') : wpList P ops Q (o :: rest) a w := by
  refine wpList_plain hgd fun _ hK => ?_
  obtain ⟨v', w', hr, h2, h3, h4⟩ := run_append_has (P := P) w base t o.type e i z size bytes ht hi hz hsize hby hzs v n xs hown ad m c news hl hnews h1 hm h63 hbytes hbase
  unfold Oper.wp execOp
  simp only [ho, resolve, invoke, builtin, Sem.run_bind, Sem.run_pure, Result.andThen_ok, List.map_toArray, List.map_cons, List.map_nil, hs, hx, hr]
  exact hK _ _ (h v' w' h2 h3 h4)
end

/-! ### Blocks of one type -/
/-- Every block of the type T is as it was. -/
def KeepT (T : TypeId) (w x : World) : Prop := ∀ (b : Nat) (cur : Array Value), w.heap[b]? = some (Obj.cells cur T (0, 0)) → x.heap[b]? = some (Obj.cells cur T (0, 0))
theorem KeepT.refl (T : TypeId) (w : World) : KeepT T w w := fun _ _ h => h
theorem KeepT.trans {T : TypeId} {a b c : World} (h : KeepT T a b) (k : KeepT T b c) : KeepT T a c := fun i cur hi => k i cur (h i cur hi)
theorem KeepT.later {T : TypeId} {w x : World} (h : Later w x) : KeepT T w x := fun b cur hb => by
  rw [h.block b (Array.getElem?_eq_some_iff.1 hb).1]; exact hb
theorem KeepT.alloc {T : TypeId} (w : World) (o : Obj) : KeepT T w (w.alloc o) := KeepT.later ((Later.refl w).alloc o)
theorem KeepT.set {T T' : TypeId} {w : World} {a : Addr} {cur : Array Value} (ha : w.heap[a.block]? = some (.cells cur T' (0, 0))) (hne : T' ≠ T) (u : Value) : KeepT T w (w.setCell a u) := fun b c hb => by
  have hba : b ≠ a.block := fun e => by
    subst e
    rw [ha] at hb
    cases hb
    exact hne rfl
  rw [Below.heap_setCell _ _ _ _ hba]
  exact hb
theorem KeepT.grown {T T' : TypeId} {w x : World} {row : Option Nat} (h : w.grownBy x row) (hr : ∀ k, row = some k → ∃ cur, w.heap[k]? = some (.cells cur T' (0, 0))) (hne : T' ≠ T) : KeepT T w x := fun b c hb => by
  rw [h.block b (Array.getElem?_eq_some_iff.1 hb).1 (fun e => ?_)]
  · exact hb
  · obtain ⟨cur, hc⟩ := hr b e.symm
    rw [hc] at hb
    cases hb
    exact hne rfl

theorem heap_set_own {w : World} {M o : Nat} {cur : Array Value} {T : TypeId} (h : w.heap[M]? = some (.cells cur T (0, 0))) (u : Value) :
    (w.setCell ⟨M, o, none⟩ u).heap[M]? = some (.cells (cur.setIfInBounds o u) T (0, 0)) := by
  simp only [World.setCell]
  rw [Array.getElem?_modify]
  simp [h]

end Go.Proofs.Ytndefbecoahfhaa

/- How impl's matcher lies in memory. No walk in sight. -/
namespace Go.Proofs.Ytndefbecoahfhaa
open Go.RowKit

abbrev TG : TypeId := 74
abbrev TM : TypeId := 71
abbrev TC : TypeId := 78
abbrev TK : TypeId := 81

/-- A goal's nine cells. -/
abbrev goalCells (g : Goal) (kv nv : Value) : Array Value := #[.int .i64 g.kind, .int .i64 g.p.op, .string g.p.text, .int .i64 g.p.num, .int .i64 g.p.lo, .int .i64 g.p.hi, kv, .int .i64 g.fr, nv]
/-- A chain of goals; the patterns' kids lie where they lay in w0. -/
def GoalsAt (w0 w : World) : List Goal → Value → Prop
  | [], v => v = .pointer none
  | g :: gs, v => ∃ b kv nv, v = .pointer (some ⟨b, 0, none⟩) ∧ w.heap[b]? = some (.cells (goalCells g kv nv) TG (0, 0)) ∧ KidsIn w0 g.p kv ∧ GoalsAt w0 w gs nv
theorem GoalsAt.keep {w0 w x : World} (hk : KeepT TG w x) : ∀ (gs : List Goal) (v : Value), GoalsAt w0 w gs v → GoalsAt w0 x gs v
  | [], _, h => h
  | _ :: gs, _, h => by
    simp only [GoalsAt] at h ⊢
    obtain ⟨b, kv, nv, e, hb, hkid, hr⟩ := h
    exact ⟨b, kv, nv, e, hk b _ hb, hkid, GoalsAt.keep hk gs nv hr⟩

/-- A choice's four cells. -/
def ChoiceIs (w0 w : World) (c : Choice) (vs : List Value) : Prop :=
  (c.stop = true ∧ vs = [.bool true, .pointer none, .int .i64 0, .int .i64 0]) ∨
  (c.stop = false ∧ ∃ gv, vs = [.bool false, gv, .int .i64 c.at_, .int .i64 c.ncap] ∧ GoalsAt w0 w c.goals gv)
def ChoicesAre (w0 w : World) : List Choice → List Value → Prop
  | [], vs => vs = []
  | c :: cs, vs => ∃ a b, vs = a ++ b ∧ ChoiceIs w0 w c a ∧ ChoicesAre w0 w cs b
theorem ChoiceIs.keep {w0 w x : World} (hk : KeepT TG w x) {c : Choice} {vs : List Value} (h : ChoiceIs w0 w c vs) : ChoiceIs w0 x c vs := by
  rcases h with h | ⟨h1, gv, h2, h3⟩
  · exact .inl h
  · exact .inr ⟨h1, gv, h2, h3.keep hk⟩
theorem ChoicesAre.keep {w0 w x : World} (hk : KeepT TG w x) : ∀ (cs : List Choice) (vs : List Value), ChoicesAre w0 w cs vs → ChoicesAre w0 x cs vs
  | [], _, h => h
  | _ :: cs, _, h => by
    simp only [ChoicesAre] at h ⊢
    obtain ⟨a, b, e, h1, h2⟩ := h
    exact ⟨a, b, e, h1.keep hk, ChoicesAre.keep hk cs b h2⟩
theorem ChoiceIs.len {w0 w : World} {c : Choice} {vs : List Value} (h : ChoiceIs w0 w c vs) : vs.length = 4 := by
  rcases h with ⟨_, rfl⟩ | ⟨_, gv, rfl, _⟩ <;> rfl
theorem ChoicesAre.len {w0 w : World} : ∀ (cs : List Choice) (vs : List Value), ChoicesAre w0 w cs vs → vs.length = cs.length * 4
  | [], _, h => by simp only [ChoicesAre] at h; subst h; rfl
  | c :: cs, _, h => by
    simp only [ChoicesAre] at h
    obtain ⟨a, b, rfl, h1, h2⟩ := h
    rw [List.length_append, h1.len, ChoicesAre.len cs b h2, List.length_cons]
    omega
theorem ChoicesAre.push {w0 w : World} {c : Choice} {vc : List Value} (hc : ChoiceIs w0 w c vc) : ∀ (cs : List Choice) (vs : List Value), ChoicesAre w0 w cs vs → ChoicesAre w0 w (cs ++ [c]) (vs ++ vc)
  | [], _, h => by
    simp only [ChoicesAre] at h
    subst h
    exact ⟨vc, [], by simp, hc, rfl⟩
  | _ :: cs, _, h => by
    simp only [ChoicesAre, List.cons_append] at h ⊢
    obtain ⟨a, b, rfl, h1, h2⟩ := h
    exact ⟨a, b ++ vc, by simp, h1, ChoicesAre.push hc cs b h2⟩
theorem ChoicesAre.pop {w0 w : World} {c : Choice} : ∀ (cs : List Choice) (vs : List Value), ChoicesAre w0 w (cs ++ [c]) vs → ∃ a b, vs = a ++ b ∧ ChoicesAre w0 w cs a ∧ ChoiceIs w0 w c b
  | [], vs, h => by
    simp only [List.nil_append, ChoicesAre] at h
    obtain ⟨a, b, rfl, h1, rfl⟩ := h
    exact ⟨[], a, by simp, rfl, h1⟩
  | d :: cs, vs, h => by
    simp only [List.cons_append, ChoicesAre] at h
    obtain ⟨a, b, rfl, h1, h2⟩ := h
    obtain ⟨a', b', rfl, h3, h4⟩ := ChoicesAre.pop cs b h2
    exact ⟨a ++ a', b', by simp, ⟨a, a', rfl, h1, h3⟩, h4⟩

/-- The cells of captures. -/
def capCells : List Cap → List Value
  | [] => []
  | c :: cs => [.int .i64 c.var, .int .i64 c.fr, .int .i64 c.to] ++ capCells cs
theorem capCells_append : ∀ (a b : List Cap), capCells (a ++ b) = capCells a ++ capCells b
  | [], b => rfl
  | c :: a, b => by simp only [List.cons_append, capCells, capCells_append a b, List.append_assoc]
theorem capCells_len : ∀ (a : List Cap), (capCells a).length = a.length * 3
  | [] => rfl
  | c :: a => by simp only [capCells, List.length_append, capCells_len a, List.length_cons, List.length_nil]; omega
theorem capCells_take (a : List Cap) (k : Nat) : (capCells a).take (k * 3) = capCells (a.take k) := by
  induction a generalizing k with
  | nil => simp [capCells]
  | cons c a ih =>
    cases k with
    | zero => simp [capCells]
    | succ k =>
      rw [show (k + 1) * 3 = k * 3 + 3 by omega]
      simp only [capCells, List.cons_append, List.nil_append, List.take_succ_cons, ih]

/-- The matcher's twelve cells. -/
abbrev mCells (dv : Value) (s : ByteArray) (at_ n : Nat) (cv ev hv : Value) : Array Value :=
  #[dv, .string s, .int .i64 at_, .bool false, .bool false, .bool false, .int .i64 0, .int .i64 0, .int .i64 n, cv, ev, hv]
/-- The matcher at block M, n steps in. -/
structure ImplAt (w0 w : World) (M : Nat) (dv : Value) (s : ByteArray) (n : Nat) (m : Mst) (cv ev hv : Value) (hs : List Value) : Prop where
  blk : w.heap[M]? = some (.cells (mCells dv s m.at_ n cv ev hv) TM (0, 0))
  base : w0.heap.size ≤ M
  caps : HasRow w w0.heap.size TK 3 cv m.caps.length (capCells m.caps)
  evs : HasRow w w0.heap.size TK 3 ev m.events.length (capCells m.events)
  chs : HasRow w w0.heap.size TC 4 hv m.choices.length hs
  are : ChoicesAre w0 w m.choices hs
  apart : cv.ownBlock = none ∨ cv.ownBlock ≠ ev.ownBlock
  below : Below w0.heap.size w0 w

theorem ImplAt.later {w0 w x : World} {M : Nat} {dv : Value} {s : ByteArray} {n : Nat} {m : Mst} {cv ev hv : Value} {hs : List Value} (h : ImplAt w0 w M dv s n m cv ev hv hs) (hl : Later w x) : ImplAt w0 x M dv s n m cv ev hv hs := by
  obtain ⟨h1, h2, h3, h4, h5, h6, h7, h8⟩ := h
  have hM := (Array.getElem?_eq_some_iff.1 h1).1
  exact ⟨(hl.block M hM).trans h1, h2, h3.same fun k hk => hl.block k (h3.lt k hk).2.1, h4.same fun k hk => hl.block k (h4.lt k hk).2.1, h5.same fun k hk => hl.block k (h5.lt k hk).2.1,
    h6.keep (KeepT.later hl) _ _, h7, h8.trans (Below.mono hl h8.size)⟩

end Go.Proofs.Ytndefbecoahfhaa

/- How impl's matcher changes in memory. No walk in sight. -/
namespace Go.Proofs.Ytndefbecoahfhaa
open Go.RowKit

section
variable {w0 w : World} {M : Nat} {dv : Value} {s : ByteArray} {n : Nat} {m : Mst} {cv ev hv : Value} {hs : List Value}

theorem ne_of_type {w : World} {a b : Nat} {c d : Array Value} {T T' : TypeId} (ha : w.heap[a]? = some (.cells c T (0, 0))) (hb : w.heap[b]? = some (.cells d T' (0, 0))) (h : T ≠ T') : a ≠ b := fun e => by
  subst e
  rw [ha] at hb
  cases hb
  exact h rfl

/-- A write into the matcher's own block. -/
theorem ImplAt.set {cur : Array Value} {k : Nat} {u : Value} (hb : w.heap[M]? = some (.cells cur TM (0, 0))) (he : cur.setIfInBounds k u = mCells dv s m.at_ n cv ev hv) (base : w0.heap.size ≤ M)
    (caps : HasRow w w0.heap.size TK 3 cv m.caps.length (capCells m.caps)) (evs : HasRow w w0.heap.size TK 3 ev m.events.length (capCells m.events)) (chs : HasRow w w0.heap.size TC 4 hv m.choices.length hs)
    (are : ChoicesAre w0 w m.choices hs) (apart : cv.ownBlock = none ∨ cv.ownBlock ≠ ev.ownBlock) (below : Below w0.heap.size w0 w) : ImplAt w0 (w.setCell ⟨M, k, none⟩ u) M dv s n m cv ev hv hs := by
  have other : ∀ {e : TypeId} {size : Nat} {v : Value} {l : Nat} {xs : List Value}, HasRow w w0.heap.size e size v l xs → e ≠ TM → HasRow (w.setCell ⟨M, k, none⟩ u) w0.heap.size e size v l xs := fun h hne =>
    h.same fun b hbk => by
      obtain ⟨_, _, c, hc⟩ := h.lt b hbk
      exact Below.heap_setCell _ _ _ _ (ne_of_type hc hb hne)
  exact ⟨by rw [heap_set_own hb, he], base, other caps (by decide), other evs (by decide), other chs (by decide), are.keep (KeepT.set hb (by decide) u) _ _, apart, below.setCell base u⟩

/-- What an append to the events leaves. -/
theorem ImplAt.grownE (h : ImplAt w0 w M dv s n m cv ev hv hs) {w' : World} (hg : w.grownBy w' ev.ownBlock) :
    w'.heap[M]? = some (.cells (mCells dv s m.at_ n cv ev hv) TM (0, 0)) ∧ HasRow w' w0.heap.size TK 3 cv m.caps.length (capCells m.caps) ∧ HasRow w' w0.heap.size TC 4 hv m.choices.length hs ∧ ChoicesAre w0 w' m.choices hs ∧ KeepT TG w w' ∧ Below w0.heap.size w0 w' := by
  obtain ⟨h1, h2, h3, h4, h5, h6, h7, h8⟩ := h
  have hk : KeepT TG w w' := KeepT.grown hg (fun k hk => (h4.lt k hk).2.2) (by decide)
  refine ⟨?_, ?_, ?_, h6.keep hk _ _, hk, h8.grown hg h8.size (fun k hk => (h4.lt k hk).1)⟩
  · rw [hg.block M (Array.getElem?_eq_some_iff.1 h1).1 (fun e => by obtain ⟨_, _, c, hc⟩ := h4.lt M e.symm; exact ne_of_type hc h1 (by decide) rfl)]
    exact h1
  · exact h3.same fun b hb => hg.block b (h3.lt b hb).2.1 (fun e => by
      rcases h7 with h7 | h7
      · rw [h7] at hb; cases hb
      · exact h7 (hb.trans e))
  · exact h5.same fun b hb => hg.block b (h5.lt b hb).2.1 (fun e => by
      obtain ⟨_, _, c, hc⟩ := h4.lt b e.symm
      obtain ⟨_, _, d, hd⟩ := h5.lt b hb
      exact ne_of_type hc hd (by decide) rfl)

/-- What an append to the captures leaves. -/
theorem ImplAt.grownC (h : ImplAt w0 w M dv s n m cv ev hv hs) {w' : World} (hg : w.grownBy w' cv.ownBlock) :
    w'.heap[M]? = some (.cells (mCells dv s m.at_ n cv ev hv) TM (0, 0)) ∧ HasRow w' w0.heap.size TK 3 ev m.events.length (capCells m.events) ∧ HasRow w' w0.heap.size TC 4 hv m.choices.length hs ∧ ChoicesAre w0 w' m.choices hs ∧ KeepT TG w w' ∧ Below w0.heap.size w0 w' := by
  obtain ⟨h1, h2, h3, h4, h5, h6, h7, h8⟩ := h
  have hk : KeepT TG w w' := KeepT.grown hg (fun k hk => (h3.lt k hk).2.2) (by decide)
  refine ⟨?_, ?_, ?_, h6.keep hk _ _, hk, h8.grown hg h8.size (fun k hk => (h3.lt k hk).1)⟩
  · rw [hg.block M (Array.getElem?_eq_some_iff.1 h1).1 (fun e => by obtain ⟨_, _, c, hc⟩ := h3.lt M e.symm; exact ne_of_type hc h1 (by decide) rfl)]
    exact h1
  · exact h4.same fun b hb => hg.block b (h4.lt b hb).2.1 (fun e => by
      rcases h7 with h7 | h7
      · rw [h7] at e; cases e
      · exact h7 (e.symm.trans hb.symm))
  · exact h5.same fun b hb => hg.block b (h5.lt b hb).2.1 (fun e => by
      obtain ⟨_, _, c, hc⟩ := h3.lt b e.symm
      obtain ⟨_, _, d, hd⟩ := h5.lt b hb
      exact ne_of_type hc hd (by decide) rfl)

/-- What an append to the choices leaves. -/
theorem ImplAt.grownH (h : ImplAt w0 w M dv s n m cv ev hv hs) {w' : World} (hg : w.grownBy w' hv.ownBlock) :
    w'.heap[M]? = some (.cells (mCells dv s m.at_ n cv ev hv) TM (0, 0)) ∧ HasRow w' w0.heap.size TK 3 cv m.caps.length (capCells m.caps) ∧ HasRow w' w0.heap.size TK 3 ev m.events.length (capCells m.events) ∧ ChoicesAre w0 w' m.choices hs ∧ KeepT TG w w' ∧ Below w0.heap.size w0 w' := by
  obtain ⟨h1, h2, h3, h4, h5, h6, h7, h8⟩ := h
  have hk : KeepT TG w w' := KeepT.grown hg (fun k hk => (h5.lt k hk).2.2) (by decide)
  refine ⟨?_, ?_, ?_, h6.keep hk _ _, hk, h8.grown hg h8.size (fun k hk => (h5.lt k hk).1)⟩
  · rw [hg.block M (Array.getElem?_eq_some_iff.1 h1).1 (fun e => by obtain ⟨_, _, c, hc⟩ := h5.lt M e.symm; exact ne_of_type hc h1 (by decide) rfl)]
    exact h1
  · exact h3.same fun b hb => hg.block b (h3.lt b hb).2.1 (fun e => by
      obtain ⟨_, _, c, hc⟩ := h5.lt b e.symm
      obtain ⟨_, _, d, hd⟩ := h3.lt b hb
      exact ne_of_type hc hd (by decide) rfl)
  · exact h4.same fun b hb => hg.block b (h4.lt b hb).2.1 (fun e => by
      obtain ⟨_, _, c, hc⟩ := h5.lt b e.symm
      obtain ⟨_, _, d, hd⟩ := h4.lt b hb
      exact ne_of_type hc hd (by decide) rfl)

end
end Go.Proofs.Ytndefbecoahfhaa

/- impl's choose. Printed by gen_choose.py. -/
namespace Go.Proofs.Ytndefbecoahfhaa
open Go.RowKit

theorem GoalsAt.ptr {w0 w : World} {gs : List Goal} {v : Value} (h : GoalsAt w0 w gs v) : ∃ p, v = .pointer p := by
  cases gs with
  | nil => exact ⟨none, h⟩
  | cons g gs => obtain ⟨b, _, _, rfl, _⟩ := h; exact ⟨_, rfl⟩

theorem cells_four (w : World) (a b c d : Value) (t : TypeId) : ∀ j u, [a, b, c, d][j]? = some u → (w.alloc (.cells #[a, b, c, d] t)).cell? ((⟨w.heap.size, 0, none⟩ : Addr).add j) = some u := by
  intro j u hj
  match j, hj with
  | 0, hj => simp at hj; subst hj; simp [Addr.add]
  | 1, hj => simp at hj; subst hj; simp [Addr.add]
  | 2, hj => simp at hj; subst hj; simp [Addr.add]
  | 3, hj => simp at hj; subst hj; simp [Addr.add]
  | j + 4, hj => simp at hj
theorem infoC : (Try.prog.info? TC).map (fun i => (i.zero, i.size, i.bytes)) = some (some (.agg #[.bool false, .pointer none, .int .i64 0, .int .i64 0]), 4, 32) := by kernel_rfl


set_option maxRecDepth 100000 in
set_option maxHeartbeats 1000000 in
theorem choose_any (w0 w : World) (M : Nat) (dv : Value) (s : ByteArray) (n : Nat) (m : Mst) (cv ev hv : Value) (hs : List Value) (gs : List Goal) (gv : Value) (at_ : Nat)
    (h : ImplAt w0 w M dv s n m cv ev hv hs) (hg : GoalsAt w0 w gs gv) (hn : m.choices.length ≤ 5000) :
    Calls Try.prog 91 #[.pointer (some ⟨M, 0, none⟩), gv, .int .i64 at_] w fun e w' => e = .returned (.tuple #[]) ∧ ∃ hv' hs', ImplAt w0 w' M dv s n (m.choose gs at_) cv ev hv' hs' ∧ ∀ T, TC ≠ T → TM ≠ T → KeepT T w w' := by
  have hblk := h.blk
  have hMlt : M < w.heap.size := (Array.getElem?_eq_some_iff.1 hblk).1
  obtain ⟨CA, cc, rfl, _, _⟩ := h.caps.form
  obtain ⟨pp, rfl⟩ := hg.ptr
  have HI := Lib.hid h
  have HG := Lib.hid hg
  clear h hg
  go_enter Try.func91, Try.ntmps91
  -- region 0: 19 operations, the last [15, 16, 17, 18]
  refine wpU_begin [15, 16, 17, 18] [0] (by kernel_rfl) (fun w1 hw1 => ?_)
  subst hw1
  refine wpU_pure 0 (some 6) (v := ?_) rfl rfl (by kernel_rfl) (fun _ _ _ h => h) rfl (fun x => ?_) ?_
  rotate_left 1
  · go_simp; first | done | with_reducible rfl | rw [if_neg (by omega)] | rw [if_pos (by omega)]
  simp only [Act.put, nA, nB, nC]
  refine wpU_take 1 (some 7) (v := ?_) rfl rfl (by kernel_rfl) (fun _ _ _ h => h) rfl (fun x hx => ?_) ?_
  rotate_left 1
  · have hxM := (hx.block M hMlt).trans hblk; have hx9 := cell_of_row x M 9 _ _ _ hxM; have hx11 := cell_of_row x M 11 _ _ _ hxM; simp at hx9 hx11; go_simp; first | done | with_reducible rfl | rw [if_neg (by omega)] | rw [if_pos (by omega)]
  simp only [Act.put, nA, nB, nC]
  refine wpU_take 2 (some 8) (v := ?_) rfl rfl (by kernel_rfl) (fun _ _ _ h => h) rfl (fun x hx => ?_) ?_
  rotate_left 1
  · have hxM := (hx.block M hMlt).trans hblk; have hx9 := cell_of_row x M 9 _ _ _ hxM; have hx11 := cell_of_row x M 11 _ _ _ hxM; simp at hx9 hx11; go_simp; first | done | with_reducible rfl | rw [if_neg (by omega)] | rw [if_pos (by omega)]
  simp only [Act.put, nA, nB, nC]
  refine wpU_take 3 (some 9) (v := ?_) rfl rfl (by kernel_rfl) (fun _ _ _ h => h) rfl (fun x hx => ?_) ?_
  rotate_left 1
  · have hxM := (hx.block M hMlt).trans hblk; have hx9 := cell_of_row x M 9 _ _ _ hxM; have hx11 := cell_of_row x M 11 _ _ _ hxM; simp at hx9 hx11; go_simp; first | done | with_reducible rfl | rw [if_neg (by omega)] | rw [if_pos (by omega)]
  simp only [Act.put, nA, nB, nC]
  refine wpU_take 4 (some 10) (v := ?_) rfl rfl (by kernel_rfl) (fun _ _ _ h => h) rfl (fun x hx => ?_) ?_
  rotate_left 1
  · have hxM := (hx.block M hMlt).trans hblk; have hx9 := cell_of_row x M 9 _ _ _ hxM; have hx11 := cell_of_row x M 11 _ _ _ hxM; simp at hx9 hx11; go_simp; first | done | with_reducible rfl | rw [if_neg (by omega)] | rw [if_pos (by omega)]
  simp only [Act.put, nA, nB, nC]
  refine wpU_take 5 (some 11) (v := ?_) rfl rfl (by kernel_rfl) (fun _ _ _ h => h) rfl (fun x hx => ?_) ?_
  rotate_left 1
  · have hxM := (hx.block M hMlt).trans hblk; have hx9 := cell_of_row x M 9 _ _ _ hxM; have hx11 := cell_of_row x M 11 _ _ _ hxM; simp at hx9 hx11; go_simp; first | done | with_reducible rfl | rw [if_neg (by omega)] | rw [if_pos (by omega)]
  simp only [Act.put, nA, nB, nC]
  refine wpU_take 6 (some 12) (v := ?_) rfl rfl (by kernel_rfl) (fun _ _ _ h => h) rfl (fun x hx => ?_) ?_
  rotate_left 1
  · have hxM := (hx.block M hMlt).trans hblk; have hx9 := cell_of_row x M 9 _ _ _ hxM; have hx11 := cell_of_row x M 11 _ _ _ hxM; simp at hx9 hx11; go_simp; first | done | with_reducible rfl | rw [if_neg (by omega)] | rw [if_pos (by omega)]
  simp only [Act.put, nA, nB, nC]
  refine wpU_take 7 (some 13) (v := ?_) rfl rfl (by kernel_rfl) (fun _ _ _ h => h) rfl (fun x hx => ?_) ?_
  rotate_left 1
  · have hxM := (hx.block M hMlt).trans hblk; have hx9 := cell_of_row x M 9 _ _ _ hxM; have hx11 := cell_of_row x M 11 _ _ _ hxM; simp at hx9 hx11; go_simp; first | done | with_reducible rfl | rw [if_neg (by omega)] | rw [if_pos (by omega)]
  simp only [Act.put, nA, nB, nC]
  refine wpU_take 8 (some 14) (v := ?_) rfl rfl (by kernel_rfl) (fun _ _ _ h => h) rfl (fun x hx => ?_) ?_
  rotate_left 1
  · have hxM := (hx.block M hMlt).trans hblk; have hx9 := cell_of_row x M 9 _ _ _ hxM; have hx11 := cell_of_row x M 11 _ _ _ hxM; simp at hx9 hx11; go_simp; first | done | with_reducible rfl | rw [if_neg (by omega)] | rw [if_pos (by omega)]
  simp only [Act.put, nA, nB, nC]
  refine wpU_take 9 (some 15) (v := ?_) rfl rfl (by kernel_rfl) (fun _ _ _ h => h) rfl (fun x hx => ?_) ?_
  rotate_left 1
  · have hxM := (hx.block M hMlt).trans hblk; have hx9 := cell_of_row x M 9 _ _ _ hxM; have hx11 := cell_of_row x M 11 _ _ _ hxM; simp at hx9 hx11; go_simp; first | done | with_reducible rfl | rw [if_neg (by omega)] | rw [if_pos (by omega)]
  simp only [Act.put, nA, nB, nC]
  refine wpU_take 10 (some 16) (v := ?_) rfl rfl (by kernel_rfl) (fun _ _ _ h => h) rfl (fun x hx => ?_) ?_
  rotate_left 1
  · have hxM := (hx.block M hMlt).trans hblk; have hx9 := cell_of_row x M 9 _ _ _ hxM; have hx11 := cell_of_row x M 11 _ _ _ hxM; simp at hx9 hx11; go_simp; first | done | with_reducible rfl | rw [if_neg (by omega)] | rw [if_pos (by omega)]
  simp only [Act.put, nA, nB, nC]
  refine wpU_take 11 (some 17) (v := ?_) rfl rfl (by kernel_rfl) (fun _ _ _ h => h) rfl (fun x hx => ?_) ?_
  rotate_left 1
  · have hxM := (hx.block M hMlt).trans hblk; have hx9 := cell_of_row x M 9 _ _ _ hxM; have hx11 := cell_of_row x M 11 _ _ _ hxM; simp at hx9 hx11; go_simp; first | done | with_reducible rfl | rw [if_neg (by omega)] | rw [if_pos (by omega)]
  simp only [Act.put, nA, nB, nC]
  refine wpU_take 12 (some 18) (v := ?_) rfl rfl (by kernel_rfl) (fun _ _ _ h => h) rfl (fun x hx => ?_) ?_
  rotate_left 1
  · have hxM := (hx.block M hMlt).trans hblk; have hx9 := cell_of_row x M 9 _ _ _ hxM; have hx11 := cell_of_row x M 11 _ _ _ hxM; simp at hx9 hx11; go_simp; first | done | with_reducible rfl | rw [if_neg (by omega)] | rw [if_pos (by omega)]
  simp only [Act.put, nA, nB, nC]
  refine wpU_take 13 (some 19) (v := ?_) rfl rfl (by kernel_rfl) (fun _ _ _ h => h) rfl (fun x hx => ?_) ?_
  rotate_left 1
  · have hxM := (hx.block M hMlt).trans hblk; have hx9 := cell_of_row x M 9 _ _ _ hxM; have hx11 := cell_of_row x M 11 _ _ _ hxM; simp at hx9 hx11; go_simp; first | done | with_reducible rfl | rw [if_neg (by omega)] | rw [if_pos (by omega)]
  simp only [Act.put, nA, nB, nC]
  refine wpU_step 14 (by kernel_rfl) rfl rfl ?_  -- buildSlice 
  go_wp2_with fail
  refine ⟨(Later.refl _).alloc _, ?_⟩
  refine wpU_last [_, _, _, _] (by kernel_rfl) rfl rfl ?_
  simp only [List.getElem_toArray, List.getElem_cons_succ, List.getElem_cons_zero]
  obtain ⟨i, hi, hz0, hz1, hz2⟩ := info_parts infoC
  refine wpList_append_has _ rfl _ _ _ rfl w0.heap.size TC i _ 4 32 Try.underlying69 hi hz0 hz1 hz2 rfl _ m.choices.length hs rfl ((HI.out.later ((Later.refl _).alloc _)).chs) _ 1 1 [.bool false, .pointer pp, .int .i64 at_, .int .i64 m.caps.length] rfl rfl ?_ ?_ (by omega) ?_ ?_ ?_ ?_
  · exact cells_four _ _ _ _ _ _
  · intro u hu
    simp only [List.mem_cons, List.not_mem_nil, or_false] at hu
    rcases hu with rfl | rfl | rfl | rfl <;> rfl
  · simp only [maxLen]; omega
  · omega
  · exact (HI.out.later ((Later.refl w).drew.alloc _)).below.size
  · intro v' w' hrow hgrow hblock
    obtain ⟨vA, vc, rfl, _, _⟩ := hrow.form
    have HI' := Lib.hid (HI.out.later ((Later.refl w).drew.alloc (Obj.cells #[.bool false, .pointer pp, .int .i64 at_, .int .i64 m.caps.length] TC)))
    have HN := Lib.hid (HI'.out.grownH hgrow)
    have hM' := HN.out.1
    have hc11 := cell_of_row w' M 11 _ _ _ hM'
    simp at hc11
    have hf11 := frozen_of_row w' M 11 _ _ hM'
    have HM := Lib.hid hM'
    have HKT := Lib.hid (fun (T : TypeId) (hT : TC ≠ T) => (KeepT.later (T := T) ((Later.refl w).drew.alloc _)).trans (KeepT.grown hgrow (fun k hk => (HI'.out.chs.lt k hk).2.2) hT))
    have HR := Lib.hid hrow
    clear hM' hrow hgrow hblock
    go_wp2_with fail
    go_end0
    have hkeep : KeepT TG w w' := (KeepT.later ((Later.refl w).drew.alloc _)).trans HN.out.2.2.2.2.1
    refine ⟨rfl, _, hs ++ [.bool false, .pointer pp, .int .i64 at_, .int .i64 m.caps.length], ImplAt.set (m := m.choose gs at_) HM.out rfl HI'.out.base HN.out.2.1 HN.out.2.2.1 (by simpa [Mst.choose] using HR.out) ?_ HI'.out.apart HN.out.2.2.2.2.2, fun T h1 h2 => (HKT.out T h1).trans (KeepT.set (a := ⟨M, 11, none⟩) HM.out h2 _)⟩
    exact ChoicesAre.push (.inr ⟨rfl, _, rfl, HG.out.keep hkeep _ _⟩) _ _ HN.out.2.2.2.1

end Go.Proofs.Ytndefbecoahfhaa
