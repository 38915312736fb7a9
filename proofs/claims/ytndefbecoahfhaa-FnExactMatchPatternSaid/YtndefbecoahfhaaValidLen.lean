/- The walk of impl.validPattern, len. Printed by gen_valid.py. -/
import Derived.Test.YtndefbecoahfhaaValidBase
namespace Go.Proofs.Ytndefbecoahfhaa
open Go.RowKit

set_option maxRecDepth 100000 in
set_option maxHeartbeats 2000000 in
theorem validPattern_len_bad (op : Int) (text : ByteArray) (num lo hi : Int) (kids : List Pat) (A : Option Addr) (c : Nat) (w : World) (n : Int) (hop : 2 ≤ op ∧ op ≤ 6) (hk : (kids.length : Int) = kidsOf op)
    (hok : ¬ (text.toList = [] ∧ 0 ≤ num ∧ num ≤ 120 ∧ lo = 0 ∧ hi = 0)) :
    Calls Try.prog 90 #[patV op text num lo hi (.slice A kids.length c), .int .i64 n] w fun e w' => e = .returned (.bool false) ∧ Below w.heap.size w w' := by
  have g1 : decide (op < 1) = false := by simp; omega
  have g2 : decide (23 < op) = false := by simp; omega
  have g3 : ((kids.length : Int) != kidsOf op) = false := by simp [hk]
  clear hk
  have h1 : (op == 1) = false := by simp; omega
  obtain ⟨h2, h3⟩ := hop
  have HB := Lib.hid hok
  clear hok
  all_goals
    go_enter Try.func90, Try.ntmps90
    go_wp2_with fail
    go_quiet ((go_at_call 97; exact quiet_left (patternKids_any _ _)))
    go_wp2_with fail
  all_goals first | (go_ret; exact ⟨rfl, later_drewN ((Below.refl _ _).alloc (Nat.le_refl _) _) _⟩) | (exfalso; exact HB.out ⟨(by first | rfl | assumption | omega), (by first | rfl | assumption | omega), (by first | rfl | assumption | omega), (by first | rfl | assumption | omega), (by first | rfl | assumption | omega)⟩)


set_option maxRecDepth 100000 in
set_option maxHeartbeats 2000000 in
theorem validPattern_len_good (op : Int) (text : ByteArray) (num lo hi : Int) (kids : List Pat) (A : Option Addr) (c : Nat) (w : World) (n : Int) (hop : 2 ≤ op ∧ op ≤ 6) (hk : (kids.length : Int) = kidsOf op) (hn : kids.length ≤ 1099511627776)
    (IH : Hid (∀ j (h : j < kids.length) kv w, KidsIn w kids[j] kv → Calls Try.prog 90 #[kids[j].v kv, .int .i64 n] w fun e w' => e = .returned (.bool (valid kids[j] n)) ∧ Below w.heap.size w w'))
    (hrow : RowIn w A 0 kids) (hok : (text.toList = [] ∧ 0 ≤ num ∧ num ≤ 120 ∧ lo = 0 ∧ hi = 0)) :
    Calls Try.prog 90 #[patV op text num lo hi (.slice A kids.length c), .int .i64 n] w fun e w' => e = .returned (.bool (validAll kids n)) ∧ Below w.heap.size w w' := by
  have g1 : decide (op < 1) = false := by simp; omega
  have g2 : decide (23 < op) = false := by simp; omega
  have g3 : ((kids.length : Int) != kidsOf op) = false := by simp [hk]
  clear hk
  have h1 : (op == 1) = false := by simp; omega
  obtain ⟨h2, h3⟩ := hop
  obtain ⟨o0, o1, o2, o3, o4⟩ := hok
  subst o3
  subst o4
  all_goals
    go_enter Try.func90, Try.ntmps90
    go_wp2_with fail
    go_quiet ((go_at_call 97; exact quiet_left (patternKids_any _ _)))
    go_wp2_with fail
  all_goals
    go_loopw [112] (fun i wr => ∃ j : Nat, j ≤ kids.length ∧ i = .int .i64 j ∧ (∀ i (h : i < j) (h2 : i < kids.length), valid kids[i] n = true) ∧ RowIn wr A 0 kids ∧ Below w.heap.size w wr) (fun i _ => kids.length - (intOf i).toNat)
    case atStart => exact ⟨0, Nat.zero_le _, rfl, by intro i h; omega, RowIn.later (later_drewN ((Later.refl w).alloc _) _) A 0 _ hrow, later_drewN ((Below.refl _ _).alloc (Nat.le_refl _) _) _⟩
    case round =>
      obtain ⟨j, hj, rfl, hall, hr, hbel⟩ := hrel
      have HA := Lib.hid hall
      clear hall
      have hsz := hbel.size
      by_cases hlt : j < kids.length
      · obtain ⟨g, kv', rfl, hg, he, hkid⟩ := rowOf wr kids hr hlt
        obtain ⟨A', c', rfl, _, _⟩ := hkid.form
        obtain ⟨e0, e1, e2, e3, e4, e5⟩ := he
        have hlt' : (j : Int) < kids.length := by omega
        have HKid := Lib.hid hkid
        have HR := Lib.hid hr
        clear hkid hr
        go_wp2_with fail
        refine (IH.out j hlt _ _ (KidsIn.later ((Later.refl wr).alloc _) _ _ HKid.out)).mono ?_
        rintro e w2 ⟨rfl, hb2⟩
        have hb3 : Below w.heap.size w w2 := (hbel.alloc hsz _).trans (Below.mono hb2 (by simp; omega))
        have hr2 := RowIn.later (Later.trans ((Later.refl wr).alloc _) hb2) _ 0 _ HR.out
        have HR2 := Lib.hid hr2
        clear hr2 hb2
        cases hvj : valid kids[j] n with
        | false =>
          have HF := Lib.hid (validAll_false kids n j hlt hvj)
          clear hvj
          go_wp2_with fail
          go_ret
          exact ⟨ret_bool HF.out.symm, hb3⟩
        | true =>
          have HJ := Lib.hid hvj
          clear hvj
          go_wp2_with fail
          go_roundw
          case rel => exact ⟨j + 1, by omega, by go_num, fun i hi hi2 => (by
            by_cases hij : i = j
            · subst hij; exact HJ.out
            · exact HA.out i (by omega) hi2), HR2.out, hb3⟩
          case measure => simp [intOf]; omega
      · go_wp2_with fail
        go_ret
        exact ⟨ret_bool ((validAll_iff kids n).2 (fun i hi => HA.out i (by omega) hi)).symm, hbel⟩

end Go.Proofs.Ytndefbecoahfhaa
