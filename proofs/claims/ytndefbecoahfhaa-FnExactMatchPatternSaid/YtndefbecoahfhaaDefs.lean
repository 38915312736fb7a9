/- spec.IsValidPattern, validDefinitions, l18Defs. -/
import Derived.Test.YtndefbecoahfhaaSValid
namespace Go.Proofs.Ytndefbecoahfhaa
open Go.RowKit

set_option maxRecDepth 100000 in
set_option maxHeartbeats 1000000 in
theorem specValid_any (p : Pat) (kv : Value) (w : World) (n : Int) (hc : count p ≤ 1099511627776) (hin : KidsIn w p kv) :
    Calls Try.prog 69 #[p.v kv, .int .i64 n] w fun e w' => e = .returned (.bool (validP p n)) ∧ Below w.heap.size w w' := by
  obtain ⟨A, c, rfl, _, _⟩ := hin.form
  have HIN := Lib.hid hin
  have hc' : (count p : Int) ≤ 1099511627776 := by omega
  have HL := Lib.hid (left_nonneg p 300 (by omega))
  clear hin
  obtain ⟨L, hL⟩ : ∃ L, left p 300 = L := ⟨_, rfl⟩
  have HE := Lib.hid hL
  clear hL
  by_cases h0 : 0 ≤ n
  · by_cases h1 : n ≤ 24
    · by_cases h2 : (count p : Int) ≤ 300
      · have HV := Lib.hid (validP_eq p n h0 h1 h2)
        have h3 : 0 ≤ L := by rw [← HE.out]; exact HL.out.2 h2
        go_enter Try.func69, Try.ntmps69
        go_wp2_with fail
        refine (left_any (count p) p _ _ 300 (Nat.le_refl _) hc (by omega) (by omega) (KidsIn.later ((Later.refl w).alloc _) _ _ HIN.out)).mono ?_
        rintro e w2 ⟨rfl, hb2⟩
        rw [HE.out]
        have hN : w.heap.size < w2.heap.size := Nat.lt_of_lt_of_le (by simp) hb2.size
        have hcell : ∀ k, w2.cell? ⟨w.heap.size, k, none⟩ = (w.alloc _).cell? ⟨w.heap.size, k, none⟩ := fun k => hb2.cell (by simp)
        have hc0 := (hcell 0).trans (cell_of_row _ w.heap.size 0 _ _ _ (heap_alloc_new w _))
        have hc1 := (hcell 1).trans (cell_of_row _ w.heap.size 1 _ _ _ (heap_alloc_new w _))
        have hc2 := (hcell 2).trans (cell_of_row _ w.heap.size 2 _ _ _ (heap_alloc_new w _))
        have hc3 := (hcell 3).trans (cell_of_row _ w.heap.size 3 _ _ _ (heap_alloc_new w _))
        have hc4 := (hcell 4).trans (cell_of_row _ w.heap.size 4 _ _ _ (heap_alloc_new w _))
        have hc5 := (hcell 5).trans (cell_of_row _ w.heap.size 5 _ _ _ (heap_alloc_new w _))
        have hb3 : Below w.heap.size w w2 := ((Below.refl _ _).alloc (Nat.le_refl _) _).trans (Below.mono hb2 (by simp))
        have HIN2 := Lib.hid (KidsIn.later hb3 _ _ HIN.out)
        simp at hc0 hc1 hc2 hc3 hc4 hc5
        clear hcell hb2
        go_wp2_with fail
        refine (l18Valid_any (count p) p _ _ n (Nat.le_refl _) hc h0 h1 HIN2.out).mono ?_
        rintro e w3 ⟨rfl, hb4⟩
        have hb5 : Below w.heap.size w w3 := hb3.trans (Below.mono hb4 hb3.size)
        clear hb4
        go_wp2_with fail
        go_ret
        exact ⟨ret_bool HV.out.symm, hb5⟩
      · have HV := Lib.hid (validP_not p n (fun h => h2 h.2.2))
        have h3 : ¬ 0 ≤ L := by rw [← HE.out]; exact fun h => h2 (HL.out.1 h)
        go_enter Try.func69, Try.ntmps69
        go_wp2_with fail
        refine (left_any (count p) p _ _ 300 (Nat.le_refl _) hc (by omega) (by omega) (KidsIn.later ((Later.refl w).alloc _) _ _ HIN.out)).mono ?_
        rintro e w2 ⟨rfl, hb2⟩
        rw [HE.out]
        have hb3 : Below w.heap.size w w2 := ((Below.refl _ _).alloc (Nat.le_refl _) _).trans (Below.mono hb2 (by simp))
        clear hb2
        go_wp2_with fail
        go_ret
        exact ⟨ret_bool HV.out.symm, hb3⟩
    · have HV := Lib.hid (validP_not p n (fun h => h1 h.2.1))
      go_enter Try.func69, Try.ntmps69
      go_wp2_with fail
      go_ret
      exact ⟨ret_bool HV.out.symm, (Below.refl _ _).alloc (Nat.le_refl _) _⟩
  · have HV := Lib.hid (validP_not p n (fun h => h0 h.1))
    go_enter Try.func69, Try.ntmps69
    go_wp2_with fail
    go_ret
    exact ⟨ret_bool HV.out.symm, (Below.refl _ _).alloc (Nat.le_refl _) _⟩

theorem validD_big (defs : List Pat) (p : Pat) (h : ¬ defs.length ≤ 24) : validD defs p = false := by simp [validD, h]
theorem validD_p (defs : List Pat) (p : Pat) (h : validP p defs.length = false) : validD defs p = false := by simp [validD, h]
theorem validD_d (defs : List Pat) (p : Pat) (j : Nat) (hj : j < defs.length) (h : validP defs[j] defs.length = false) : validD defs p = false := by
  cases hb : validD defs p with
  | false => rfl
  | true =>
    simp only [validD, Bool.and_eq_true, List.all_eq_true] at hb
    have := hb.2 defs[j] (List.getElem_mem hj)
    rw [h] at this; cases this
theorem validD_yes (defs : List Pat) (p : Pat) (h1 : defs.length ≤ 24) (h2 : validP p defs.length = true) (h3 : ∀ j (hj : j < defs.length), validP defs[j] defs.length = true) : validD defs p = true := by
  simp only [validD, Bool.and_eq_true, List.all_eq_true]
  refine ⟨⟨by simpa using h1, h2⟩, fun d hd => ?_⟩
  obtain ⟨j, hj, rfl⟩ := List.getElem_of_mem hd
  exact h3 j hj

/-- Patterns of a size that can be counted. -/
def Small (p : Pat) : Prop := count p ≤ 1099511627776
def Smalls (ps : List Pat) : Prop := ∀ j (h : j < ps.length), Small ps[j]

set_option maxRecDepth 100000 in
set_option maxHeartbeats 1000000 in
theorem validDefinitions_any (defs : List Pat) (A : Option Addr) (c : Nat) (p : Pat) (kv : Value) (w : World) (hs : Smalls defs) (hp : Small p) (hd : RowIn w A 0 defs) (hin : KidsIn w p kv) (hdl : defs.length ≤ 1099511627776) :
    Calls Try.prog 37 #[.slice A defs.length c, p.v kv] w fun e w' => e = .returned (.bool (validD defs p)) ∧ Below w.heap.size w w' := by
  obtain ⟨A', c', rfl, _, _⟩ := hin.form
  have HIN := Lib.hid hin
  have HS := Lib.hid hs
  have HP := Lib.hid hp
  have HD := Lib.hid hd
  clear hin hs hp hd
  by_cases h1 : defs.length ≤ 24
  · have h1' : (defs.length : Int) ≤ 24 := by omega
    go_enter Try.func37, Try.ntmps37
    go_wp2_with fail
    refine (implValid_any p _ _ defs.length HP.out (KidsIn.later ((Later.refl w).alloc _) _ _ HIN.out)).mono ?_
    rintro e w2 ⟨rfl, hb2⟩
    have hb3 : Below w.heap.size w w2 := ((Below.refl _ _).alloc (Nat.le_refl _) _).trans (Below.mono hb2 (by simp))
    clear hb2
    cases hv : validP p defs.length with
    | false =>
      have HV := Lib.hid (validD_p defs p hv)
      clear hv
      go_wp2_with fail
      go_ret
      exact ⟨ret_bool HV.out.symm, hb3⟩
    | true =>
      have HV := Lib.hid hv
      clear hv
      go_wp2_with fail
      go_loopw [19] (fun i wr => ∃ j : Nat, j ≤ defs.length ∧ i = .int .i64 j ∧ (∀ i (h : i < j) (h2 : i < defs.length), validP defs[i] defs.length = true) ∧ RowIn wr A 0 defs ∧ Below w.heap.size w wr) (fun i _ => defs.length - (intOf i).toNat)
      case atStart => exact ⟨0, Nat.zero_le _, rfl, by intro i h; omega, RowIn.later hb3 A 0 _ HD.out, hb3⟩
      case round =>
        obtain ⟨j, hj, rfl, hall, hr, hbel⟩ := hrel
        have HA := Lib.hid hall
        clear hall hb3
        have hsz := hbel.size
        by_cases hlt : j < defs.length
        · obtain ⟨g, kv', rfl, hg, he, hkid⟩ := rowOf wr defs hr hlt
          obtain ⟨A'', c'', rfl, _, _⟩ := hkid.form
          obtain ⟨e0, e1, e2, e3, e4, e5⟩ := he
          have hlt' : (j : Int) < defs.length := by omega
          have HKid := Lib.hid hkid
          have HR := Lib.hid hr
          clear hkid hr
          go_wp2_with fail
          refine (implValid_any defs[j] _ _ defs.length (HS.out j hlt) (KidsIn.later ((Later.refl wr).alloc _) _ _ HKid.out)).mono ?_
          rintro e w4 ⟨rfl, hb4⟩
          have hb5 : Below w.heap.size w w4 := (hbel.alloc hsz _).trans (Below.mono hb4 (by simp; omega))
          have HR2 := Lib.hid (RowIn.later (Later.trans ((Later.refl wr).alloc _) hb4) _ 0 _ HR.out)
          clear hb4
          cases hvj : validP defs[j] defs.length with
          | false =>
            have HF := Lib.hid (validD_d defs p j hlt hvj)
            clear hvj
            go_wp2_with fail
            go_ret
            exact ⟨ret_bool HF.out.symm, hb5⟩
          | true =>
            have HJ := Lib.hid hvj
            clear hvj
            go_wp2_with fail
            go_roundw
            case rel => exact ⟨j + 1, by omega, by go_num, fun i hi hi2 => (by
              by_cases hij : i = j
              · subst hij; exact HJ.out
              · exact HA.out i (by omega) hi2), HR2.out, hb5⟩
            case measure => simp [intOf]; omega
        · go_wp2_with fail
          go_ret
          exact ⟨ret_bool (validD_yes defs p h1 HV.out (fun i hi => HA.out i (by omega) hi)).symm, hbel⟩
  · have HV := Lib.hid (validD_big defs p h1)
    have h1' : ¬ (defs.length : Int) ≤ 24 := by omega
    go_enter Try.func37, Try.ntmps37
    go_wp2_with fail
    go_ret
    exact ⟨ret_bool HV.out.symm, (Below.refl _ _).alloc (Nat.le_refl _) _⟩

set_option maxRecDepth 100000 in
set_option maxHeartbeats 1000000 in
theorem l18Defs_any (defs : List Pat) (A : Option Addr) (c : Nat) (p : Pat) (kv : Value) (w : World) (hs : Smalls defs) (hp : Small p) (hd : RowIn w A 0 defs) (hin : KidsIn w p kv) (hdl : defs.length ≤ 1099511627776) :
    Calls Try.prog 39 #[.slice A defs.length c, p.v kv] w fun e w' => e = .returned (.bool (validD defs p)) ∧ Below w.heap.size w w' := by
  obtain ⟨A', c', rfl, _, _⟩ := hin.form
  have HIN := Lib.hid hin
  have HS := Lib.hid hs
  have HP := Lib.hid hp
  have HD := Lib.hid hd
  clear hin hs hp hd
  by_cases h1 : defs.length ≤ 24
  · have h1' : (defs.length : Int) ≤ 24 := by omega
    go_enter Try.func39, Try.ntmps39
    go_wp2_with fail
    refine (specValid_any p _ _ defs.length HP.out (KidsIn.later ((Later.refl w).alloc _) _ _ HIN.out)).mono ?_
    rintro e w2 ⟨rfl, hb2⟩
    have hb3 : Below w.heap.size w w2 := ((Below.refl _ _).alloc (Nat.le_refl _) _).trans (Below.mono hb2 (by simp))
    clear hb2
    cases hv : validP p defs.length with
    | false =>
      have HV := Lib.hid (validD_p defs p hv)
      clear hv
      go_wp2_with fail
      go_ret
      exact ⟨ret_bool HV.out.symm, hb3⟩
    | true =>
      have HV := Lib.hid hv
      clear hv
      go_wp2_with fail
      go_loopw [5] (fun i wr => ∃ j : Nat, j ≤ defs.length ∧ i = .int .i64 j ∧ (∀ i (h : i < j) (h2 : i < defs.length), validP defs[i] defs.length = true) ∧ RowIn wr A 0 defs ∧ Below w.heap.size w wr) (fun i _ => defs.length - (intOf i).toNat)
      case atStart => exact ⟨0, Nat.zero_le _, rfl, by intro i h; omega, RowIn.later hb3 A 0 _ HD.out, hb3⟩
      case round =>
        obtain ⟨j, hj, rfl, hall, hr, hbel⟩ := hrel
        have HA := Lib.hid hall
        clear hall hb3
        have hsz := hbel.size
        by_cases hlt : j < defs.length
        · obtain ⟨g, kv', rfl, hg, he, hkid⟩ := rowOf wr defs hr hlt
          obtain ⟨A'', c'', rfl, _, _⟩ := hkid.form
          obtain ⟨e0, e1, e2, e3, e4, e5⟩ := he
          have hlt' : (j : Int) < defs.length := by omega
          have HKid := Lib.hid hkid
          have HR := Lib.hid hr
          clear hkid hr
          go_wp2_with fail
          refine (specValid_any defs[j] _ _ defs.length (HS.out j hlt) HKid.out).mono ?_
          rintro e w4 ⟨rfl, hb4⟩
          have hb5 : Below w.heap.size w w4 := hbel.trans (Below.mono hb4 hsz)
          have HR2 := Lib.hid (RowIn.later hb4 _ 0 _ HR.out)
          clear hb4
          cases hvj : validP defs[j] defs.length with
          | false =>
            have HF := Lib.hid (validD_d defs p j hlt hvj)
            clear hvj
            go_wp2_with fail
            go_ret
            exact ⟨ret_bool HF.out.symm, hb5⟩
          | true =>
            have HJ := Lib.hid hvj
            clear hvj
            go_wp2_with fail
            go_roundw
            case rel => exact ⟨j + 1, by omega, by go_num, fun i hi hi2 => (by
              by_cases hij : i = j
              · subst hij; exact HJ.out
              · exact HA.out i (by omega) hi2), HR2.out, hb5⟩
            case measure => simp [intOf]; omega
        · go_wp2_with fail
          go_ret
          exact ⟨ret_bool (validD_yes defs p h1 HV.out (fun i hi => HA.out i (by omega) hi)).symm, hbel⟩
  · have HV := Lib.hid (validD_big defs p h1)
    have h1' : ¬ (defs.length : Int) ≤ 24 := by omega
    go_enter Try.func39, Try.ntmps39
    go_wp2_with fail
    go_ret
    exact ⟨ret_bool HV.out.symm, (Below.refl _ _).alloc (Nat.le_refl _) _⟩

end Go.Proofs.Ytndefbecoahfhaa
