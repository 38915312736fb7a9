/- spec's ParseInt at every text. Printed by gen_parints.py. -/
import Derived.Test.YtopaeiogbijppaaDoorParIntS
namespace Go.Proofs.YtopaeiogbijppaaDoor
open Go.RowKit

/-- What is read of the digits t, behind a sign or not. -/
def parT (below : Bool) (s t : List UInt8) : Option Int :=
  if t.length < 1 ∨ 12 < t.length then none else if t.all isDig then (if Lib.itoa (if below then -(val t : Nat) else (val t : Nat) : Int) = s then some (if below then -(val t : Nat) else (val t : Nat) : Int) else none) else none
theorem parS_below {s : List UInt8} (h : s.head? = some 45) : parS 12 s = parT true s (s.drop 1) := by simp [parS, parT, h]
theorem parS_plain {s : List UInt8} (h : s.head? ≠ some 45) : parS 12 s = parT false s s := by simp [parS, parT, h]
theorem str_eq {a : List UInt8} {s : ByteArray} : (⟨a.toArray⟩ : ByteArray) = s ↔ a = s.data.toList := by
  constructor
  · rintro rfl; simp
  · intro h; exact str_ext (by simpa using h)
theorem toList_inj {a b : ByteArray} (h : a.toList = b.toList) : a = b := by
  have e : ∀ x : ByteArray, x.toList = x.data.toList := fun x => ByteArray.toList_eq x
  rw [e, e] at h
  exact str_ext h
set_option maxHeartbeats 2000000 in
theorem l1Read_plain (s : ByteArray) (w : World) (hs : s.size ≤ 1048576) (h45 : ∀ h : 0 < s.size, (s[0].toNat : Int) ≠ 45) :
    Calls Tryd.prog 46 #[.string s, .int .i64 12] w fun e w' => e = .returned (numOut (parT false s.data.toList (s).data.toList)) ∧ Below w.heap.size w w' := by
  have htl : s.data.toList.length = s.size := by simp
  obtain ⟨R, hR⟩ : ∃ R, parT false s.data.toList s.data.toList = R := ⟨_, rfl⟩
  rw [hR]
  unfold parT at hR
  by_cases h0 : s.size = 0
  · have hR0 : R = none := by rw [← hR, if_pos (.inl (by omega))]
    subst hR0
    have u0 : decide ((0 : Int) < s.size) = false := decide_eq_false (by omega)
    have u1 : decide ((s.size : Int) < 1) = true := decide_eq_true (by omega)
    clear hR
    go_enter Tryd.func46, Tryd.ntmps46
    go_wp2_with fail
    go_ret2
    exact ⟨rfl, Below.refl _ _⟩
  have h0p : 0 < s.size := by omega
  have u0 : decide ((0 : Int) < s.size) = true := decide_eq_true (by omega)
  obtain ⟨c0, hc0⟩ : ∃ c : Int, (s[0].toNat : Int) = c := ⟨_, rfl⟩
  have u45 : (c0 == 45) = false := by rw [beq_eq_false_iff_ne, ← hc0]; exact h45 h0p
  clear h45
  have u1 : decide ((s.size : Int) < 1) = false := decide_eq_false (by omega)
  by_cases hlg : 12 < s.size
  · have hR0 : R = none := by rw [← hR, if_pos (.inr (by omega))]
    subst hR0
    have u2 : decide ((12 : Int) < s.size) = true := decide_eq_true (by omega)
    clear hR
    go_enter Tryd.func46, Tryd.ntmps46
    go_wp2_with fail
    go_ret2
    exact ⟨rfl, Below.refl _ _⟩
  have u2 : decide ((12 : Int) < s.size) = false := decide_eq_false (by omega)
  rw [if_neg (by omega)] at hR
  have HR := Lib.hid hR
  have HLEN := Lib.hid htl
  clear hR htl
  go_enter Tryd.func46, Tryd.ntmps46
  go_wp2_with fail
  go_loopw [8, 9] (fun n i wr => ∃ (k : Nat) (m : Nat), i = .int .i64 k ∧ n = .int .i64 m ∧ k ≤ s.size ∧ m < 1000000000000 ∧ Hid (m = val (s.data.toList.take k) ∧ (s.data.toList.take k).all isDig = true) ∧ wr = w) (fun _ i _ => s.size - (intOf i).toNat)
  case atStart => exact ⟨0, 0, rfl, rfl, Nat.zero_le _, by omega, Lib.hid ⟨by simp [val], by simp⟩, rfl⟩
  case round =>
    obtain ⟨k, m, rfl, rfl, hk, hm12, HD, hw⟩ := hrel
    obtain rfl : w = wr := hw.symm
    by_cases hlt : k < s.size
    · obtain ⟨c, hc⟩ : ∃ c : Int, (s[k].toNat : Int) = c := ⟨_, rfl⟩
      have hcb : 0 ≤ c ∧ c < 256 := by have := s[k].toNat_lt; omega
      have hlt' : (k : Int) < s.size := by omega
      have HDG := Lib.hid (dig_at s k hlt c hc)
      by_cases hd : 48 ≤ c ∧ c ≤ 57
      · have d1 : decide (c < 48) = false := decide_eq_false (by omega)
        have d2 : decide ((57 : Int) < c) = false := decide_eq_false (by omega)
        have HS := Lib.hid (sub_at s k hlt c hc hd.1)
        have hd0 := hd.1
        have hd1 := hd.2
        clear hd
        go_wp2_with fail
        go_roundw
        case rel =>
          have hall : (s.data.toList.take (k + 1)).all isDig = true := all_take _ _ (by rw [HLEN.out]; exact hlt) HD.out.2 (by rw [HDG.out]; simp; omega)
          have hv := val_take_lt s.data.toList (k + 1) (by rw [HLEN.out]; omega) (by rw [HLEN.out]; omega) hall
          have hsub := HS.out
          rw [← HD.out.1] at hsub
          exact ⟨k + 1, val (s.data.toList.take (k + 1)), by go_num, by rw [hsub, Int.mul_comm], by omega, hv, Lib.hid ⟨rfl, hall⟩, trivial⟩
        case measure => simp [intOf]; omega
      · have hR0 : R = none := by
          rw [← HR.out, not_all s.data.toList k (by rw [HLEN.out]; exact hlt) (by rw [HDG.out]; simp; omega)]; rfl
        subst hR0
        have hdn : c < 48 ∨ (48 ≤ c ∧ 57 < c) := by omega
        clear hd
        rcases hdn with hdn | ⟨hdn, hdn'⟩
        · have d1 : decide (c < 48) = true := decide_eq_true (by omega)
          go_wp2_with fail
          go_ret2
          exact ⟨rfl, Below.refl _ _⟩
        · have d1 : decide (c < 48) = false := decide_eq_false (by omega)
          have d2 : decide ((57 : Int) < c) = true := decide_eq_true (by omega)
          go_wp2_with fail
          go_ret2
          exact ⟨rfl, Below.refl _ _⟩
    · have hke : k = s.size := by omega
      have htk : s.data.toList.take k = s.data.toList := List.take_of_length_le (by rw [HLEN.out]; omega)
      have hmv : m = val s.data.toList ∧ s.data.toList.all isDig = true := by have := HD.out; rwa [htk] at this
      have hR3 : (if Lib.itoa ((m : Int)) = s.data.toList then some ((m : Int)) else none) = R := by
        rw [← HR.out, if_pos hmv.2, ← hmv.1]; rfl
      have HR3 := Lib.hid hR3
      clear htk hmv hR3 HR HD
      go_wp2_with fail
      refine (specFormatInt_any ((m : Int)) _ (by omega) (by omega)).mono ?_
      rintro e w2 ⟨rfl, hb2⟩
      by_cases heq : Lib.itoa ((m : Int)) = s.data.toList
      · have hR4 := HR3.out
        rw [if_pos heq] at hR4
        subst hR4
        have hse : (⟨(Lib.itoa ((m : Int))).toArray⟩ : ByteArray) = s := str_eq.2 heq
        rw [hse]
        clear heq hse
        go_wp2_with fail
        go_ret2
        exact ⟨rfl, hb2⟩
      · have hR4 := HR3.out
        rw [if_neg heq] at hR4
        subst hR4
        have hse : (⟨(Lib.itoa ((m : Int))).toArray⟩ : ByteArray) ≠ s := fun h => heq (str_eq.1 h)
        obtain ⟨z, hz⟩ : ∃ z, (⟨(Lib.itoa ((m : Int))).toArray⟩ : ByteArray) = z := ⟨_, rfl⟩
        rw [hz] at hse ⊢
        have v3 : (z.toList != s.toList) = true := by rw [bne_iff_ne]; exact fun h => hse (toList_inj h)
        have v4 : (z.toList == s.toList) = false := by rw [beq_eq_false_iff_ne]; exact fun h => hse (toList_inj h)
        clear heq hz
        go_wp2_with fail
        go_ret2
        exact ⟨rfl, hb2⟩

set_option maxHeartbeats 2000000 in
theorem l1Read_below (s : ByteArray) (w : World) (hs : s.size ≤ 1048576) (h0 : 0 < s.size) (h45 : (s[0].toNat : Int) = 45) :
    Calls Tryd.prog 46 #[.string s, .int .i64 12] w fun e w' => e = .returned (numOut (parT true s.data.toList (s.extract 1 s.size).data.toList)) ∧ Below w.heap.size w w' := by
  have h0' : decide ((0 : Int) < s.size) = true := decide_eq_true (by omega)
  have h1' : (1 : Int) ≤ s.size := by omega
  obtain ⟨t, ht⟩ : ∃ t, s.extract 1 s.size = t := ⟨_, rfl⟩
  rw [ht]
  have htl : t.data.toList.length = t.size := by simp
  have hts : t.size ≤ 1048576 := by rw [← ht]; simp [ByteArray.size_extract]; omega
  obtain ⟨R, hR⟩ : ∃ R, parT true s.data.toList t.data.toList = R := ⟨_, rfl⟩
  rw [hR]
  unfold parT at hR
  by_cases hsh : t.size < 1
  · have hR0 : R = none := by rw [← hR, if_pos (.inl (by omega))]
    subst hR0
    have u1 : decide ((t.size : Int) < 1) = true := decide_eq_true (by omega)
    clear hR
    go_enter Tryd.func46, Tryd.ntmps46
    go_wp2_with fail
    go_ret2
    exact ⟨rfl, Below.refl _ _⟩
  have u1 : decide ((t.size : Int) < 1) = false := decide_eq_false (by omega)
  by_cases hlg : 12 < t.size
  · have hR0 : R = none := by rw [← hR, if_pos (.inr (by omega))]
    subst hR0
    have u2 : decide ((12 : Int) < t.size) = true := decide_eq_true (by omega)
    clear hR
    go_enter Tryd.func46, Tryd.ntmps46
    go_wp2_with fail
    go_ret2
    exact ⟨rfl, Below.refl _ _⟩
  have u2 : decide ((12 : Int) < t.size) = false := decide_eq_false (by omega)
  rw [if_neg (by omega)] at hR
  have HR := Lib.hid hR
  have HLEN := Lib.hid htl
  clear hR htl
  go_enter Tryd.func46, Tryd.ntmps46
  go_wp2_with fail
  go_loopw [8, 9] (fun n i wr => ∃ (k : Nat) (m : Nat), i = .int .i64 k ∧ n = .int .i64 m ∧ k ≤ t.size ∧ m < 1000000000000 ∧ Hid (m = val (t.data.toList.take k) ∧ (t.data.toList.take k).all isDig = true) ∧ wr = w) (fun _ i _ => t.size - (intOf i).toNat)
  case atStart => exact ⟨0, 0, rfl, rfl, Nat.zero_le _, by omega, Lib.hid ⟨by simp [val], by simp⟩, rfl⟩
  case round =>
    obtain ⟨k, m, rfl, rfl, hk, hm12, HD, hw⟩ := hrel
    obtain rfl : w = wr := hw.symm
    by_cases hlt : k < t.size
    · obtain ⟨c, hc⟩ : ∃ c : Int, (t[k].toNat : Int) = c := ⟨_, rfl⟩
      have hcb : 0 ≤ c ∧ c < 256 := by have := t[k].toNat_lt; omega
      have hlt' : (k : Int) < t.size := by omega
      have HDG := Lib.hid (dig_at t k hlt c hc)
      by_cases hd : 48 ≤ c ∧ c ≤ 57
      · have d1 : decide (c < 48) = false := decide_eq_false (by omega)
        have d2 : decide ((57 : Int) < c) = false := decide_eq_false (by omega)
        have HS := Lib.hid (sub_at t k hlt c hc hd.1)
        have hd0 := hd.1
        have hd1 := hd.2
        clear hd
        go_wp2_with fail
        go_roundw
        case rel =>
          have hall : (t.data.toList.take (k + 1)).all isDig = true := all_take _ _ (by rw [HLEN.out]; exact hlt) HD.out.2 (by rw [HDG.out]; simp; omega)
          have hv := val_take_lt t.data.toList (k + 1) (by rw [HLEN.out]; omega) (by rw [HLEN.out]; omega) hall
          have hsub := HS.out
          rw [← HD.out.1] at hsub
          exact ⟨k + 1, val (t.data.toList.take (k + 1)), by go_num, by rw [hsub, Int.mul_comm], by omega, hv, Lib.hid ⟨rfl, hall⟩, trivial⟩
        case measure => simp [intOf]; omega
      · have hR0 : R = none := by
          rw [← HR.out, not_all t.data.toList k (by rw [HLEN.out]; exact hlt) (by rw [HDG.out]; simp; omega)]; rfl
        subst hR0
        have hdn : c < 48 ∨ (48 ≤ c ∧ 57 < c) := by omega
        clear hd
        rcases hdn with hdn | ⟨hdn, hdn'⟩
        · have d1 : decide (c < 48) = true := decide_eq_true (by omega)
          go_wp2_with fail
          go_ret2
          exact ⟨rfl, Below.refl _ _⟩
        · have d1 : decide (c < 48) = false := decide_eq_false (by omega)
          have d2 : decide ((57 : Int) < c) = true := decide_eq_true (by omega)
          go_wp2_with fail
          go_ret2
          exact ⟨rfl, Below.refl _ _⟩
    · have hke : k = t.size := by omega
      have htk : t.data.toList.take k = t.data.toList := List.take_of_length_le (by rw [HLEN.out]; omega)
      have hmv : m = val t.data.toList ∧ t.data.toList.all isDig = true := by have := HD.out; rwa [htk] at this
      have hR3 : (if Lib.itoa (-(m : Int)) = s.data.toList then some (-(m : Int)) else none) = R := by
        rw [← HR.out, if_pos hmv.2, ← hmv.1]; rfl
      have HR3 := Lib.hid hR3
      clear htk hmv hR3 HR HD
      go_wp2_with fail
      refine (specFormatInt_any (-(m : Int)) _ (by omega) (by omega)).mono ?_
      rintro e w2 ⟨rfl, hb2⟩
      by_cases heq : Lib.itoa (-(m : Int)) = s.data.toList
      · have hR4 := HR3.out
        rw [if_pos heq] at hR4
        subst hR4
        have hse : (⟨(Lib.itoa (-(m : Int))).toArray⟩ : ByteArray) = s := str_eq.2 heq
        rw [hse]
        clear heq hse
        go_wp2_with fail
        go_ret2
        exact ⟨rfl, hb2⟩
      · have hR4 := HR3.out
        rw [if_neg heq] at hR4
        subst hR4
        have hse : (⟨(Lib.itoa (-(m : Int))).toArray⟩ : ByteArray) ≠ s := fun h => heq (str_eq.1 h)
        obtain ⟨z, hz⟩ : ∃ z, (⟨(Lib.itoa (-(m : Int))).toArray⟩ : ByteArray) = z := ⟨_, rfl⟩
        rw [hz] at hse ⊢
        have v3 : (z.toList != s.toList) = true := by rw [bne_iff_ne]; exact fun h => hse (toList_inj h)
        have v4 : (z.toList == s.toList) = false := by rw [beq_eq_false_iff_ne]; exact fun h => hse (toList_inj h)
        clear heq hz
        go_wp2_with fail
        go_ret2
        exact ⟨rfl, hb2⟩

/-- spec's ParseInt. -/
theorem specParseInt_any (s : ByteArray) (w : World) (hs : s.size ≤ 1048576) :
    Calls Tryd.prog 16 #[.string s] w fun e w' => e = .returned (numOut (parI s.data.toList)) ∧ Below w.heap.size w w' := by
  have hread : Calls Tryd.prog 46 #[.string s, .int .i64 12] w fun e w' => e = .returned (numOut (parI s.data.toList)) ∧ Below w.heap.size w w' := by
    rw [par_eq]
    by_cases h0 : 0 < s.size
    · by_cases h45 : (s[0].toNat : Int) = 45
      · rw [parS_below (by rw [head_at s h0, Option.some.injEq, byte_is s[0] _ rfl]; exact h45), ← tail_list]
        exact l1Read_below s w hs h0 h45
      · rw [parS_plain (by rw [head_at s h0, ne_eq, Option.some.injEq, byte_is s[0] _ rfl]; exact h45)]
        exact l1Read_plain s w hs (fun _ => h45)
    · rw [parS_plain (by
        have hl : s.data.toList.length = s.size := by simp
        have : s.data.toList = [] := List.eq_nil_of_length_eq_zero (by omega)
        rw [this]; simp)]
      exact l1Read_plain s w hs (fun h => absurd h h0)
  obtain ⟨R, hR⟩ : ∃ R, parI s.data.toList = R := ⟨_, rfl⟩
  rw [hR] at hread ⊢
  have H := Lib.hid hread
  clear hread hR
  go_enter Tryd.func16, Tryd.ntmps16
  go_wp2_with fail
  refine H.out.mono ?_
  rintro e w2 ⟨rfl, hb2⟩
  cases R
  · simp only [numOut]
    go_wp2_with fail
    go_ret2
    exact ⟨rfl, hb2⟩
  · simp only [numOut]
    go_wp2_with fail
    go_ret2
    exact ⟨rfl, hb2⟩
end Go.Proofs.YtopaeiogbijppaaDoor
