/- The walks of patternKids, l18Kids and l18Left. -/
import Derived.Test.YtndefbecoahfhaaCount
namespace Go.Proofs.Ytndefbecoahfhaa
open Go.RowKit

theorem leftAll_append (a b : List Pat) (l : Int) : leftAll (a ++ b) l = leftAll b (leftAll a l) := by
  induction a generalizing l with
  | nil => rfl
  | cons p ps ih =>
    simp only [List.cons_append, leftAll]
    by_cases h : 0 ≤ l
    · rw [if_pos h, if_pos h, ih]
    · rw [if_neg h, if_neg h, leftAll_neg b l (by omega)]
theorem leftAll_take_succ (ps : List Pat) (j : Nat) (h : j < ps.length) (l : Int) (h0 : 0 ≤ leftAll (ps.take j) l) : leftAll (ps.take (j + 1)) l = left ps[j] (leftAll (ps.take j) l) := by
  rw [List.take_succ_eq_append_getElem h, leftAll_append]
  simp only [leftAll]
  rw [if_pos h0]
theorem leftAll_take_neg (ps : List Pat) (j : Nat) (l : Int) (h0 : leftAll (ps.take j) l < 0) : leftAll ps l = leftAll (ps.take j) l := by
  have : leftAll ps l = leftAll (ps.take j ++ ps.drop j) l := by rw [List.take_append_drop]
  rw [this, leftAll_append, leftAll_neg _ _ h0]
mutual
theorem left_low : ∀ (p : Pat) (l : Int), 0 ≤ l → -1 ≤ left p l
  | .mk _ _ _ _ _ kids, l, h => by simp only [left]; exact leftAll_low kids (l - 1) (by omega)
theorem leftAll_low : ∀ (ps : List Pat) (l : Int), -1 ≤ l → -1 ≤ leftAll ps l
  | [], l, h => by simp only [leftAll]; exact h
  | p :: ps, l, h => by
    simp only [leftAll]
    by_cases h0 : 0 ≤ l
    · rw [if_pos h0]; exact leftAll_low ps _ (left_low p l h0)
    · rw [if_neg h0]; exact h
end

set_option maxHeartbeats 1000000 in
theorem patternKids_any (op : Int) (w : World) : Calls Try.prog 97 #[.int .i64 op] w fun e w' => e = .returned (.int .i64 (kidsOf op)) ∧ w = w' := by
  by_cases h1 : op = 13 ∨ op = 16 ∨ op = 17
  · have HV := Lib.hid (show kidsOf op = 1 from if_pos h1)
    rcases h1 with h1 | h1 | h1 <;> subst h1
    all_goals
      go_enter Try.func97, Try.ntmps97
      go_wp2
      go_ret
      exact ⟨ret_int HV.out.symm, rfl⟩
  · by_cases h2 : op = 14 ∨ op = 15
    · have HV := Lib.hid (show kidsOf op = 2 by unfold kidsOf; rw [if_neg h1, if_pos h2])
      clear h1
      rcases h2 with h2 | h2 <;> subst h2
      all_goals
        go_enter Try.func97, Try.ntmps97
        go_wp2
        go_ret
        exact ⟨ret_int HV.out.symm, rfl⟩
    · have HV := Lib.hid (show kidsOf op = 0 by unfold kidsOf; rw [if_neg h1, if_neg h2])
      have n1 : (op == 13) = false := by simp; omega
      have n2 : (op == 16) = false := by simp; omega
      have n3 : (op == 17) = false := by simp; omega
      have n4 : (op == 14) = false := by simp; omega
      have n5 : (op == 15) = false := by simp; omega
      clear h1 h2
      go_enter Try.func97, Try.ntmps97
      go_wp2
      go_ret
      exact ⟨ret_int HV.out.symm, rfl⟩

set_option maxHeartbeats 1000000 in
theorem l18Kids_any (op : Int) (w : World) : Calls Try.prog 87 #[.int .i64 op] w fun e w' => e = .returned (.int .i64 (kidsOf op)) ∧ w = w' := by
  by_cases h1 : op = 13 ∨ op = 16 ∨ op = 17
  · have HV := Lib.hid (show kidsOf op = 1 from if_pos h1)
    rcases h1 with h1 | h1 | h1 <;> subst h1
    all_goals
      go_enter Try.func87, Try.ntmps87
      go_wp2
      go_ret
      exact ⟨ret_int HV.out.symm, rfl⟩
  · by_cases h2 : op = 14 ∨ op = 15
    · have HV := Lib.hid (show kidsOf op = 2 by unfold kidsOf; rw [if_neg h1, if_pos h2])
      clear h1
      rcases h2 with h2 | h2 <;> subst h2
      all_goals
        go_enter Try.func87, Try.ntmps87
        go_wp2
        go_ret
        exact ⟨ret_int HV.out.symm, rfl⟩
    · have HV := Lib.hid (show kidsOf op = 0 by unfold kidsOf; rw [if_neg h1, if_neg h2])
      have n1 : (op == 13) = false := by simp; omega
      have n2 : (op == 16) = false := by simp; omega
      have n3 : (op == 17) = false := by simp; omega
      have n4 : (op == 14) = false := by simp; omega
      have n5 : (op == 15) = false := by simp; omega
      clear h1 h2
      go_enter Try.func87, Try.ntmps87
      go_wp2
      go_ret
      exact ⟨ret_int HV.out.symm, rfl⟩

set_option maxRecDepth 100000 in
set_option maxHeartbeats 1000000 in
theorem left_any (k : Nat) : ∀ (p : Pat) (kv : Value) (w : World) (l : Int), count p ≤ k → k ≤ 1099511627776 → 0 ≤ l → l ≤ 300 → KidsIn w p kv →
    Calls Try.prog 92 #[p.v kv, .int .i64 l] w fun e w' => e = .returned (.int .i64 (left p l)) ∧ Below w.heap.size w w' := by
  induction k with
  | zero => intro p kv w l h; have := count_pos p; omega
  | succ k ih =>
    intro p kv w l hk hk2 hl0 hl1 hin
    obtain ⟨A, c, rfl, hc, hrow⟩ := hin.form
    have hlen := countAll_len p.kids
    have hce := count_eq p
    have hn : p.kids.length ≤ 1099511627776 := by omega
    have IH := Lib.hid ih
    have HV := Lib.hid (left_eq p l)
    have HK := Lib.hid hk
    clear ih hce hk hlen
    go_enter Try.func92, Try.ntmps92
    go_wp2_with fail
    go_loopw [1, 5] (fun v i wr => ∃ j : Nat, j ≤ p.kids.length ∧ i = .int .i64 j ∧ v = .int .i64 (leftAll (p.kids.take j) (l - 1)) ∧ RowIn wr A 0 p.kids ∧ w.heap.size < wr.heap.size ∧ wr.cell? ⟨w.heap.size, 5, none⟩ = some (.slice A p.kids.length c) ∧ Below w.heap.size w wr) (fun _ i _ => p.kids.length - (intOf i).toNat)
    case atStart => exact ⟨0, Nat.zero_le _, rfl, by simp [leftAll], RowIn.later ((Later.refl w).alloc _) A 0 _ hrow, by simp, cell_of_row _ w.heap.size 5 _ _ _ (heap_alloc_new w _), (Below.refl _ _).alloc (Nat.le_refl _) _⟩
    case round =>
      obtain ⟨j, hj, rfl, rfl, hr, hN, hc5, hbel⟩ := hrel
      have hsz := hbel.size
      obtain ⟨L, hL⟩ : ∃ L, leftAll (p.kids.take j) (l - 1) = L := ⟨_, rfl⟩
      have hlo : -1 ≤ L := by rw [← hL]; exact leftAll_low _ _ (by omega)
      have hhi : L ≤ l - 1 := by rw [← hL]; exact (leftAll_count _ _).1
      have HL := Lib.hid hL
      rw [hL]
      clear hL
      by_cases hlt : j < p.kids.length
      · have hlt' : (j : Int) < p.kids.length := by omega
        by_cases hpos : 0 ≤ L
        · obtain ⟨g, kv', rfl, hg, he, hkid⟩ := rowOf wr p.kids hr hlt
          have HT := Lib.hid (leftAll_take_succ p.kids j hlt (l - 1) (by rw [HL.out]; exact hpos))
          have HKL := Lib.hid (count_kid_lt p j hlt)
          obtain ⟨A', c', rfl, _, _⟩ := hkid.form
          obtain ⟨e0, e1, e2, e3, e4, e5⟩ := he
          have HKid := Lib.hid hkid
          have HR := Lib.hid hr
          clear hkid hr
          go_wp2_with fail
          refine (IH.out p.kids[j] _ _ L (by have := HKL.out; have := HK.out; omega) (by omega) hpos (by omega) HKid.out).mono ?_
          rintro e w2 ⟨rfl, hb2⟩
          have hb3 : Below w.heap.size w w2 := hbel.trans (Below.mono hb2 hsz)
          have HR2 := Lib.hid (RowIn.later hb2 _ 0 _ HR.out)
          have hc5' : w2.cell? ⟨w.heap.size, 5, none⟩ = some (.slice (some ⟨g, 0, none⟩) p.kids.length c) := (hb2.cell hN).trans hc5
          have hN' : w.heap.size < w2.heap.size := Nat.lt_of_lt_of_le hN hb2.size
          clear hb2
          go_wp2_with fail
          go_roundw
          case rel => exact ⟨j + 1, by omega, by go_num, by rw [HT.out, HL.out], HR2.out, hN', hc5', hb3⟩
          case measure => simp [intOf]; omega
        · have HF := Lib.hid (leftAll_take_neg p.kids j (l - 1) (by rw [HL.out]; omega))
          go_wp2_with fail
          go_ret
          exact ⟨ret_int (by rw [HV.out, HF.out, HL.out]), hbel⟩
      · go_wp2_with fail
        go_ret
        refine ⟨ret_int ?_, hbel⟩
        rw [HV.out, ← HL.out, List.take_of_length_le (by omega)]

end Go.Proofs.Ytndefbecoahfhaa
