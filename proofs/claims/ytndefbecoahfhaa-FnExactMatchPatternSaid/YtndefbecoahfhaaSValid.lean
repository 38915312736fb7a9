/- The walk of spec.l18Valid, joined; IsValidPattern of both sides. -/
import Derived.Test.YtndefbecoahfhaaSValText
import Derived.Test.YtndefbecoahfhaaSValLen
import Derived.Test.YtndefbecoahfhaaSValSet
import Derived.Test.YtndefbecoahfhaaSValVar
import Derived.Test.YtndefbecoahfhaaSValRest
namespace Go.Proofs.Ytndefbecoahfhaa
open Go.RowKit

set_option maxRecDepth 100000 in
set_option maxHeartbeats 1000000 in
theorem l18Valid_out (op : Int) (text : ByteArray) (num lo hi : Int) (l : Nat) (A : Option Addr) (c : Nat) (w : World) (n : Int) (h : ¬ (1 ≤ op ∧ op ≤ 23)) :
    Calls Try.prog 93 #[patV op text num lo hi (.slice A l c), .int .i64 n] w fun e w' => e = .returned (.bool false) ∧ Below w.heap.size w w' := by
  by_cases h1 : op < 1
  · have g1 : decide (op < 1) = true := by simp; omega
    clear h h1
    go_enter Try.func93, Try.ntmps93
    go_wp2_with fail
    go_quiet (fail)
    go_wp2_with fail
    go_ret
    exact ⟨rfl, later_drewN ((Below.refl _ _).alloc (Nat.le_refl _) _) _⟩
  · have g1 : decide (op < 1) = false := by simp; omega
    have g2 : decide (23 < op) = true := by simp; omega
    clear h h1
    go_enter Try.func93, Try.ntmps93
    go_wp2_with fail
    go_quiet (fail)
    go_wp2_with fail
    go_ret
    exact ⟨rfl, later_drewN ((Below.refl _ _).alloc (Nat.le_refl _) _) _⟩

set_option maxRecDepth 100000 in
set_option maxHeartbeats 1000000 in
theorem l18Valid_kids (op : Int) (text : ByteArray) (num lo hi : Int) (l : Nat) (A : Option Addr) (c : Nat) (w : World) (n : Int) (h : 1 ≤ op ∧ op ≤ 23) (hk : ¬ (l : Int) = kidsOf op) :
    Calls Try.prog 93 #[patV op text num lo hi (.slice A l c), .int .i64 n] w fun e w' => e = .returned (.bool false) ∧ Below w.heap.size w w' := by
  have g1 : decide (op < 1) = false := by simp; omega
  have g2 : decide (23 < op) = false := by simp; omega
  have g3 : ((l : Int) != kidsOf op) = true := by simp [hk]
  clear h hk
  go_enter Try.func93, Try.ntmps93
  go_wp2_with fail
  go_quiet ((go_at_call 87; exact quiet_left (l18Kids_any _ _)))
  go_wp2_with fail
  go_ret
  exact ⟨rfl, later_drewN ((Below.refl _ _).alloc (Nat.le_refl _) _) _⟩

theorem l18Valid_any (k : Nat) : ∀ (p : Pat) (kv : Value) (w : World) (n : Int), count p ≤ k → k ≤ 1099511627776 → 0 ≤ n → n ≤ 24 → KidsIn w p kv →
    Calls Try.prog 93 #[p.v kv, .int .i64 n] w fun e w' => e = .returned (.bool (valid p n)) ∧ Below w.heap.size w w' := by
  induction k with
  | zero => intro p kv w n h; have := count_pos p; omega
  | succ k ih =>
    intro p kv w n hk hk2 hn0 hn1 hin
    obtain ⟨A, c, rfl, hc, hrow⟩ := hin.form
    have hlen := countAll_len p.kids
    have hce := count_eq p
    have hn : p.kids.length ≤ 1099511627776 := by omega
    by_cases h1 : 1 ≤ p.op ∧ p.op ≤ 23
    · by_cases h2 : (p.kids.length : Int) = kidsOf p.op
      · have IH : Hid (∀ j (h : j < p.kids.length) kv w, KidsIn w p.kids[j] kv → Calls Try.prog 93 #[p.kids[j].v kv, .int .i64 n] w fun e w' => e = .returned (.bool (valid p.kids[j] n)) ∧ Below w.heap.size w w') := by
          intro j hj kv w hkv
          have := count_kid_lt p j hj
          exact ih p.kids[j] kv w n (by omega) (by omega) hn0 hn1 hkv
        obtain ⟨op, text, num, lo, hi, kids⟩ := p
        simp only [Pat.kids, Pat.op, Pat.v, Pat.text, Pat.num, Pat.lo, Pat.hi] at *
        rw [valid_eq]
        simp only [Pat.kids]
        rcases op_groups op h1 with hg | hg | hg | hg | hg
        · rw [head_text op text num lo hi kids n hg h2]
          by_cases ht : text.size ≤ 120
          · by_cases hl : lo = 0
            · by_cases hh : hi = 0
              · by_cases hm : num = 0
                · rw [decide_eq_true ⟨ht, hm, hl, hh⟩, Bool.true_and]; exact l18Valid_text_good op text num lo hi kids A c w n hg h2 hn IH hrow ht hl hh hm
                · rw [decide_eq_false (fun h => hm h.2.1), Bool.false_and]; exact l18Valid_text_n op text num lo hi kids A c w n hg h2 ht hl hh hm
              · rw [decide_eq_false (fun h => hh h.2.2.2), Bool.false_and]; exact l18Valid_text_h op text num lo hi kids A c w n hg h2 ht hl hh
            · rw [decide_eq_false (fun h => hl h.2.2.1), Bool.false_and]; exact l18Valid_text_l op text num lo hi kids A c w n hg h2 ht hl
          · rw [decide_eq_false (fun h => ht h.1), Bool.false_and]; exact l18Valid_text_t op text num lo hi kids A c w n hg h2 (by omega)
        · rw [head_len op text num lo hi kids n hg h2]
          by_cases ht : text.toList = []
          · by_cases hl : lo = 0
            · by_cases hh : hi = 0
              · by_cases hm : 0 ≤ num ∧ num ≤ 120
                · rw [decide_eq_true ⟨ht, hm.1, hm.2, hl, hh⟩, Bool.true_and]; exact l18Valid_len_good op text num lo hi kids A c w n hg h2 hn IH hrow ht hl hh hm
                · rw [decide_eq_false (fun h => hm ⟨h.2.1, h.2.2.1⟩), Bool.false_and]; exact l18Valid_len_n op text num lo hi kids A c w n hg h2 ht hl hh hm
              · rw [decide_eq_false (fun h => hh h.2.2.2.2), Bool.false_and]; exact l18Valid_len_h op text num lo hi kids A c w n hg h2 ht hl hh
            · rw [decide_eq_false (fun h => hl h.2.2.2.1), Bool.false_and]; exact l18Valid_len_l op text num lo hi kids A c w n hg h2 ht hl
          · rw [decide_eq_false (fun h => ht h.1), Bool.false_and]; exact l18Valid_len_t op text num lo hi kids A c w n hg h2 ht
        · rw [head_set op text num lo hi kids n hg h2]
          by_cases ht : text.toList = []
          · by_cases hm : num = 0
            · rw [decide_eq_true ⟨ht, hm⟩, Bool.true_and]; exact l18Valid_set_good op text num lo hi kids A c w n hg h2 hn IH hrow ht hm
            · rw [decide_eq_false (fun h => hm h.2), Bool.false_and]; exact l18Valid_set_n op text num lo hi kids A c w n hg h2 ht hm
          · rw [decide_eq_false (fun h => ht h.1), Bool.false_and]; exact l18Valid_set_t op text num lo hi kids A c w n hg h2 ht
        · rw [head_var op text num lo hi kids n hg h2]
          by_cases ht : text.toList = []
          · by_cases hl : lo = 0
            · by_cases hh : hi = 0
              · by_cases hm : 0 ≤ num ∧ num < n
                · rw [decide_eq_true ⟨ht, hm.1, hm.2, hl, hh⟩, Bool.true_and]; exact l18Valid_var_good op text num lo hi kids A c w n hn0 hn1 hg h2 hn IH hrow ht hl hh hm
                · rw [decide_eq_false (fun h => hm ⟨h.2.1, h.2.2.1⟩), Bool.false_and]; exact l18Valid_var_n op text num lo hi kids A c w n hn0 hn1 hg h2 ht hl hh hm
              · rw [decide_eq_false (fun h => hh h.2.2.2.2), Bool.false_and]; exact l18Valid_var_h op text num lo hi kids A c w n hg h2 ht hl hh
            · rw [decide_eq_false (fun h => hl h.2.2.2.1), Bool.false_and]; exact l18Valid_var_l op text num lo hi kids A c w n hg h2 ht hl
          · rw [decide_eq_false (fun h => ht h.1), Bool.false_and]; exact l18Valid_var_t op text num lo hi kids A c w n hg h2 ht
        · rw [head_rest op text num lo hi kids n hg h2]
          by_cases ht : text.toList = []
          · by_cases hl : lo = 0
            · by_cases hh : hi = 0
              · by_cases hm : num = 0
                · rw [decide_eq_true ⟨ht, hm, hl, hh⟩, Bool.true_and]; exact l18Valid_rest_good op text num lo hi kids A c w n hg h2 hn IH hrow ht hl hh hm
                · rw [decide_eq_false (fun h => hm h.2.1), Bool.false_and]; exact l18Valid_rest_n op text num lo hi kids A c w n hg h2 ht hl hh hm
              · rw [decide_eq_false (fun h => hh h.2.2.2), Bool.false_and]; exact l18Valid_rest_h op text num lo hi kids A c w n hg h2 ht hl hh
            · rw [decide_eq_false (fun h => hl h.2.2.1), Bool.false_and]; exact l18Valid_rest_l op text num lo hi kids A c w n hg h2 ht hl
          · rw [decide_eq_false (fun h => ht h.1), Bool.false_and]; exact l18Valid_rest_t op text num lo hi kids A c w n hg h2 ht
      · rw [valid_eq, okHead_kids p n h2, Bool.false_and]
        exact l18Valid_kids p.op p.text p.num p.lo p.hi p.kids.length A c w n h1 h2
    · rw [valid_eq, okHead_out p n h1, Bool.false_and]
      exact l18Valid_out p.op p.text p.num p.lo p.hi p.kids.length A c w n h1

/-! ### IsValidPattern -/
theorem validP_eq (p : Pat) (n : Int) (h0 : 0 ≤ n) (h1 : n ≤ 24) (h2 : (count p : Int) ≤ 300) : validP p n = valid p n := by
  have : count p ≤ 300 := by omega
  simp [validP, h0, h1, this]
theorem validP_not (p : Pat) (n : Int) (h : ¬ (0 ≤ n ∧ n ≤ 24 ∧ (count p : Int) ≤ 300)) : validP p n = false := by
  have : ¬ (0 ≤ n ∧ n ≤ 24 ∧ count p ≤ 300) := by omega
  cases hb : validP p n with
  | false => rfl
  | true => simp only [validP, Bool.and_eq_true, decide_eq_true_eq] at hb; exact absurd ⟨hb.1.1.1, hb.1.1.2, hb.1.2⟩ this

set_option maxRecDepth 100000 in
set_option maxHeartbeats 1000000 in
theorem implValid_any (p : Pat) (kv : Value) (w : World) (n : Int) (hc : count p ≤ 1099511627776) (hin : KidsIn w p kv) :
    Calls Try.prog 67 #[p.v kv, .int .i64 n] w fun e w' => e = .returned (.bool (validP p n)) ∧ Below w.heap.size w w' := by
  obtain ⟨A, c, rfl, _, _⟩ := hin.form
  have HIN := Lib.hid hin
  have hc' : (count p : Int) ≤ 1099511627776 := by omega
  clear hin
  by_cases h0 : 0 ≤ n
  · by_cases h1 : n ≤ 24
    · by_cases h2 : (count p : Int) ≤ 300
      · have HV := Lib.hid (validP_eq p n h0 h1 h2)
        go_enter Try.func67, Try.ntmps67
        go_wp2_with fail
        refine (count_any (count p) p _ _ (Nat.le_refl _) hc (KidsIn.later ((Later.refl w).alloc _) _ _ HIN.out)).mono ?_
        rintro e w2 ⟨rfl, hb2⟩
        have hN : w.heap.size < w2.heap.size := Nat.lt_of_lt_of_le (by simp) hb2.size
        have hcell : ∀ k, w2.cell? ⟨w.heap.size, k, none⟩ = (w.alloc _).cell? ⟨w.heap.size, k, none⟩ := fun k => hb2.cell (by simp)
        have hc0 := (hcell 0).trans (cell_of_row _ w.heap.size 0 _ _ _ (heap_alloc_new w _))
        have hc1 := (hcell 1).trans (cell_of_row _ w.heap.size 1 _ _ _ (heap_alloc_new w _))
        have hc2 := (hcell 2).trans (cell_of_row _ w.heap.size 2 _ _ _ (heap_alloc_new w _))
        have hc3 := (hcell 3).trans (cell_of_row _ w.heap.size 3 _ _ _ (heap_alloc_new w _))
        have hc4 := (hcell 4).trans (cell_of_row _ w.heap.size 4 _ _ _ (heap_alloc_new w _))
        have hc5 := (hcell 5).trans (cell_of_row _ w.heap.size 5 _ _ _ (heap_alloc_new w _))
        have hb3 : Below w.heap.size w w2 := ((Below.refl _ _).alloc (Nat.le_refl _) _).trans (Below.mono hb2 (by simp))
        have HIN2 := Lib.hid (KidsIn.later hb3 _ _ HIN.out)
        simp at hc0 hc1 hc2 hc3 hc4 hc5
        clear hcell hb2
        go_wp2_with fail
        refine (validPattern_any (count p) p _ _ n (Nat.le_refl _) hc HIN2.out).mono ?_
        rintro e w3 ⟨rfl, hb4⟩
        have hb5 : Below w.heap.size w w3 := hb3.trans (Below.mono hb4 hb3.size)
        clear hb4
        go_wp2_with fail
        go_ret
        exact ⟨ret_bool HV.out.symm, hb5⟩
      · have HV := Lib.hid (validP_not p n (fun h => h2 h.2.2))
        go_enter Try.func67, Try.ntmps67
        go_wp2_with fail
        refine (count_any (count p) p _ _ (Nat.le_refl _) hc (KidsIn.later ((Later.refl w).alloc _) _ _ HIN.out)).mono ?_
        rintro e w2 ⟨rfl, hb2⟩
        have hb3 : Below w.heap.size w w2 := ((Below.refl _ _).alloc (Nat.le_refl _) _).trans (Below.mono hb2 (by simp))
        clear hb2
        go_wp2_with fail
        go_ret
        exact ⟨ret_bool HV.out.symm, hb3⟩
    · have HV := Lib.hid (validP_not p n (fun h => h1 h.2.1))
      go_enter Try.func67, Try.ntmps67
      go_wp2_with fail
      go_ret
      exact ⟨ret_bool HV.out.symm, (Below.refl _ _).alloc (Nat.le_refl _) _⟩
  · have HV := Lib.hid (validP_not p n (fun h => h0 h.1))
    go_enter Try.func67, Try.ntmps67
    go_wp2_with fail
    go_ret
    exact ⟨ret_bool HV.out.symm, (Below.refl _ _).alloc (Nat.le_refl _) _⟩

end Go.Proofs.Ytndefbecoahfhaa
