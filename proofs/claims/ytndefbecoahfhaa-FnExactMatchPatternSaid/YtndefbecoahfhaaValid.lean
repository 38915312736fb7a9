/- The walk of impl.validPattern, joined. -/
import Derived.Test.YtndefbecoahfhaaValidText
import Derived.Test.YtndefbecoahfhaaValidLen
import Derived.Test.YtndefbecoahfhaaValidSet
import Derived.Test.YtndefbecoahfhaaValidVar
import Derived.Test.YtndefbecoahfhaaValidRest
namespace Go.Proofs.Ytndefbecoahfhaa
open Go.RowKit

set_option maxRecDepth 100000 in
set_option maxHeartbeats 1000000 in
theorem validPattern_out (op : Int) (text : ByteArray) (num lo hi : Int) (l : Nat) (A : Option Addr) (c : Nat) (w : World) (n : Int) (h : ¬ (1 ≤ op ∧ op ≤ 23)) :
    Calls Try.prog 90 #[patV op text num lo hi (.slice A l c), .int .i64 n] w fun e w' => e = .returned (.bool false) ∧ Below w.heap.size w w' := by
  by_cases h1 : op < 1
  · have g1 : decide (op < 1) = true := by simp; omega
    clear h h1
    go_enter Try.func90, Try.ntmps90
    go_wp2_with fail
    go_quiet (fail)
    go_wp2_with fail
    go_ret
    exact ⟨rfl, later_drewN ((Below.refl _ _).alloc (Nat.le_refl _) _) _⟩
  · have g1 : decide (op < 1) = false := by simp; omega
    have g2 : decide (23 < op) = true := by simp; omega
    clear h h1
    go_enter Try.func90, Try.ntmps90
    go_wp2_with fail
    go_quiet (fail)
    go_wp2_with fail
    go_ret
    exact ⟨rfl, later_drewN ((Below.refl _ _).alloc (Nat.le_refl _) _) _⟩

set_option maxRecDepth 100000 in
set_option maxHeartbeats 1000000 in
theorem validPattern_kids (op : Int) (text : ByteArray) (num lo hi : Int) (l : Nat) (A : Option Addr) (c : Nat) (w : World) (n : Int) (h : 1 ≤ op ∧ op ≤ 23) (hk : ¬ (l : Int) = kidsOf op) :
    Calls Try.prog 90 #[patV op text num lo hi (.slice A l c), .int .i64 n] w fun e w' => e = .returned (.bool false) ∧ Below w.heap.size w w' := by
  have g1 : decide (op < 1) = false := by simp; omega
  have g2 : decide (23 < op) = false := by simp; omega
  have g3 : ((l : Int) != kidsOf op) = true := by simp [hk]
  clear h hk
  go_enter Try.func90, Try.ntmps90
  go_wp2_with fail
  go_quiet ((go_at_call 97; exact quiet_left (patternKids_any _ _)))
  go_wp2_with fail
  go_ret
  exact ⟨rfl, later_drewN ((Below.refl _ _).alloc (Nat.le_refl _) _) _⟩

theorem okHead_out (p : Pat) (n : Int) (h : ¬ (1 ≤ p.op ∧ p.op ≤ 23)) : okHead p n = false := by
  simp only [okHead, decide_eq_false h, Bool.false_and]
theorem okHead_kids (p : Pat) (n : Int) (h : ¬ (p.kids.length : Int) = kidsOf p.op) : okHead p n = false := by
  simp only [okHead, decide_eq_false h, Bool.and_false, Bool.false_and]
/-- The five groups of a pattern's op. -/
theorem op_groups (op : Int) (h : 1 ≤ op ∧ op ≤ 23) : op = 1 ∨ (2 ≤ op ∧ op ≤ 6) ∨ (7 ≤ op ∧ op ≤ 10) ∨ (op = 16 ∨ op = 17 ∨ op = 18 ∨ op = 20) ∨ (11 ≤ op ∧ op ≤ 23 ∧ op ≠ 16 ∧ op ≠ 17 ∧ op ≠ 18 ∧ op ≠ 20) := by omega

theorem validPattern_any (k : Nat) : ∀ (p : Pat) (kv : Value) (w : World) (n : Int), count p ≤ k → k ≤ 1099511627776 → KidsIn w p kv →
    Calls Try.prog 90 #[p.v kv, .int .i64 n] w fun e w' => e = .returned (.bool (valid p n)) ∧ Below w.heap.size w w' := by
  induction k with
  | zero => intro p kv w n h; have := count_pos p; omega
  | succ k ih =>
    intro p kv w n hk hk2 hin
    obtain ⟨A, c, rfl, hc, hrow⟩ := hin.form
    have hlen := countAll_len p.kids
    have hce := count_eq p
    have hn : p.kids.length ≤ 1099511627776 := by omega
    by_cases h1 : 1 ≤ p.op ∧ p.op ≤ 23
    · by_cases h2 : (p.kids.length : Int) = kidsOf p.op
      · have IH : Hid (∀ j (h : j < p.kids.length) kv w, KidsIn w p.kids[j] kv → Calls Try.prog 90 #[p.kids[j].v kv, .int .i64 n] w fun e w' => e = .returned (.bool (valid p.kids[j] n)) ∧ Below w.heap.size w w') := by
          intro j hj kv w hkv
          have := count_kid_lt p j hj
          exact ih p.kids[j] kv w n (by omega) (by omega) hkv
        obtain ⟨op, text, num, lo, hi, kids⟩ := p
        simp only [Pat.kids, Pat.op, Pat.v, Pat.text, Pat.num, Pat.lo, Pat.hi] at *
        rw [valid_eq]
        simp only [Pat.kids]
        rcases op_groups op h1 with hg | hg | hg | hg | hg
        · rw [head_text op text num lo hi kids n hg h2]
          by_cases hok : text.size ≤ 120 ∧ num = 0 ∧ lo = 0 ∧ hi = 0
          · rw [decide_eq_true hok, Bool.true_and]; exact validPattern_text_good op text num lo hi kids A c w n hg h2 hn IH hrow hok
          · rw [decide_eq_false hok, Bool.false_and]; exact validPattern_text_bad op text num lo hi kids A c w n hg h2 hok
        · rw [head_len op text num lo hi kids n hg h2]
          by_cases hok : text.toList = [] ∧ 0 ≤ num ∧ num ≤ 120 ∧ lo = 0 ∧ hi = 0
          · rw [decide_eq_true hok, Bool.true_and]; exact validPattern_len_good op text num lo hi kids A c w n hg h2 hn IH hrow hok
          · rw [decide_eq_false hok, Bool.false_and]; exact validPattern_len_bad op text num lo hi kids A c w n hg h2 hok
        · rw [head_set op text num lo hi kids n hg h2]
          by_cases hok : text.toList = [] ∧ num = 0
          · rw [decide_eq_true hok, Bool.true_and]; exact validPattern_set_good op text num lo hi kids A c w n hg h2 hn IH hrow hok
          · rw [decide_eq_false hok, Bool.false_and]; exact validPattern_set_bad op text num lo hi kids A c w n hg h2 hok
        · rw [head_var op text num lo hi kids n hg h2]
          by_cases hok : text.toList = [] ∧ 0 ≤ num ∧ num < n ∧ lo = 0 ∧ hi = 0
          · rw [decide_eq_true hok, Bool.true_and]; exact validPattern_var_good op text num lo hi kids A c w n hg h2 hn IH hrow hok
          · rw [decide_eq_false hok, Bool.false_and]; exact validPattern_var_bad op text num lo hi kids A c w n hg h2 hok
        · rw [head_rest op text num lo hi kids n hg h2]
          by_cases hok : text.toList = [] ∧ num = 0 ∧ lo = 0 ∧ hi = 0
          · rw [decide_eq_true hok, Bool.true_and]; exact validPattern_rest_good op text num lo hi kids A c w n hg h2 hn IH hrow hok
          · rw [decide_eq_false hok, Bool.false_and]; exact validPattern_rest_bad op text num lo hi kids A c w n hg h2 hok
      · rw [valid_eq, okHead_kids p n h2, Bool.false_and]
        exact validPattern_kids p.op p.text p.num p.lo p.hi p.kids.length A c w n h1 h2
    · rw [valid_eq, okHead_out p n h1, Bool.false_and]
      exact validPattern_out p.op p.text p.num p.lo p.hi p.kids.length A c w n h1

end Go.Proofs.Ytndefbecoahfhaa
