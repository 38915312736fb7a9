/- Both pruned searches answer as one plain function. -/
import Derived.Test.YtndefbecoahfhaaZC4
import Derived.Test.YtndefbecoahfhaaZC1
import Derived.Test.YtndefbecoahfhaaZH1
import Derived.Deep.QuietTactic
import Derived.BigQuiet

/- The least length of a pattern's match: leastLength, l21Least. Printed by gen_prleast.py. -/
namespace Go.Proofs.Ytndefbecoahfhaa
open Go.RowKit

def leastNum (op : Int) (n : Nat) (num : Int) (l : List Int) : Int :=
  if op = 1 then n else if op = 2 then num else if op = 7 ∨ op = 8 ∨ op = 9 then 1 else if op = 14 then l.getD 0 0 + l.getD 1 0 else if op = 15 then min (l.getD 0 0) (l.getD 1 0)
  else if op = 16 ∨ op = 17 then l.getD 0 0 else if op = 23 then 121 else 0
mutual
def least : Pat → Int
  | .mk op text num _ _ kids => min (leastNum op text.size num (leastAll kids)) 121
def leastAll : List Pat → List Int
  | [] => []
  | p :: ps => least p :: leastAll ps
end
theorem least_le (p : Pat) : least p ≤ 121 := by cases p; simp only [least]; omega
theorem getD_nonneg {l : List Int} (h : ∀ x ∈ l, 0 ≤ x) (j : Nat) : 0 ≤ l.getD j 0 := by
  rw [List.getD_eq_getElem?_getD]
  cases e : l[j]? with
  | none => simp
  | some v => exact h v (List.mem_of_getElem? e)
theorem okNum_nonneg {p : Pat} {n : Int} (h : valid p n = true) : 0 ≤ p.num := by
  have h := valid_head h
  simp only [okHead, Bool.and_eq_true] at h
  have h := h.1.2
  unfold okNum at h
  split at h
  · simp at h; exact h.1
  · split at h
    · simp at h; exact h.1
    · simp at h; omega
mutual
theorem least_nonneg {n : Int} : ∀ (p : Pat), valid p n = true → 0 ≤ least p
  | .mk op text num lo hi kids, h => by
    have hn : 0 ≤ num := okNum_nonneg h
    rw [valid_eq, Bool.and_eq_true] at h
    have hk := leastAll_nonneg kids h.2
    have h0 := getD_nonneg hk 0
    have h1 := getD_nonneg hk 1
    have : 0 ≤ leastNum op text.size num (leastAll kids) := by
      unfold leastNum
      repeat (first | omega | split)
    simp only [least]
    omega
theorem leastAll_nonneg {n : Int} : ∀ (ps : List Pat), validAll ps n = true → ∀ x ∈ leastAll ps, 0 ≤ x
  | [], _ => by simp [leastAll]
  | p :: ps, h => by
    simp only [validAll, Bool.and_eq_true] at h
    intro x hx
    simp only [leastAll, List.mem_cons] at hx
    rcases hx with rfl | hx
    · exact least_nonneg p h.1
    · exact leastAll_nonneg ps h.2 x hx
end
/-- What the walks of a kid give. -/
def LeastIs (f : Nat) (n : Int) (k : Nat) : Prop := ∀ (p : Pat) (kv : Value) (w : World), count p ≤ k → valid p n = true → KidsIn w p kv → Calls Try.prog f #[p.v kv] w fun e w' => e = .returned (.int .i64 (least p)) ∧ Below w.heap.size w w'
theorem kids2 {w : World} {A : Option Addr} {k0 k1 : Pat} (h : RowIn w A 0 [k0, k1]) : ∃ g kA0 kc0 kA1 kc1, A = some ⟨g, 0, none⟩ ∧ KidsIn w k0 (.slice kA0 k0.kids.length kc0) ∧ ElemAt w g 0 k0 (.slice kA0 k0.kids.length kc0) ∧ KidsIn w k1 (.slice kA1 k1.kids.length kc1) ∧ ElemAt w g 1 k1 (.slice kA1 k1.kids.length kc1) := by
  obtain ⟨g, kA0, kc0, e, h1, h2⟩ := kid_cells h (j := 0) (by simp) (Below.refl _ _)
  obtain ⟨g', kA1, kc1, e', h3, h4⟩ := kid_cells h (j := 1) (by simp) (Below.refl _ _)
  rw [e] at e'
  cases e'
  exact ⟨g, kA0, kc0, kA1, kc1, e, h1, h2, h3, h4⟩
theorem kids1 {w : World} {A : Option Addr} {k0 : Pat} (h : RowIn w A 0 [k0]) : ∃ g kA0 kc0, A = some ⟨g, 0, none⟩ ∧ KidsIn w k0 (.slice kA0 k0.kids.length kc0) ∧ ElemAt w g 0 k0 (.slice kA0 k0.kids.length kc0) := by
  obtain ⟨g, kA0, kc0, e, h1, h2⟩ := kid_cells h (j := 0) (by simp) (Below.refl _ _)
  exact ⟨g, kA0, kc0, e, h1, h2⟩
theorem l1Min_any (a b : Int) (w : World) : Calls Try.prog 86 #[.int .i64 a, .int .i64 b] w fun e w' => e = .returned (.int .i64 (min a b)) ∧ w = w' := by
  by_cases h : a < b
  · have t : decide (a < b) = true := by simpa using h
    have HV := Lib.hid (show min a b = a by omega)
    clear h
    go_enter Try.func86, Try.ntmps86
    go_wp2_with fail
    go_ret
    exact ⟨ret_int HV.out.symm, rfl⟩
  · have t : decide (a < b) = false := by simpa using h
    have HV := Lib.hid (show min a b = b by omega)
    clear h
    go_enter Try.func86, Try.ntmps86
    go_wp2_with fail
    go_ret
    exact ⟨ret_int HV.out.symm, rfl⟩
theorem cell_lt {w : World} {g o : Nat} {v : Value} (h : w.cell? ⟨g, o, none⟩ = some v) : g < w.heap.size := by
  rcases Nat.lt_or_ge g w.heap.size with h2 | h2
  · exact h2
  · exfalso
    have : w.heap[g]? = none := Array.getElem?_eq_none h2
    simp [World.cell?, this] at h

set_option maxRecDepth 100000 in
set_option maxHeartbeats 1000000 in
theorem leastLength_1 (text : ByteArray) (num lo hi : Int) (A : Option Addr) (l c : Nat) (w : World) (ht : text.size ≤ 120) :
    Calls Try.prog 53 #[patV 1 text num lo hi (.slice A l c)] w fun e w' => e = .returned (.int .i64 (text.size)) ∧ Below w.heap.size w w' := by
  have ht1 : (text.size : Int) ≤ 120 := by omega
  have ht0 : (0 : Int) ≤ text.size := by omega
  go_enter Try.func53, Try.ntmps53
  go_wp2_with fail
  all_goals
    go_ret
    exact ⟨ret_int (by omega), (Below.refl _ _).alloc (Nat.le_refl _) _⟩

set_option maxRecDepth 100000 in
set_option maxHeartbeats 1000000 in
theorem leastLength_2 (text : ByteArray) (num lo hi : Int) (A : Option Addr) (l c : Nat) (w : World) (h0 : 0 ≤ num) (h1 : num ≤ 120) :
    Calls Try.prog 53 #[patV 2 text num lo hi (.slice A l c)] w fun e w' => e = .returned (.int .i64 (num)) ∧ Below w.heap.size w w' := by
  go_enter Try.func53, Try.ntmps53
  go_wp2_with fail
  all_goals
    go_ret
    exact ⟨ret_int (by omega), (Below.refl _ _).alloc (Nat.le_refl _) _⟩

set_option maxRecDepth 100000 in
set_option maxHeartbeats 1000000 in
theorem leastLength_7 (text : ByteArray) (num lo hi : Int) (A : Option Addr) (l c : Nat) (w : World) :
    Calls Try.prog 53 #[patV 7 text num lo hi (.slice A l c)] w fun e w' => e = .returned (.int .i64 (1)) ∧ Below w.heap.size w w' := by
  go_enter Try.func53, Try.ntmps53
  go_wp2_with fail
  all_goals
    go_ret
    exact ⟨ret_int (by omega), (Below.refl _ _).alloc (Nat.le_refl _) _⟩

set_option maxRecDepth 100000 in
set_option maxHeartbeats 1000000 in
theorem leastLength_8 (text : ByteArray) (num lo hi : Int) (A : Option Addr) (l c : Nat) (w : World) :
    Calls Try.prog 53 #[patV 8 text num lo hi (.slice A l c)] w fun e w' => e = .returned (.int .i64 (1)) ∧ Below w.heap.size w w' := by
  go_enter Try.func53, Try.ntmps53
  go_wp2_with fail
  all_goals
    go_ret
    exact ⟨ret_int (by omega), (Below.refl _ _).alloc (Nat.le_refl _) _⟩

set_option maxRecDepth 100000 in
set_option maxHeartbeats 1000000 in
theorem leastLength_9 (text : ByteArray) (num lo hi : Int) (A : Option Addr) (l c : Nat) (w : World) :
    Calls Try.prog 53 #[patV 9 text num lo hi (.slice A l c)] w fun e w' => e = .returned (.int .i64 (1)) ∧ Below w.heap.size w w' := by
  go_enter Try.func53, Try.ntmps53
  go_wp2_with fail
  all_goals
    go_ret
    exact ⟨ret_int (by omega), (Below.refl _ _).alloc (Nat.le_refl _) _⟩

set_option maxRecDepth 100000 in
set_option maxHeartbeats 1000000 in
theorem leastLength_23 (text : ByteArray) (num lo hi : Int) (A : Option Addr) (l c : Nat) (w : World) :
    Calls Try.prog 53 #[patV 23 text num lo hi (.slice A l c)] w fun e w' => e = .returned (.int .i64 (121)) ∧ Below w.heap.size w w' := by
  go_enter Try.func53, Try.ntmps53
  go_wp2_with fail
  all_goals
    go_ret
    exact ⟨ret_int (by omega), (Below.refl _ _).alloc (Nat.le_refl _) _⟩

set_option maxRecDepth 100000 in
set_option maxHeartbeats 1000000 in
theorem leastLength_else (text : ByteArray) (num lo hi : Int) (A : Option Addr) (l c : Nat) (w : World) (op : Int) (o1 : ¬ op = 1) (o2 : ¬ op = 2) (o7 : ¬ op = 7) (o8 : ¬ op = 8) (o9 : ¬ op = 9) (o14 : ¬ op = 14) (o15 : ¬ op = 15) (o16 : ¬ op = 16) (o17 : ¬ op = 17) (o23 : ¬ op = 23) :
    Calls Try.prog 53 #[patV op text num lo hi (.slice A l c)] w fun e w' => e = .returned (.int .i64 (0)) ∧ Below w.heap.size w w' := by
  have n1 : (op == 1) = false := by simp; omega
  have n2 : (op == 2) = false := by simp; omega
  have n7 : (op == 7) = false := by simp; omega
  have n8 : (op == 8) = false := by simp; omega
  have n9 : (op == 9) = false := by simp; omega
  have n14 : (op == 14) = false := by simp; omega
  have n15 : (op == 15) = false := by simp; omega
  have n16 : (op == 16) = false := by simp; omega
  have n17 : (op == 17) = false := by simp; omega
  have n23 : (op == 23) = false := by simp; omega
  clear o1 o2 o7 o8 o9 o14 o15 o16 o17 o23
  go_enter Try.func53, Try.ntmps53
  go_wp2_with fail
  all_goals
    go_ret
    exact ⟨ret_int (by omega), (Below.refl _ _).alloc (Nat.le_refl _) _⟩

set_option maxRecDepth 100000 in
set_option maxHeartbeats 1000000 in
theorem leastLength_16 {n : Int} {k : Nat} (ih : LeastIs 53 n k) (text : ByteArray) (num lo hi : Int) (A : Option Addr) (c : Nat) (k0 : Pat) (w : World) (hc0 : count k0 ≤ k) (hv0 : valid k0 n = true) (hr : RowIn w A 0 [k0]) :
    Calls Try.prog 53 #[patV 16 text num lo hi (.slice A 1 c)] w fun e w' => e = .returned (.int .i64 (min (least k0) 121)) ∧ Below w.heap.size w w' := by
  obtain ⟨g, kA0, kc0, rfl, hk0, he0⟩ := kids1 hr
  obtain ⟨e00, e01, e02, e03, e04, e05⟩ := he0
  simp only [Nat.zero_mul, Nat.zero_add] at e00 e01 e02 e03 e04 e05
  have hg : g < w.heap.size := cell_lt e00
  have IH := Lib.hid ih
  have HV0 := Lib.hid hv0
  have HK0 := Lib.hid hk0
  clear ih hr hv0 hk0
  go_enter Try.func53, Try.ntmps53
  go_wp2_with fail
  refine (IH.out k0 _ _ hc0 HV0.out (KidsIn.later ((Later.refl w).alloc _) _ _ HK0.out)).mono ?_
  rintro e w2 ⟨rfl, hb2⟩
  have hb3 : Below w.heap.size w w2 := ((Below.refl _ _).alloc (Nat.le_refl _) _).trans (Below.mono hb2 (by simp))
  clear hb2
  go_wp2_with fail
  all_goals
    go_ret
    exact ⟨ret_int (by omega), hb3⟩

set_option maxRecDepth 100000 in
set_option maxHeartbeats 1000000 in
theorem leastLength_17 {n : Int} {k : Nat} (ih : LeastIs 53 n k) (text : ByteArray) (num lo hi : Int) (A : Option Addr) (c : Nat) (k0 : Pat) (w : World) (hc0 : count k0 ≤ k) (hv0 : valid k0 n = true) (hr : RowIn w A 0 [k0]) :
    Calls Try.prog 53 #[patV 17 text num lo hi (.slice A 1 c)] w fun e w' => e = .returned (.int .i64 (min (least k0) 121)) ∧ Below w.heap.size w w' := by
  obtain ⟨g, kA0, kc0, rfl, hk0, he0⟩ := kids1 hr
  obtain ⟨e00, e01, e02, e03, e04, e05⟩ := he0
  simp only [Nat.zero_mul, Nat.zero_add] at e00 e01 e02 e03 e04 e05
  have hg : g < w.heap.size := cell_lt e00
  have IH := Lib.hid ih
  have HV0 := Lib.hid hv0
  have HK0 := Lib.hid hk0
  clear ih hr hv0 hk0
  go_enter Try.func53, Try.ntmps53
  go_wp2_with fail
  refine (IH.out k0 _ _ hc0 HV0.out (KidsIn.later ((Later.refl w).alloc _) _ _ HK0.out)).mono ?_
  rintro e w2 ⟨rfl, hb2⟩
  have hb3 : Below w.heap.size w w2 := ((Below.refl _ _).alloc (Nat.le_refl _) _).trans (Below.mono hb2 (by simp))
  clear hb2
  go_wp2_with fail
  all_goals
    go_ret
    exact ⟨ret_int (by omega), hb3⟩

set_option maxRecDepth 100000 in
set_option maxHeartbeats 2000000 in
theorem leastLength_14 {n : Int} {k : Nat} (ih : LeastIs 53 n k) (text : ByteArray) (num lo hi : Int) (A : Option Addr) (c : Nat) (k0 k1 : Pat) (w : World) (hc0 : count k0 ≤ k) (hv0 : valid k0 n = true) (hc1 : count k1 ≤ k) (hv1 : valid k1 n = true) (hr : RowIn w A 0 [k0, k1]) :
    Calls Try.prog 53 #[patV 14 text num lo hi (.slice A 2 c)] w fun e w' => e = .returned (.int .i64 (min (least k0 + least k1) 121)) ∧ Below w.heap.size w w' := by
  obtain ⟨g, kA0, kc0, kA1, kc1, rfl, hk0, he0, hk1, he1⟩ := kids2 hr
  have IH := Lib.hid ih
  have HV0 := Lib.hid hv0
  have HV1 := Lib.hid hv1
  have a0 := least_nonneg k0 hv0
  have a1 := least_le k0
  have b0 := least_nonneg k1 hv1
  have b1 := least_le k1
  obtain ⟨a, ha⟩ : ∃ a, least k0 = a := ⟨_, rfl⟩
  obtain ⟨b, hb⟩ : ∃ b, least k1 = b := ⟨_, rfl⟩
  have Ha := Lib.hid ha
  have Hb := Lib.hid hb
  rw [ha] at a0 a1
  rw [hb] at b0 b1
  have HK0' := Lib.hid hk0
  have HK1' := Lib.hid hk1
  have HE0' := Lib.hid he0
  have HE1' := Lib.hid he1
  clear ih hr hv0 hv1 hk0 hk1 he0 he1 ha hb
  go_enter Try.func53, Try.ntmps53
  go_wp2_with fail
  -- region 12: 12 operations
  refine wpU_begin [] [] (by kernel_rfl) (fun w1 hw1 => ?_)
  obtain ⟨hl1, hp1⟩ := drew_alloc hw1
  have HP1 := Lib.hid hp1
  have HL1 := Lib.hid hl1
  have HK0 := Lib.hid (KidsIn.later hl1 _ _ HK0'.out)
  have HK1 := Lib.hid (KidsIn.later hl1 _ _ HK1'.out)
  have HE0 := Lib.hid (HE0'.out.below hl1)
  have HE1 := Lib.hid (HE1'.out.below hl1)
  have HJw1 := Lib.hid (Later.refl w1)
  clear hw1 hl1 hp1
  refine wpU_take 0 (some 21) (v := ?_) rfl rfl (by kernel_rfl) (fun _ _ _ h => h) rfl (fun x hx => ?_) ?_
  rotate_left 1
  · go_simp; first | done | with_reducible rfl | rw [if_neg (by omega)] | rw [if_pos (by omega)]
  simp only [Act.put, List.setIfInBounds_toArray, List.set_cons_zero, List.set_cons_succ]
  refine wpU_take 1 (some 22) (v := ?_) rfl rfl (by kernel_rfl) (fun _ _ _ h => h) rfl (fun x hx => ?_) ?_
  rotate_left 1
  · obtain ⟨p0, p1, p2, p3, p4, p5⟩ := cells_p (hx.has HP1.out); obtain ⟨e00, e01, e02, e03, e04, e05⟩ := HE0.out.below hx; simp only [Nat.zero_mul, Nat.zero_add] at e00 e01 e02 e03 e04 e05; obtain ⟨e10, e11, e12, e13, e14, e15⟩ := HE1.out.below hx; simp only [Nat.one_mul, Nat.reduceAdd] at e10 e11 e12 e13 e14 e15; go_simp; first | done | with_reducible rfl | rw [if_neg (by omega)] | rw [if_pos (by omega)]
  simp only [Act.put, List.setIfInBounds_toArray, List.set_cons_zero, List.set_cons_succ]
  refine wpU_take 2 (some 23) (v := ?_) rfl rfl (by kernel_rfl) (fun _ _ _ h => h) rfl (fun x hx => ?_) ?_
  rotate_left 1
  · go_simp; first | done | with_reducible rfl | rw [if_neg (by omega)] | rw [if_pos (by omega)]
  simp only [Act.put, List.setIfInBounds_toArray, List.set_cons_zero, List.set_cons_succ]
  refine wpU_take 3 (some 24) (v := ?_) rfl rfl (by kernel_rfl) (fun _ _ _ h => h) rfl (fun x hx => ?_) ?_
  rotate_left 1
  · obtain ⟨p0, p1, p2, p3, p4, p5⟩ := cells_p (hx.has HP1.out); obtain ⟨e00, e01, e02, e03, e04, e05⟩ := HE0.out.below hx; simp only [Nat.zero_mul, Nat.zero_add] at e00 e01 e02 e03 e04 e05; obtain ⟨e10, e11, e12, e13, e14, e15⟩ := HE1.out.below hx; simp only [Nat.one_mul, Nat.reduceAdd] at e10 e11 e12 e13 e14 e15; go_simp; first | done | with_reducible rfl | rw [if_neg (by omega)] | rw [if_pos (by omega)]
  simp only [Act.put, List.setIfInBounds_toArray, List.set_cons_zero, List.set_cons_succ]
  refine wpU_take 5 (some 26) (v := ?_) rfl rfl (by kernel_rfl) (fun _ _ _ h => h) rfl (fun x hx => ?_) ?_
  rotate_left 1
  · go_simp; first | done | with_reducible rfl | rw [if_neg (by omega)] | rw [if_pos (by omega)]
  simp only [Act.put, List.setIfInBounds_toArray, List.set_cons_zero, List.set_cons_succ]
  refine wpU_take 6 (some 27) (v := ?_) rfl rfl (by kernel_rfl) (fun _ _ _ h => h) rfl (fun x hx => ?_) ?_
  rotate_left 1
  · obtain ⟨p0, p1, p2, p3, p4, p5⟩ := cells_p (hx.has HP1.out); obtain ⟨e00, e01, e02, e03, e04, e05⟩ := HE0.out.below hx; simp only [Nat.zero_mul, Nat.zero_add] at e00 e01 e02 e03 e04 e05; obtain ⟨e10, e11, e12, e13, e14, e15⟩ := HE1.out.below hx; simp only [Nat.one_mul, Nat.reduceAdd] at e10 e11 e12 e13 e14 e15; go_simp; first | done | with_reducible rfl | rw [if_neg (by omega)] | rw [if_pos (by omega)]
  simp only [Act.put, List.setIfInBounds_toArray, List.set_cons_zero, List.set_cons_succ]
  refine wpU_take 7 (some 28) (v := ?_) rfl rfl (by kernel_rfl) (fun _ _ _ h => h) rfl (fun x hx => ?_) ?_
  rotate_left 1
  · go_simp; first | done | with_reducible rfl | rw [if_neg (by omega)] | rw [if_pos (by omega)]
  simp only [Act.put, List.setIfInBounds_toArray, List.set_cons_zero, List.set_cons_succ]
  refine wpU_take 8 (some 29) (v := ?_) rfl rfl (by kernel_rfl) (fun _ _ _ h => h) rfl (fun x hx => ?_) ?_
  rotate_left 1
  · obtain ⟨p0, p1, p2, p3, p4, p5⟩ := cells_p (hx.has HP1.out); obtain ⟨e00, e01, e02, e03, e04, e05⟩ := HE0.out.below hx; simp only [Nat.zero_mul, Nat.zero_add] at e00 e01 e02 e03 e04 e05; obtain ⟨e10, e11, e12, e13, e14, e15⟩ := HE1.out.below hx; simp only [Nat.one_mul, Nat.reduceAdd] at e10 e11 e12 e13 e14 e15; go_simp; first | done | with_reducible rfl | rw [if_neg (by omega)] | rw [if_pos (by omega)]
  simp only [Act.put, List.setIfInBounds_toArray, List.set_cons_zero, List.set_cons_succ]
  refine wpU_step 4 (by kernel_rfl) rfl rfl ?_
  go_wp2_with fail
  refine (IH.out k0 _ _ hc0 HV0.out (KidsIn.later HJw1.out _ _ HK0.out)).mono ?_
  rintro e ws4 ⟨rfl, hb⟩
  rw [Ha.out]
  go_wp2_with fail
  refine ⟨hb, ?_⟩
  have HJws4 := Lib.hid (HJw1.out.trans hb)
  clear hb
  refine wpU_step 9 (by kernel_rfl) rfl rfl ?_
  go_wp2_with fail
  refine (IH.out k1 _ _ hc1 HV1.out (KidsIn.later HJws4.out _ _ HK1.out)).mono ?_
  rintro e ws9 ⟨rfl, hb⟩
  rw [Hb.out]
  go_wp2_with fail
  refine ⟨hb, ?_⟩
  have HJws9 := Lib.hid (HJws4.out.trans hb)
  clear hb
  refine wpU_take 10 (some 31) (v := ?_) rfl rfl (by kernel_rfl) (fun _ _ _ h => h) rfl (fun x hx => ?_) ?_
  rotate_left 1
  · go_simp; first | done | with_reducible rfl | rw [if_neg (by omega)] | rw [if_pos (by omega)]
  simp only [Act.put, List.setIfInBounds_toArray, List.set_cons_zero, List.set_cons_succ]
  refine wpU_take 11 (some 3) (v := ?_) rfl rfl (by kernel_rfl) (fun _ _ _ h => h) rfl (fun x hx => ?_) ?_
  rotate_left 1
  · go_simp; first | done | with_reducible rfl | rw [if_neg (by omega)] | rw [if_pos (by omega)]
  simp only [Act.put, List.setIfInBounds_toArray, List.set_cons_zero, List.set_cons_succ]
  refine wpU_last [] (by kernel_rfl) rfl rfl ?_
  go_wp2_with fail
  all_goals
    go_ret
    exact ⟨ret_int (by first | (rw [Ha.out, Hb.out]; omega) | rw [Ha.out, Hb.out]), HL1.out.trans HJws9.out⟩

set_option maxRecDepth 100000 in
set_option maxHeartbeats 2000000 in
theorem leastLength_15 {n : Int} {k : Nat} (ih : LeastIs 53 n k) (text : ByteArray) (num lo hi : Int) (A : Option Addr) (c : Nat) (k0 k1 : Pat) (w : World) (hc0 : count k0 ≤ k) (hv0 : valid k0 n = true) (hc1 : count k1 ≤ k) (hv1 : valid k1 n = true) (hr : RowIn w A 0 [k0, k1]) :
    Calls Try.prog 53 #[patV 15 text num lo hi (.slice A 2 c)] w fun e w' => e = .returned (.int .i64 (min (min (least k0) (least k1)) 121)) ∧ Below w.heap.size w w' := by
  obtain ⟨g, kA0, kc0, kA1, kc1, rfl, hk0, he0, hk1, he1⟩ := kids2 hr
  have IH := Lib.hid ih
  have HV0 := Lib.hid hv0
  have HV1 := Lib.hid hv1
  have a0 := least_nonneg k0 hv0
  have a1 := least_le k0
  have b0 := least_nonneg k1 hv1
  have b1 := least_le k1
  obtain ⟨a, ha⟩ : ∃ a, least k0 = a := ⟨_, rfl⟩
  obtain ⟨b, hb⟩ : ∃ b, least k1 = b := ⟨_, rfl⟩
  have Ha := Lib.hid ha
  have Hb := Lib.hid hb
  rw [ha] at a0 a1
  rw [hb] at b0 b1
  have HK0' := Lib.hid hk0
  have HK1' := Lib.hid hk1
  have HE0' := Lib.hid he0
  have HE1' := Lib.hid he1
  clear ih hr hv0 hv1 hk0 hk1 he0 he1 ha hb
  go_enter Try.func53, Try.ntmps53
  go_wp2_with fail
  -- region 14: 12 operations
  refine wpU_begin [] [] (by kernel_rfl) (fun w1 hw1 => ?_)
  obtain ⟨hl1, hp1⟩ := drew_alloc hw1
  have HP1 := Lib.hid hp1
  have HL1 := Lib.hid hl1
  have HK0 := Lib.hid (KidsIn.later hl1 _ _ HK0'.out)
  have HK1 := Lib.hid (KidsIn.later hl1 _ _ HK1'.out)
  have HE0 := Lib.hid (HE0'.out.below hl1)
  have HE1 := Lib.hid (HE1'.out.below hl1)
  have HJw1 := Lib.hid (Later.refl w1)
  clear hw1 hl1 hp1
  refine wpU_take 0 (some 34) (v := ?_) rfl rfl (by kernel_rfl) (fun _ _ _ h => h) rfl (fun x hx => ?_) ?_
  rotate_left 1
  · go_simp; first | done | with_reducible rfl | rw [if_neg (by omega)] | rw [if_pos (by omega)]
  simp only [Act.put, List.setIfInBounds_toArray, List.set_cons_zero, List.set_cons_succ]
  refine wpU_take 1 (some 35) (v := ?_) rfl rfl (by kernel_rfl) (fun _ _ _ h => h) rfl (fun x hx => ?_) ?_
  rotate_left 1
  · obtain ⟨p0, p1, p2, p3, p4, p5⟩ := cells_p (hx.has HP1.out); obtain ⟨e00, e01, e02, e03, e04, e05⟩ := HE0.out.below hx; simp only [Nat.zero_mul, Nat.zero_add] at e00 e01 e02 e03 e04 e05; obtain ⟨e10, e11, e12, e13, e14, e15⟩ := HE1.out.below hx; simp only [Nat.one_mul, Nat.reduceAdd] at e10 e11 e12 e13 e14 e15; go_simp; first | done | with_reducible rfl | rw [if_neg (by omega)] | rw [if_pos (by omega)]
  simp only [Act.put, List.setIfInBounds_toArray, List.set_cons_zero, List.set_cons_succ]
  refine wpU_take 2 (some 36) (v := ?_) rfl rfl (by kernel_rfl) (fun _ _ _ h => h) rfl (fun x hx => ?_) ?_
  rotate_left 1
  · go_simp; first | done | with_reducible rfl | rw [if_neg (by omega)] | rw [if_pos (by omega)]
  simp only [Act.put, List.setIfInBounds_toArray, List.set_cons_zero, List.set_cons_succ]
  refine wpU_take 3 (some 37) (v := ?_) rfl rfl (by kernel_rfl) (fun _ _ _ h => h) rfl (fun x hx => ?_) ?_
  rotate_left 1
  · obtain ⟨p0, p1, p2, p3, p4, p5⟩ := cells_p (hx.has HP1.out); obtain ⟨e00, e01, e02, e03, e04, e05⟩ := HE0.out.below hx; simp only [Nat.zero_mul, Nat.zero_add] at e00 e01 e02 e03 e04 e05; obtain ⟨e10, e11, e12, e13, e14, e15⟩ := HE1.out.below hx; simp only [Nat.one_mul, Nat.reduceAdd] at e10 e11 e12 e13 e14 e15; go_simp; first | done | with_reducible rfl | rw [if_neg (by omega)] | rw [if_pos (by omega)]
  simp only [Act.put, List.setIfInBounds_toArray, List.set_cons_zero, List.set_cons_succ]
  refine wpU_take 5 (some 39) (v := ?_) rfl rfl (by kernel_rfl) (fun _ _ _ h => h) rfl (fun x hx => ?_) ?_
  rotate_left 1
  · go_simp; first | done | with_reducible rfl | rw [if_neg (by omega)] | rw [if_pos (by omega)]
  simp only [Act.put, List.setIfInBounds_toArray, List.set_cons_zero, List.set_cons_succ]
  refine wpU_take 6 (some 40) (v := ?_) rfl rfl (by kernel_rfl) (fun _ _ _ h => h) rfl (fun x hx => ?_) ?_
  rotate_left 1
  · obtain ⟨p0, p1, p2, p3, p4, p5⟩ := cells_p (hx.has HP1.out); obtain ⟨e00, e01, e02, e03, e04, e05⟩ := HE0.out.below hx; simp only [Nat.zero_mul, Nat.zero_add] at e00 e01 e02 e03 e04 e05; obtain ⟨e10, e11, e12, e13, e14, e15⟩ := HE1.out.below hx; simp only [Nat.one_mul, Nat.reduceAdd] at e10 e11 e12 e13 e14 e15; go_simp; first | done | with_reducible rfl | rw [if_neg (by omega)] | rw [if_pos (by omega)]
  simp only [Act.put, List.setIfInBounds_toArray, List.set_cons_zero, List.set_cons_succ]
  refine wpU_take 7 (some 41) (v := ?_) rfl rfl (by kernel_rfl) (fun _ _ _ h => h) rfl (fun x hx => ?_) ?_
  rotate_left 1
  · go_simp; first | done | with_reducible rfl | rw [if_neg (by omega)] | rw [if_pos (by omega)]
  simp only [Act.put, List.setIfInBounds_toArray, List.set_cons_zero, List.set_cons_succ]
  refine wpU_take 8 (some 42) (v := ?_) rfl rfl (by kernel_rfl) (fun _ _ _ h => h) rfl (fun x hx => ?_) ?_
  rotate_left 1
  · obtain ⟨p0, p1, p2, p3, p4, p5⟩ := cells_p (hx.has HP1.out); obtain ⟨e00, e01, e02, e03, e04, e05⟩ := HE0.out.below hx; simp only [Nat.zero_mul, Nat.zero_add] at e00 e01 e02 e03 e04 e05; obtain ⟨e10, e11, e12, e13, e14, e15⟩ := HE1.out.below hx; simp only [Nat.one_mul, Nat.reduceAdd] at e10 e11 e12 e13 e14 e15; go_simp; first | done | with_reducible rfl | rw [if_neg (by omega)] | rw [if_pos (by omega)]
  simp only [Act.put, List.setIfInBounds_toArray, List.set_cons_zero, List.set_cons_succ]
  refine wpU_step 4 (by kernel_rfl) rfl rfl ?_
  go_wp2_with fail
  refine (IH.out k0 _ _ hc0 HV0.out (KidsIn.later HJw1.out _ _ HK0.out)).mono ?_
  rintro e ws4 ⟨rfl, hb⟩
  rw [Ha.out]
  go_wp2_with fail
  refine ⟨hb, ?_⟩
  have HJws4 := Lib.hid (HJw1.out.trans hb)
  clear hb
  refine wpU_step 9 (by kernel_rfl) rfl rfl ?_
  go_wp2_with fail
  refine (IH.out k1 _ _ hc1 HV1.out (KidsIn.later HJws4.out _ _ HK1.out)).mono ?_
  rintro e ws9 ⟨rfl, hb⟩
  rw [Hb.out]
  go_wp2_with fail
  refine ⟨hb, ?_⟩
  have HJws9 := Lib.hid (HJws4.out.trans hb)
  clear hb
  refine wpU_take 10 (some 44) (v := ?_) rfl rfl (by kernel_rfl) (fun _ _ _ h => h) rfl (fun x hx => ?_) ?_
  rotate_left 1
  · go_simp; first | done | with_reducible rfl | rw [if_neg (by omega)] | rw [if_pos (by omega)]
  simp only [Act.put, List.setIfInBounds_toArray, List.set_cons_zero, List.set_cons_succ]
  refine wpU_take 11 (some 3) (v := ?_) rfl rfl (by kernel_rfl) (fun _ _ _ h => h) rfl (fun x hx => ?_) ?_
  rotate_left 1
  · go_simp; first | done | with_reducible rfl | rw [if_neg (by omega)] | rw [if_pos (by omega)]
  simp only [Act.put, List.setIfInBounds_toArray, List.set_cons_zero, List.set_cons_succ]
  refine wpU_last [] (by kernel_rfl) rfl rfl ?_
  go_wp2_with fail
  all_goals
    go_ret
    exact ⟨ret_int (by first | (rw [Ha.out, Hb.out]; omega) | rw [Ha.out, Hb.out]), HL1.out.trans HJws9.out⟩

theorem leastLength_any (n : Int) (k : Nat) : LeastIs 53 n k := by
  induction k with
  | zero => intro p kv w h; have := count_pos p; omega
  | succ k ih =>
    intro p kv w hk hv hin
    obtain ⟨A, c, rfl, hc, hrow⟩ := hin.form
    have hkid := valid_kids hv
    have htx := valid_text hv
    have hnn := okNum_nonneg hv
    have hnl : p.op = 2 → p.num ≤ 120 := fun e => (by
      have h := valid_head hv
      simp only [okHead, Bool.and_eq_true] at h
      have h := h.1.2
      unfold okNum at h
      rw [if_pos (by omega)] at h
      simp at h; exact h.2)
    have hva : validAll p.kids n = true := by rw [valid_eq, Bool.and_eq_true] at hv; exact hv.2
    have hva := (validAll_iff _ _).1 hva
    have hcn : ∀ j (h : j < p.kids.length), count p.kids[j] ≤ k := fun j h => by have := count_kid_lt p j h; omega
    obtain ⟨op, text, num, lo, hi, kids⟩ := p
    simp only [Pat.op, Pat.kids, Pat.text, Pat.num] at *
    clear hv hk hin
    have hval : least (.mk op text num lo hi kids) = min (leastNum op text.size num (leastAll kids)) 121 := by simp only [least]
    show Calls Try.prog 53 #[patV op text num lo hi (.slice A kids.length c)] w _
    rw [hval]
    clear hval
    by_cases o1 : op = 1
    · subst o1
      have ht : text.size ≤ 120 := (by simp only [okText, Pat.op, Pat.text] at htx; rw [if_pos trivial] at htx; exact of_decide_eq_true htx)
      have e : min (leastNum 1 text.size num (leastAll kids)) 121 = (text.size : Int) := by unfold leastNum; rw [if_pos rfl]; omega
      rw [e]
      exact leastLength_1 text num lo hi A kids.length c w ht
    by_cases o2 : op = 2
    · subst o2
      have e : min (leastNum 2 text.size num (leastAll kids)) 121 = num := by unfold leastNum; rw [if_neg (by omega), if_pos rfl]; have := hnl rfl; omega
      rw [e]
      exact leastLength_2 text num lo hi A kids.length c w hnn (hnl rfl)
    by_cases o7 : op = 7
    · subst o7; exact leastLength_7 text num lo hi A kids.length c w
    by_cases o8 : op = 8
    · subst o8; exact leastLength_8 text num lo hi A kids.length c w
    by_cases o9 : op = 9
    · subst o9; exact leastLength_9 text num lo hi A kids.length c w
    by_cases o23 : op = 23
    · subst o23; exact leastLength_23 text num lo hi A kids.length c w
    by_cases o14 : op = 14
    · subst o14
      have hl : kids.length = 2 := by have := hkid.2; simp [kidsOf] at this; omega
      match kids, hl with
      | [k0, k1], _ => exact leastLength_14 ih text num lo hi A c k0 k1 w (hcn 0 (by simp)) (hva 0 (by simp)) (hcn 1 (by simp)) (hva 1 (by simp)) hrow
    by_cases o15 : op = 15
    · subst o15
      have hl : kids.length = 2 := by have := hkid.2; simp [kidsOf] at this; omega
      match kids, hl with
      | [k0, k1], _ => exact leastLength_15 ih text num lo hi A c k0 k1 w (hcn 0 (by simp)) (hva 0 (by simp)) (hcn 1 (by simp)) (hva 1 (by simp)) hrow
    by_cases o16 : op = 16
    · subst o16
      have hl : kids.length = 1 := by have := hkid.2; simp [kidsOf] at this; omega
      match kids, hl with
      | [k0], _ => exact leastLength_16 ih text num lo hi A c k0 w (hcn 0 (by simp)) (hva 0 (by simp)) hrow
    by_cases o17 : op = 17
    · subst o17
      have hl : kids.length = 1 := by have := hkid.2; simp [kidsOf] at this; omega
      match kids, hl with
      | [k0], _ => exact leastLength_17 ih text num lo hi A c k0 w (hcn 0 (by simp)) (hva 0 (by simp)) hrow
    have e : min (leastNum op text.size num (leastAll kids)) 121 = 0 := by
      unfold leastNum
      rw [if_neg o1, if_neg o2, if_neg (by omega), if_neg o14, if_neg o15, if_neg (by omega), if_neg o23]; rfl
    rw [e]
    exact leastLength_else text num lo hi A kids.length c w op o1 o2 o7 o8 o9 o14 o15 o16 o17 o23

set_option maxRecDepth 100000 in
set_option maxHeartbeats 1000000 in
theorem l21Least_1 (text : ByteArray) (num lo hi : Int) (A : Option Addr) (l c : Nat) (w : World) (ht : text.size ≤ 120) :
    Calls Try.prog 61 #[patV 1 text num lo hi (.slice A l c)] w fun e w' => e = .returned (.int .i64 (text.size)) ∧ Below w.heap.size w w' := by
  have ht1 : (text.size : Int) ≤ 120 := by omega
  have ht0 : (0 : Int) ≤ text.size := by omega
  go_enter Try.func61, Try.ntmps61
  go_wp2_with fail
  refine (l1Min_any _ _ _).mono ?_
  rintro e wz ⟨rfl, rfl⟩
  go_wp2_with fail
  go_ret
  exact ⟨ret_int (by omega), (Below.refl _ _).alloc (Nat.le_refl _) _⟩

set_option maxRecDepth 100000 in
set_option maxHeartbeats 1000000 in
theorem l21Least_2 (text : ByteArray) (num lo hi : Int) (A : Option Addr) (l c : Nat) (w : World) (h0 : 0 ≤ num) (h1 : num ≤ 120) :
    Calls Try.prog 61 #[patV 2 text num lo hi (.slice A l c)] w fun e w' => e = .returned (.int .i64 (num)) ∧ Below w.heap.size w w' := by
  go_enter Try.func61, Try.ntmps61
  go_wp2_with fail
  refine (l1Min_any _ _ _).mono ?_
  rintro e wz ⟨rfl, rfl⟩
  go_wp2_with fail
  go_ret
  exact ⟨ret_int (by omega), (Below.refl _ _).alloc (Nat.le_refl _) _⟩

set_option maxRecDepth 100000 in
set_option maxHeartbeats 1000000 in
theorem l21Least_7 (text : ByteArray) (num lo hi : Int) (A : Option Addr) (l c : Nat) (w : World) :
    Calls Try.prog 61 #[patV 7 text num lo hi (.slice A l c)] w fun e w' => e = .returned (.int .i64 (1)) ∧ Below w.heap.size w w' := by
  go_enter Try.func61, Try.ntmps61
  go_wp2_with fail
  refine (l1Min_any _ _ _).mono ?_
  rintro e wz ⟨rfl, rfl⟩
  go_wp2_with fail
  go_ret
  exact ⟨ret_int (by omega), (Below.refl _ _).alloc (Nat.le_refl _) _⟩

set_option maxRecDepth 100000 in
set_option maxHeartbeats 1000000 in
theorem l21Least_8 (text : ByteArray) (num lo hi : Int) (A : Option Addr) (l c : Nat) (w : World) :
    Calls Try.prog 61 #[patV 8 text num lo hi (.slice A l c)] w fun e w' => e = .returned (.int .i64 (1)) ∧ Below w.heap.size w w' := by
  go_enter Try.func61, Try.ntmps61
  go_wp2_with fail
  refine (l1Min_any _ _ _).mono ?_
  rintro e wz ⟨rfl, rfl⟩
  go_wp2_with fail
  go_ret
  exact ⟨ret_int (by omega), (Below.refl _ _).alloc (Nat.le_refl _) _⟩

set_option maxRecDepth 100000 in
set_option maxHeartbeats 1000000 in
theorem l21Least_9 (text : ByteArray) (num lo hi : Int) (A : Option Addr) (l c : Nat) (w : World) :
    Calls Try.prog 61 #[patV 9 text num lo hi (.slice A l c)] w fun e w' => e = .returned (.int .i64 (1)) ∧ Below w.heap.size w w' := by
  go_enter Try.func61, Try.ntmps61
  go_wp2_with fail
  refine (l1Min_any _ _ _).mono ?_
  rintro e wz ⟨rfl, rfl⟩
  go_wp2_with fail
  go_ret
  exact ⟨ret_int (by omega), (Below.refl _ _).alloc (Nat.le_refl _) _⟩

set_option maxRecDepth 100000 in
set_option maxHeartbeats 1000000 in
theorem l21Least_23 (text : ByteArray) (num lo hi : Int) (A : Option Addr) (l c : Nat) (w : World) :
    Calls Try.prog 61 #[patV 23 text num lo hi (.slice A l c)] w fun e w' => e = .returned (.int .i64 (121)) ∧ Below w.heap.size w w' := by
  go_enter Try.func61, Try.ntmps61
  go_wp2_with fail
  refine (l1Min_any _ _ _).mono ?_
  rintro e wz ⟨rfl, rfl⟩
  go_wp2_with fail
  go_ret
  exact ⟨ret_int (by omega), (Below.refl _ _).alloc (Nat.le_refl _) _⟩

set_option maxRecDepth 100000 in
set_option maxHeartbeats 1000000 in
theorem l21Least_else (text : ByteArray) (num lo hi : Int) (A : Option Addr) (l c : Nat) (w : World) (op : Int) (o1 : ¬ op = 1) (o2 : ¬ op = 2) (o7 : ¬ op = 7) (o8 : ¬ op = 8) (o9 : ¬ op = 9) (o14 : ¬ op = 14) (o15 : ¬ op = 15) (o16 : ¬ op = 16) (o17 : ¬ op = 17) (o23 : ¬ op = 23) :
    Calls Try.prog 61 #[patV op text num lo hi (.slice A l c)] w fun e w' => e = .returned (.int .i64 (0)) ∧ Below w.heap.size w w' := by
  have n1 : (op == 1) = false := by simp; omega
  have n2 : (op == 2) = false := by simp; omega
  have n7 : (op == 7) = false := by simp; omega
  have n8 : (op == 8) = false := by simp; omega
  have n9 : (op == 9) = false := by simp; omega
  have n14 : (op == 14) = false := by simp; omega
  have n15 : (op == 15) = false := by simp; omega
  have n16 : (op == 16) = false := by simp; omega
  have n17 : (op == 17) = false := by simp; omega
  have n23 : (op == 23) = false := by simp; omega
  clear o1 o2 o7 o8 o9 o14 o15 o16 o17 o23
  go_enter Try.func61, Try.ntmps61
  go_wp2_with fail
  refine (l1Min_any _ _ _).mono ?_
  rintro e wz ⟨rfl, rfl⟩
  go_wp2_with fail
  go_ret
  exact ⟨ret_int (by omega), (Below.refl _ _).alloc (Nat.le_refl _) _⟩

set_option maxRecDepth 100000 in
set_option maxHeartbeats 1000000 in
theorem l21Least_16 {n : Int} {k : Nat} (ih : LeastIs 61 n k) (text : ByteArray) (num lo hi : Int) (A : Option Addr) (c : Nat) (k0 : Pat) (w : World) (hc0 : count k0 ≤ k) (hv0 : valid k0 n = true) (hr : RowIn w A 0 [k0]) :
    Calls Try.prog 61 #[patV 16 text num lo hi (.slice A 1 c)] w fun e w' => e = .returned (.int .i64 (min (least k0) 121)) ∧ Below w.heap.size w w' := by
  obtain ⟨g, kA0, kc0, rfl, hk0, he0⟩ := kids1 hr
  obtain ⟨e00, e01, e02, e03, e04, e05⟩ := he0
  simp only [Nat.zero_mul, Nat.zero_add] at e00 e01 e02 e03 e04 e05
  have hg : g < w.heap.size := cell_lt e00
  have IH := Lib.hid ih
  have HV0 := Lib.hid hv0
  have HK0 := Lib.hid hk0
  clear ih hr hv0 hk0
  go_enter Try.func61, Try.ntmps61
  go_wp2_with fail
  refine (IH.out k0 _ _ hc0 HV0.out (KidsIn.later ((Later.refl w).alloc _) _ _ HK0.out)).mono ?_
  rintro e w2 ⟨rfl, hb2⟩
  have hb3 : Below w.heap.size w w2 := ((Below.refl _ _).alloc (Nat.le_refl _) _).trans (Below.mono hb2 (by simp))
  clear hb2
  go_wp2_with fail
  refine (l1Min_any _ _ _).mono ?_
  rintro e wz ⟨rfl, rfl⟩
  go_wp2_with fail
  go_ret
  exact ⟨ret_int (by omega), hb3⟩

set_option maxRecDepth 100000 in
set_option maxHeartbeats 1000000 in
theorem l21Least_17 {n : Int} {k : Nat} (ih : LeastIs 61 n k) (text : ByteArray) (num lo hi : Int) (A : Option Addr) (c : Nat) (k0 : Pat) (w : World) (hc0 : count k0 ≤ k) (hv0 : valid k0 n = true) (hr : RowIn w A 0 [k0]) :
    Calls Try.prog 61 #[patV 17 text num lo hi (.slice A 1 c)] w fun e w' => e = .returned (.int .i64 (min (least k0) 121)) ∧ Below w.heap.size w w' := by
  obtain ⟨g, kA0, kc0, rfl, hk0, he0⟩ := kids1 hr
  obtain ⟨e00, e01, e02, e03, e04, e05⟩ := he0
  simp only [Nat.zero_mul, Nat.zero_add] at e00 e01 e02 e03 e04 e05
  have hg : g < w.heap.size := cell_lt e00
  have IH := Lib.hid ih
  have HV0 := Lib.hid hv0
  have HK0 := Lib.hid hk0
  clear ih hr hv0 hk0
  go_enter Try.func61, Try.ntmps61
  go_wp2_with fail
  refine (IH.out k0 _ _ hc0 HV0.out (KidsIn.later ((Later.refl w).alloc _) _ _ HK0.out)).mono ?_
  rintro e w2 ⟨rfl, hb2⟩
  have hb3 : Below w.heap.size w w2 := ((Below.refl _ _).alloc (Nat.le_refl _) _).trans (Below.mono hb2 (by simp))
  clear hb2
  go_wp2_with fail
  refine (l1Min_any _ _ _).mono ?_
  rintro e wz ⟨rfl, rfl⟩
  go_wp2_with fail
  go_ret
  exact ⟨ret_int (by omega), hb3⟩

set_option maxRecDepth 100000 in
set_option maxHeartbeats 2000000 in
theorem l21Least_14 {n : Int} {k : Nat} (ih : LeastIs 61 n k) (text : ByteArray) (num lo hi : Int) (A : Option Addr) (c : Nat) (k0 k1 : Pat) (w : World) (hc0 : count k0 ≤ k) (hv0 : valid k0 n = true) (hc1 : count k1 ≤ k) (hv1 : valid k1 n = true) (hr : RowIn w A 0 [k0, k1]) :
    Calls Try.prog 61 #[patV 14 text num lo hi (.slice A 2 c)] w fun e w' => e = .returned (.int .i64 (min (least k0 + least k1) 121)) ∧ Below w.heap.size w w' := by
  obtain ⟨g, kA0, kc0, kA1, kc1, rfl, hk0, he0, hk1, he1⟩ := kids2 hr
  have IH := Lib.hid ih
  have HV0 := Lib.hid hv0
  have HV1 := Lib.hid hv1
  have a0 := least_nonneg k0 hv0
  have a1 := least_le k0
  have b0 := least_nonneg k1 hv1
  have b1 := least_le k1
  obtain ⟨a, ha⟩ : ∃ a, least k0 = a := ⟨_, rfl⟩
  obtain ⟨b, hb⟩ : ∃ b, least k1 = b := ⟨_, rfl⟩
  have Ha := Lib.hid ha
  have Hb := Lib.hid hb
  rw [ha] at a0 a1
  rw [hb] at b0 b1
  have HK0' := Lib.hid hk0
  have HK1' := Lib.hid hk1
  have HE0' := Lib.hid he0
  have HE1' := Lib.hid he1
  clear ih hr hv0 hv1 hk0 hk1 he0 he1 ha hb
  go_enter Try.func61, Try.ntmps61
  go_wp2_with fail
  -- region 12: 12 operations
  refine wpU_begin [] [] (by kernel_rfl) (fun w1 hw1 => ?_)
  obtain ⟨hl1, hp1⟩ := drew_alloc hw1
  have HP1 := Lib.hid hp1
  have HL1 := Lib.hid hl1
  have HK0 := Lib.hid (KidsIn.later hl1 _ _ HK0'.out)
  have HK1 := Lib.hid (KidsIn.later hl1 _ _ HK1'.out)
  have HE0 := Lib.hid (HE0'.out.below hl1)
  have HE1 := Lib.hid (HE1'.out.below hl1)
  have HJw1 := Lib.hid (Later.refl w1)
  clear hw1 hl1 hp1
  refine wpU_take 0 (some 21) (v := ?_) rfl rfl (by kernel_rfl) (fun _ _ _ h => h) rfl (fun x hx => ?_) ?_
  rotate_left 1
  · go_simp; first | done | with_reducible rfl | rw [if_neg (by omega)] | rw [if_pos (by omega)]
  simp only [Act.put, List.setIfInBounds_toArray, List.set_cons_zero, List.set_cons_succ]
  refine wpU_take 1 (some 22) (v := ?_) rfl rfl (by kernel_rfl) (fun _ _ _ h => h) rfl (fun x hx => ?_) ?_
  rotate_left 1
  · obtain ⟨p0, p1, p2, p3, p4, p5⟩ := cells_p (hx.has HP1.out); obtain ⟨e00, e01, e02, e03, e04, e05⟩ := HE0.out.below hx; simp only [Nat.zero_mul, Nat.zero_add] at e00 e01 e02 e03 e04 e05; obtain ⟨e10, e11, e12, e13, e14, e15⟩ := HE1.out.below hx; simp only [Nat.one_mul, Nat.reduceAdd] at e10 e11 e12 e13 e14 e15; go_simp; first | done | with_reducible rfl | rw [if_neg (by omega)] | rw [if_pos (by omega)]
  simp only [Act.put, List.setIfInBounds_toArray, List.set_cons_zero, List.set_cons_succ]
  refine wpU_take 2 (some 23) (v := ?_) rfl rfl (by kernel_rfl) (fun _ _ _ h => h) rfl (fun x hx => ?_) ?_
  rotate_left 1
  · go_simp; first | done | with_reducible rfl | rw [if_neg (by omega)] | rw [if_pos (by omega)]
  simp only [Act.put, List.setIfInBounds_toArray, List.set_cons_zero, List.set_cons_succ]
  refine wpU_take 3 (some 24) (v := ?_) rfl rfl (by kernel_rfl) (fun _ _ _ h => h) rfl (fun x hx => ?_) ?_
  rotate_left 1
  · obtain ⟨p0, p1, p2, p3, p4, p5⟩ := cells_p (hx.has HP1.out); obtain ⟨e00, e01, e02, e03, e04, e05⟩ := HE0.out.below hx; simp only [Nat.zero_mul, Nat.zero_add] at e00 e01 e02 e03 e04 e05; obtain ⟨e10, e11, e12, e13, e14, e15⟩ := HE1.out.below hx; simp only [Nat.one_mul, Nat.reduceAdd] at e10 e11 e12 e13 e14 e15; go_simp; first | done | with_reducible rfl | rw [if_neg (by omega)] | rw [if_pos (by omega)]
  simp only [Act.put, List.setIfInBounds_toArray, List.set_cons_zero, List.set_cons_succ]
  refine wpU_take 5 (some 26) (v := ?_) rfl rfl (by kernel_rfl) (fun _ _ _ h => h) rfl (fun x hx => ?_) ?_
  rotate_left 1
  · go_simp; first | done | with_reducible rfl | rw [if_neg (by omega)] | rw [if_pos (by omega)]
  simp only [Act.put, List.setIfInBounds_toArray, List.set_cons_zero, List.set_cons_succ]
  refine wpU_take 6 (some 27) (v := ?_) rfl rfl (by kernel_rfl) (fun _ _ _ h => h) rfl (fun x hx => ?_) ?_
  rotate_left 1
  · obtain ⟨p0, p1, p2, p3, p4, p5⟩ := cells_p (hx.has HP1.out); obtain ⟨e00, e01, e02, e03, e04, e05⟩ := HE0.out.below hx; simp only [Nat.zero_mul, Nat.zero_add] at e00 e01 e02 e03 e04 e05; obtain ⟨e10, e11, e12, e13, e14, e15⟩ := HE1.out.below hx; simp only [Nat.one_mul, Nat.reduceAdd] at e10 e11 e12 e13 e14 e15; go_simp; first | done | with_reducible rfl | rw [if_neg (by omega)] | rw [if_pos (by omega)]
  simp only [Act.put, List.setIfInBounds_toArray, List.set_cons_zero, List.set_cons_succ]
  refine wpU_take 7 (some 28) (v := ?_) rfl rfl (by kernel_rfl) (fun _ _ _ h => h) rfl (fun x hx => ?_) ?_
  rotate_left 1
  · go_simp; first | done | with_reducible rfl | rw [if_neg (by omega)] | rw [if_pos (by omega)]
  simp only [Act.put, List.setIfInBounds_toArray, List.set_cons_zero, List.set_cons_succ]
  refine wpU_take 8 (some 29) (v := ?_) rfl rfl (by kernel_rfl) (fun _ _ _ h => h) rfl (fun x hx => ?_) ?_
  rotate_left 1
  · obtain ⟨p0, p1, p2, p3, p4, p5⟩ := cells_p (hx.has HP1.out); obtain ⟨e00, e01, e02, e03, e04, e05⟩ := HE0.out.below hx; simp only [Nat.zero_mul, Nat.zero_add] at e00 e01 e02 e03 e04 e05; obtain ⟨e10, e11, e12, e13, e14, e15⟩ := HE1.out.below hx; simp only [Nat.one_mul, Nat.reduceAdd] at e10 e11 e12 e13 e14 e15; go_simp; first | done | with_reducible rfl | rw [if_neg (by omega)] | rw [if_pos (by omega)]
  simp only [Act.put, List.setIfInBounds_toArray, List.set_cons_zero, List.set_cons_succ]
  refine wpU_step 4 (by kernel_rfl) rfl rfl ?_
  go_wp2_with fail
  refine (IH.out k0 _ _ hc0 HV0.out (KidsIn.later HJw1.out _ _ HK0.out)).mono ?_
  rintro e ws4 ⟨rfl, hb⟩
  rw [Ha.out]
  go_wp2_with fail
  refine ⟨hb, ?_⟩
  have HJws4 := Lib.hid (HJw1.out.trans hb)
  clear hb
  refine wpU_step 9 (by kernel_rfl) rfl rfl ?_
  go_wp2_with fail
  refine (IH.out k1 _ _ hc1 HV1.out (KidsIn.later HJws4.out _ _ HK1.out)).mono ?_
  rintro e ws9 ⟨rfl, hb⟩
  rw [Hb.out]
  go_wp2_with fail
  refine ⟨hb, ?_⟩
  have HJws9 := Lib.hid (HJws4.out.trans hb)
  clear hb
  refine wpU_take 10 (some 31) (v := ?_) rfl rfl (by kernel_rfl) (fun _ _ _ h => h) rfl (fun x hx => ?_) ?_
  rotate_left 1
  · go_simp; first | done | with_reducible rfl | rw [if_neg (by omega)] | rw [if_pos (by omega)]
  simp only [Act.put, List.setIfInBounds_toArray, List.set_cons_zero, List.set_cons_succ]
  refine wpU_take 11 (some 3) (v := ?_) rfl rfl (by kernel_rfl) (fun _ _ _ h => h) rfl (fun x hx => ?_) ?_
  rotate_left 1
  · go_simp; first | done | with_reducible rfl | rw [if_neg (by omega)] | rw [if_pos (by omega)]
  simp only [Act.put, List.setIfInBounds_toArray, List.set_cons_zero, List.set_cons_succ]
  refine wpU_last [] (by kernel_rfl) rfl rfl ?_
  go_wp2_with fail
  refine (l1Min_any _ _ _).mono ?_
  rintro e wz ⟨rfl, rfl⟩
  go_wp2_with fail
  go_ret
  exact ⟨ret_int (by first | (rw [Ha.out, Hb.out]; omega) | rw [Ha.out, Hb.out]), HL1.out.trans HJws9.out⟩

set_option maxRecDepth 100000 in
set_option maxHeartbeats 2000000 in
theorem l21Least_15 {n : Int} {k : Nat} (ih : LeastIs 61 n k) (text : ByteArray) (num lo hi : Int) (A : Option Addr) (c : Nat) (k0 k1 : Pat) (w : World) (hc0 : count k0 ≤ k) (hv0 : valid k0 n = true) (hc1 : count k1 ≤ k) (hv1 : valid k1 n = true) (hr : RowIn w A 0 [k0, k1]) :
    Calls Try.prog 61 #[patV 15 text num lo hi (.slice A 2 c)] w fun e w' => e = .returned (.int .i64 (min (min (least k0) (least k1)) 121)) ∧ Below w.heap.size w w' := by
  obtain ⟨g, kA0, kc0, kA1, kc1, rfl, hk0, he0, hk1, he1⟩ := kids2 hr
  have IH := Lib.hid ih
  have HV0 := Lib.hid hv0
  have HV1 := Lib.hid hv1
  have a0 := least_nonneg k0 hv0
  have a1 := least_le k0
  have b0 := least_nonneg k1 hv1
  have b1 := least_le k1
  obtain ⟨a, ha⟩ : ∃ a, least k0 = a := ⟨_, rfl⟩
  obtain ⟨b, hb⟩ : ∃ b, least k1 = b := ⟨_, rfl⟩
  have Ha := Lib.hid ha
  have Hb := Lib.hid hb
  rw [ha] at a0 a1
  rw [hb] at b0 b1
  have HK0' := Lib.hid hk0
  have HK1' := Lib.hid hk1
  have HE0' := Lib.hid he0
  have HE1' := Lib.hid he1
  clear ih hr hv0 hv1 hk0 hk1 he0 he1 ha hb
  go_enter Try.func61, Try.ntmps61
  go_wp2_with fail
  -- region 14: 12 operations
  refine wpU_begin [] [] (by kernel_rfl) (fun w1 hw1 => ?_)
  obtain ⟨hl1, hp1⟩ := drew_alloc hw1
  have HP1 := Lib.hid hp1
  have HL1 := Lib.hid hl1
  have HK0 := Lib.hid (KidsIn.later hl1 _ _ HK0'.out)
  have HK1 := Lib.hid (KidsIn.later hl1 _ _ HK1'.out)
  have HE0 := Lib.hid (HE0'.out.below hl1)
  have HE1 := Lib.hid (HE1'.out.below hl1)
  have HJw1 := Lib.hid (Later.refl w1)
  clear hw1 hl1 hp1
  refine wpU_take 0 (some 34) (v := ?_) rfl rfl (by kernel_rfl) (fun _ _ _ h => h) rfl (fun x hx => ?_) ?_
  rotate_left 1
  · go_simp; first | done | with_reducible rfl | rw [if_neg (by omega)] | rw [if_pos (by omega)]
  simp only [Act.put, List.setIfInBounds_toArray, List.set_cons_zero, List.set_cons_succ]
  refine wpU_take 1 (some 35) (v := ?_) rfl rfl (by kernel_rfl) (fun _ _ _ h => h) rfl (fun x hx => ?_) ?_
  rotate_left 1
  · obtain ⟨p0, p1, p2, p3, p4, p5⟩ := cells_p (hx.has HP1.out); obtain ⟨e00, e01, e02, e03, e04, e05⟩ := HE0.out.below hx; simp only [Nat.zero_mul, Nat.zero_add] at e00 e01 e02 e03 e04 e05; obtain ⟨e10, e11, e12, e13, e14, e15⟩ := HE1.out.below hx; simp only [Nat.one_mul, Nat.reduceAdd] at e10 e11 e12 e13 e14 e15; go_simp; first | done | with_reducible rfl | rw [if_neg (by omega)] | rw [if_pos (by omega)]
  simp only [Act.put, List.setIfInBounds_toArray, List.set_cons_zero, List.set_cons_succ]
  refine wpU_take 2 (some 36) (v := ?_) rfl rfl (by kernel_rfl) (fun _ _ _ h => h) rfl (fun x hx => ?_) ?_
  rotate_left 1
  · go_simp; first | done | with_reducible rfl | rw [if_neg (by omega)] | rw [if_pos (by omega)]
  simp only [Act.put, List.setIfInBounds_toArray, List.set_cons_zero, List.set_cons_succ]
  refine wpU_take 3 (some 37) (v := ?_) rfl rfl (by kernel_rfl) (fun _ _ _ h => h) rfl (fun x hx => ?_) ?_
  rotate_left 1
  · obtain ⟨p0, p1, p2, p3, p4, p5⟩ := cells_p (hx.has HP1.out); obtain ⟨e00, e01, e02, e03, e04, e05⟩ := HE0.out.below hx; simp only [Nat.zero_mul, Nat.zero_add] at e00 e01 e02 e03 e04 e05; obtain ⟨e10, e11, e12, e13, e14, e15⟩ := HE1.out.below hx; simp only [Nat.one_mul, Nat.reduceAdd] at e10 e11 e12 e13 e14 e15; go_simp; first | done | with_reducible rfl | rw [if_neg (by omega)] | rw [if_pos (by omega)]
  simp only [Act.put, List.setIfInBounds_toArray, List.set_cons_zero, List.set_cons_succ]
  refine wpU_take 5 (some 39) (v := ?_) rfl rfl (by kernel_rfl) (fun _ _ _ h => h) rfl (fun x hx => ?_) ?_
  rotate_left 1
  · go_simp; first | done | with_reducible rfl | rw [if_neg (by omega)] | rw [if_pos (by omega)]
  simp only [Act.put, List.setIfInBounds_toArray, List.set_cons_zero, List.set_cons_succ]
  refine wpU_take 6 (some 40) (v := ?_) rfl rfl (by kernel_rfl) (fun _ _ _ h => h) rfl (fun x hx => ?_) ?_
  rotate_left 1
  · obtain ⟨p0, p1, p2, p3, p4, p5⟩ := cells_p (hx.has HP1.out); obtain ⟨e00, e01, e02, e03, e04, e05⟩ := HE0.out.below hx; simp only [Nat.zero_mul, Nat.zero_add] at e00 e01 e02 e03 e04 e05; obtain ⟨e10, e11, e12, e13, e14, e15⟩ := HE1.out.below hx; simp only [Nat.one_mul, Nat.reduceAdd] at e10 e11 e12 e13 e14 e15; go_simp; first | done | with_reducible rfl | rw [if_neg (by omega)] | rw [if_pos (by omega)]
  simp only [Act.put, List.setIfInBounds_toArray, List.set_cons_zero, List.set_cons_succ]
  refine wpU_take 7 (some 41) (v := ?_) rfl rfl (by kernel_rfl) (fun _ _ _ h => h) rfl (fun x hx => ?_) ?_
  rotate_left 1
  · go_simp; first | done | with_reducible rfl | rw [if_neg (by omega)] | rw [if_pos (by omega)]
  simp only [Act.put, List.setIfInBounds_toArray, List.set_cons_zero, List.set_cons_succ]
  refine wpU_take 8 (some 42) (v := ?_) rfl rfl (by kernel_rfl) (fun _ _ _ h => h) rfl (fun x hx => ?_) ?_
  rotate_left 1
  · obtain ⟨p0, p1, p2, p3, p4, p5⟩ := cells_p (hx.has HP1.out); obtain ⟨e00, e01, e02, e03, e04, e05⟩ := HE0.out.below hx; simp only [Nat.zero_mul, Nat.zero_add] at e00 e01 e02 e03 e04 e05; obtain ⟨e10, e11, e12, e13, e14, e15⟩ := HE1.out.below hx; simp only [Nat.one_mul, Nat.reduceAdd] at e10 e11 e12 e13 e14 e15; go_simp; first | done | with_reducible rfl | rw [if_neg (by omega)] | rw [if_pos (by omega)]
  simp only [Act.put, List.setIfInBounds_toArray, List.set_cons_zero, List.set_cons_succ]
  refine wpU_step 4 (by kernel_rfl) rfl rfl ?_
  go_wp2_with fail
  refine (IH.out k0 _ _ hc0 HV0.out (KidsIn.later HJw1.out _ _ HK0.out)).mono ?_
  rintro e ws4 ⟨rfl, hb⟩
  rw [Ha.out]
  go_wp2_with fail
  refine ⟨hb, ?_⟩
  have HJws4 := Lib.hid (HJw1.out.trans hb)
  clear hb
  refine wpU_step 9 (by kernel_rfl) rfl rfl ?_
  go_wp2_with fail
  refine (IH.out k1 _ _ hc1 HV1.out (KidsIn.later HJws4.out _ _ HK1.out)).mono ?_
  rintro e ws9 ⟨rfl, hb⟩
  rw [Hb.out]
  go_wp2_with fail
  refine ⟨hb, ?_⟩
  have HJws9 := Lib.hid (HJws4.out.trans hb)
  clear hb
  refine wpU_step 10 (by kernel_rfl) rfl rfl ?_
  go_wp2_with fail
  refine (l1Min_any _ _ _).mono ?_
  rintro e wm ⟨rfl, rfl⟩
  go_wp2_with fail
  refine ⟨Later.refl _, ?_⟩
  refine wpU_take 11 (some 3) (v := ?_) rfl rfl (by kernel_rfl) (fun _ _ _ h => h) rfl (fun x hx => ?_) ?_
  rotate_left 1
  · go_simp; first | done | with_reducible rfl | rw [if_neg (by omega)] | rw [if_pos (by omega)]
  simp only [Act.put, List.setIfInBounds_toArray, List.set_cons_zero, List.set_cons_succ]
  refine wpU_last [] (by kernel_rfl) rfl rfl ?_
  go_wp2_with fail
  refine (l1Min_any _ _ _).mono ?_
  rintro e wz ⟨rfl, rfl⟩
  go_wp2_with fail
  go_ret
  exact ⟨ret_int (by first | (rw [Ha.out, Hb.out]; omega) | rw [Ha.out, Hb.out]), HL1.out.trans HJws9.out⟩

theorem l21Least_any (n : Int) (k : Nat) : LeastIs 61 n k := by
  induction k with
  | zero => intro p kv w h; have := count_pos p; omega
  | succ k ih =>
    intro p kv w hk hv hin
    obtain ⟨A, c, rfl, hc, hrow⟩ := hin.form
    have hkid := valid_kids hv
    have htx := valid_text hv
    have hnn := okNum_nonneg hv
    have hnl : p.op = 2 → p.num ≤ 120 := fun e => (by
      have h := valid_head hv
      simp only [okHead, Bool.and_eq_true] at h
      have h := h.1.2
      unfold okNum at h
      rw [if_pos (by omega)] at h
      simp at h; exact h.2)
    have hva : validAll p.kids n = true := by rw [valid_eq, Bool.and_eq_true] at hv; exact hv.2
    have hva := (validAll_iff _ _).1 hva
    have hcn : ∀ j (h : j < p.kids.length), count p.kids[j] ≤ k := fun j h => by have := count_kid_lt p j h; omega
    obtain ⟨op, text, num, lo, hi, kids⟩ := p
    simp only [Pat.op, Pat.kids, Pat.text, Pat.num] at *
    clear hv hk hin
    have hval : least (.mk op text num lo hi kids) = min (leastNum op text.size num (leastAll kids)) 121 := by simp only [least]
    show Calls Try.prog 61 #[patV op text num lo hi (.slice A kids.length c)] w _
    rw [hval]
    clear hval
    by_cases o1 : op = 1
    · subst o1
      have ht : text.size ≤ 120 := (by simp only [okText, Pat.op, Pat.text] at htx; rw [if_pos trivial] at htx; exact of_decide_eq_true htx)
      have e : min (leastNum 1 text.size num (leastAll kids)) 121 = (text.size : Int) := by unfold leastNum; rw [if_pos rfl]; omega
      rw [e]
      exact l21Least_1 text num lo hi A kids.length c w ht
    by_cases o2 : op = 2
    · subst o2
      have e : min (leastNum 2 text.size num (leastAll kids)) 121 = num := by unfold leastNum; rw [if_neg (by omega), if_pos rfl]; have := hnl rfl; omega
      rw [e]
      exact l21Least_2 text num lo hi A kids.length c w hnn (hnl rfl)
    by_cases o7 : op = 7
    · subst o7; exact l21Least_7 text num lo hi A kids.length c w
    by_cases o8 : op = 8
    · subst o8; exact l21Least_8 text num lo hi A kids.length c w
    by_cases o9 : op = 9
    · subst o9; exact l21Least_9 text num lo hi A kids.length c w
    by_cases o23 : op = 23
    · subst o23; exact l21Least_23 text num lo hi A kids.length c w
    by_cases o14 : op = 14
    · subst o14
      have hl : kids.length = 2 := by have := hkid.2; simp [kidsOf] at this; omega
      match kids, hl with
      | [k0, k1], _ => exact l21Least_14 ih text num lo hi A c k0 k1 w (hcn 0 (by simp)) (hva 0 (by simp)) (hcn 1 (by simp)) (hva 1 (by simp)) hrow
    by_cases o15 : op = 15
    · subst o15
      have hl : kids.length = 2 := by have := hkid.2; simp [kidsOf] at this; omega
      match kids, hl with
      | [k0, k1], _ => exact l21Least_15 ih text num lo hi A c k0 k1 w (hcn 0 (by simp)) (hva 0 (by simp)) (hcn 1 (by simp)) (hva 1 (by simp)) hrow
    by_cases o16 : op = 16
    · subst o16
      have hl : kids.length = 1 := by have := hkid.2; simp [kidsOf] at this; omega
      match kids, hl with
      | [k0], _ => exact l21Least_16 ih text num lo hi A c k0 w (hcn 0 (by simp)) (hva 0 (by simp)) hrow
    by_cases o17 : op = 17
    · subst o17
      have hl : kids.length = 1 := by have := hkid.2; simp [kidsOf] at this; omega
      match kids, hl with
      | [k0], _ => exact l21Least_17 ih text num lo hi A c k0 w (hcn 0 (by simp)) (hva 0 (by simp)) hrow
    have e : min (leastNum op text.size num (leastAll kids)) 121 = 0 := by
      unfold leastNum
      rw [if_neg o1, if_neg o2, if_neg (by omega), if_neg o14, if_neg o15, if_neg (by omega), if_neg o23]; rfl
    rw [e]
    exact l21Least_else text num lo hi A kids.length c w op o1 o2 o7 o8 o9 o14 o15 o16 o17 o23

end Go.Proofs.Ytndefbecoahfhaa

/- The bytes that a pattern's match can begin with: firstBytes, l21First. Printed by gen_prfirst.py. -/
namespace Go.Proofs.Ytndefbecoahfhaa
open Go.RowKit

structure First where
  lo : Int
  hi : Int
  op_ : Bool
abbrev First.no : First := ⟨0, 0, true⟩
def firstNum (op : Int) (text : ByteArray) (lo hi : Int) (l : List First) : First :=
  if op = 1 then (if h : 0 < text.size then (if (text[0].toNat : Int) < 128 then ⟨oneLo text[0].toNat, oneHi text[0].toNat, false⟩ else .no) else .no)
  else if op = 7 ∨ op = 9 then ⟨lo, hi, false⟩
  else if op = 14 ∨ op = 16 ∨ op = 17 then l.getD 0 .no
  else if op = 15 then (if (l.getD 0 .no).op_ || (l.getD 1 .no).op_ then .no else ⟨orWord (l.getD 0 .no).lo (l.getD 1 .no).lo, orWord (l.getD 0 .no).hi (l.getD 1 .no).hi, false⟩)
  else if op = 23 then ⟨0, 0, false⟩ else .no
mutual
def first : Pat → First
  | .mk op text _ lo hi kids => firstNum op text lo hi (firstAll kids)
def firstAll : List Pat → List First
  | [] => []
  | p :: ps => first p :: firstAll ps
end
abbrev First.v (f : First) : Value := .tuple #[csetV f.lo f.hi, .bool f.op_]
def FirstIs (f : Nat) (n : Int) (k : Nat) : Prop := ∀ (p : Pat) (kv : Value) (w : World), count p ≤ k → valid p n = true → KidsIn w p kv → Calls Try.prog f #[p.v kv] w fun e w' => e = .returned (first p).v ∧ Below w.heap.size w w'
theorem ByteArray_extract_one (s : ByteArray) (h : 0 < s.size) : (s.extract 0 1).size = 1 := by simp [ByteArray.size_extract]; try omega
theorem extract_first (s : ByteArray) (h : 0 < s.size) : ((s.extract 0 1)[0]'(by simp [ByteArray.size_extract]; omega)) = s[0] := by
  rw [ByteArray.getElem_extract]

theorem toList_ne {text : ByteArray} (h : 0 < text.size) : text.toList ≠ [] := fun e => by
  have := size_of_empty e
  omega
theorem toList_nil {text : ByteArray} (h : ¬ 0 < text.size) : text.toList = [] := by
  rw [ByteArray.toList_eq]
  apply List.eq_nil_of_length_eq_zero
  rw [Array.length_toList]
  show text.size = 0
  omega

set_option maxRecDepth 100000 in
set_option maxHeartbeats 1000000 in
theorem firstBytes_1e (text : ByteArray) (num lo hi : Int) (A : Option Addr) (l c : Nat) (w : World) (h0 : ¬ 0 < text.size) :
    Calls Try.prog 54 #[patV 1 text num lo hi (.slice A l c)] w fun e w' => e = .returned (First.v .no) ∧ Below w.heap.size w w' := by
  have n0 : (text.toList != []) = false := by simpa using toList_nil h0
  have n1 : (text.toList == []) = true := by simpa using toList_nil h0
  have n2 : text.size = 0 := by omega
  clear h0
  go_enter Try.func54, Try.ntmps54
  go_wp2_with fail
  exact bodyPost_ret (v := First.v .no) (by simp [results, Try.results54, go_sem]) rfl ⟨rfl, ((Below.refl _ _).alloc (Nat.le_refl _) _).alloc (by simp) _⟩

set_option maxRecDepth 100000 in
set_option maxHeartbeats 1000000 in
theorem firstBytes_1n (text : ByteArray) (num lo hi : Int) (A : Option Addr) (l c : Nat) (w : World) (h0 : 0 < text.size) (ht : text.size ≤ 120) (hb : ¬ (text[0].toNat : Int) < 128) :
    Calls Try.prog 54 #[patV 1 text num lo hi (.slice A l c)] w fun e w' => e = .returned (First.v .no) ∧ Below w.heap.size w w' := by
  have n0 : (text.toList != []) = true := by simpa using toList_ne h0
  have n1 : (text.toList == []) = false := by simpa using toList_ne h0
  go_enter Try.func54, Try.ntmps54
  go_wp2_with fail
  exact bodyPost_ret (v := First.v .no) (by simp [results, Try.results54, go_sem]) rfl ⟨rfl, ((Below.refl _ _).alloc (Nat.le_refl _) _).alloc (by simp) _⟩

set_option maxRecDepth 100000 in
set_option maxHeartbeats 1000000 in
theorem firstBytes_1y (text : ByteArray) (num lo hi : Int) (A : Option Addr) (l c : Nat) (w : World) (h0 : 0 < text.size) (ht : text.size ≤ 120) (hb : (text[0].toNat : Int) < 128) :
    Calls Try.prog 54 #[patV 1 text num lo hi (.slice A l c)] w fun e w' => e = .returned (First.v ⟨oneLo text[0].toNat, oneHi text[0].toNat, false⟩) ∧ Below w.heap.size w w' := by
  have n0 : (text.toList != []) = true := by simpa using toList_ne h0
  have n1 : (text.toList == []) = false := by simpa using toList_ne h0
  have HX := Lib.hid (show (((text.extract 0 1)[0]'(by simp [ByteArray.size_extract]; omega)).toNat : Int) < 128 by rw [extract_first text h0]; omega)
  go_enter Try.func54, Try.ntmps54
  go_wp2_with fail
  have HL0 := Lib.hid (((Later.refl w).alloc (Obj.cells #[.int .i64 1, .string text, .int .i64 num, .int .i64 lo, .int .i64 hi, .slice A l c] TP)).alloc (Obj.cells #[.int .i64 0, .int .i64 0] TCs))
  have HP0 := Lib.hid (Later.has ((Later.refl (w.alloc (Obj.cells #[.int .i64 1, .string text, .int .i64 num, .int .i64 lo, .int .i64 hi, .slice A l c] TP))).alloc (Obj.cells #[.int .i64 0, .int .i64 0] TCs)) (heap_alloc_new w (Obj.cells #[.int .i64 1, .string text, .int .i64 num, .int .i64 lo, .int .i64 hi, .slice A l c] TP)))
  have HR0 := Lib.hid (heap_alloc_two w (Obj.cells #[.int .i64 1, .string text, .int .i64 num, .int .i64 lo, .int .i64 hi, .slice A l c] TP) (Obj.cells #[.int .i64 0, .int .i64 0] TCs))
  refine (implNew_yes _ _ (by simp [ByteArray.size_extract]; omega) (by simp [ByteArray.size_extract]; omega) HX.out).mono ?_
  rintro e w2 ⟨rfl, hb2⟩
  have HR2 := Lib.hid (Later.has hb2 HR0.out)
  have HL2 := Lib.hid (HL0.out.trans hb2)
  have hB := has_lt HR2.out
  clear hb2
  simp only [extract_first text h0]
  obtain ⟨r0, r1⟩ := cells_cs HR2.out
  obtain ⟨f0, f1⟩ := frozen_cs HR2.out
  go_wp2_with fail
  exact bodyPost_ret (v := First.v ⟨oneLo text[0].toNat, oneHi text[0].toNat, false⟩) (by simp [results, Try.results54, go_sem, r0, r1, f0, f1, hB]) rfl ⟨rfl, Below.alloc (Below.setCell (Below.setCell HL2.out (Nat.le_succ _) _) (Nat.le_succ _) _) (by have := HL2.out.size; simp; omega) _⟩

set_option maxRecDepth 100000 in
set_option maxHeartbeats 1000000 in
theorem firstBytes_7 (text : ByteArray) (num lo hi : Int) (A : Option Addr) (l c : Nat) (w : World) :
    Calls Try.prog 54 #[patV 7 text num lo hi (.slice A l c)] w fun e w' => e = .returned (First.v ⟨lo, hi, false⟩) ∧ Below w.heap.size w w' := by
  go_enter Try.func54, Try.ntmps54
  go_wp2_with fail
  exact bodyPost_ret (v := First.v ⟨lo, hi, false⟩) (by simp [results, Try.results54, go_sem]) rfl ⟨rfl, ((Below.refl _ _).alloc (Nat.le_refl _) _).alloc (by simp) _⟩

set_option maxRecDepth 100000 in
set_option maxHeartbeats 1000000 in
theorem firstBytes_9 (text : ByteArray) (num lo hi : Int) (A : Option Addr) (l c : Nat) (w : World) :
    Calls Try.prog 54 #[patV 9 text num lo hi (.slice A l c)] w fun e w' => e = .returned (First.v ⟨lo, hi, false⟩) ∧ Below w.heap.size w w' := by
  go_enter Try.func54, Try.ntmps54
  go_wp2_with fail
  exact bodyPost_ret (v := First.v ⟨lo, hi, false⟩) (by simp [results, Try.results54, go_sem]) rfl ⟨rfl, ((Below.refl _ _).alloc (Nat.le_refl _) _).alloc (by simp) _⟩

set_option maxRecDepth 100000 in
set_option maxHeartbeats 1000000 in
theorem firstBytes_23 (text : ByteArray) (num lo hi : Int) (A : Option Addr) (l c : Nat) (w : World) :
    Calls Try.prog 54 #[patV 23 text num lo hi (.slice A l c)] w fun e w' => e = .returned (First.v ⟨0, 0, false⟩) ∧ Below w.heap.size w w' := by
  go_enter Try.func54, Try.ntmps54
  go_wp2_with fail
  exact bodyPost_ret (v := First.v ⟨0, 0, false⟩) (by simp [results, Try.results54, go_sem]) rfl ⟨rfl, ((Below.refl _ _).alloc (Nat.le_refl _) _).alloc (by simp) _⟩

set_option maxRecDepth 100000 in
set_option maxHeartbeats 1000000 in
theorem firstBytes_else (text : ByteArray) (num lo hi : Int) (A : Option Addr) (l c : Nat) (w : World) (op : Int) (o1 : ¬ op = 1) (o7 : ¬ op = 7) (o9 : ¬ op = 9) (o14 : ¬ op = 14) (o15 : ¬ op = 15) (o16 : ¬ op = 16) (o17 : ¬ op = 17) (o23 : ¬ op = 23) :
    Calls Try.prog 54 #[patV op text num lo hi (.slice A l c)] w fun e w' => e = .returned (First.v .no) ∧ Below w.heap.size w w' := by
  have n1 : (op == 1) = false := by simp; omega
  have n7 : (op == 7) = false := by simp; omega
  have n9 : (op == 9) = false := by simp; omega
  have n14 : (op == 14) = false := by simp; omega
  have n15 : (op == 15) = false := by simp; omega
  have n16 : (op == 16) = false := by simp; omega
  have n17 : (op == 17) = false := by simp; omega
  have n23 : (op == 23) = false := by simp; omega
  clear o1 o7 o9 o14 o15 o16 o17 o23
  go_enter Try.func54, Try.ntmps54
  go_wp2_with fail
  exact bodyPost_ret (v := First.v .no) (by simp [results, Try.results54, go_sem]) rfl ⟨rfl, ((Below.refl _ _).alloc (Nat.le_refl _) _).alloc (by simp) _⟩

set_option maxRecDepth 100000 in
set_option maxHeartbeats 1000000 in
theorem firstBytes_14 {n : Int} {k : Nat} (ih : FirstIs 54 n k) (text : ByteArray) (num lo hi : Int) (A : Option Addr) (c : Nat) (k0 : Pat) (ks : List Pat) (w : World) (hc0 : count k0 ≤ k) (hv0 : valid k0 n = true) (hr : RowIn w A 0 (k0 :: ks)) :
    Calls Try.prog 54 #[patV 14 text num lo hi (.slice A (ks.length + 1) c)] w fun e w' => e = .returned (first k0).v ∧ Below w.heap.size w w' := by
  obtain ⟨g, kA0, kc0, rfl, hk0, he0⟩ := kid_cells hr (j := 0) (by simp) (Below.refl _ _)
  simp only [List.getElem_cons_zero] at hk0 he0
  obtain ⟨e00, e01, e02, e03, e04, e05⟩ := he0
  simp only [Nat.zero_mul, Nat.zero_add] at e00 e01 e02 e03 e04 e05
  have hg : g < w.heap.size := cell_lt e00
  have hpos : 0 < ks.length + 1 := by omega
  have IH := Lib.hid ih
  have HV0 := Lib.hid hv0
  have HK0 := Lib.hid hk0
  clear ih hr hv0 hk0
  go_enter Try.func54, Try.ntmps54
  go_wp2_with fail
  have HL0 := Lib.hid (((Later.refl w).alloc (Obj.cells #[.int .i64 14, .string text, .int .i64 num, .int .i64 lo, .int .i64 hi, .slice (some ⟨g, 0, none⟩) (ks.length + 1) c] TP)).alloc (Obj.cells #[.int .i64 0, .int .i64 0] TCs))
  have HP0 := Lib.hid (Later.has ((Later.refl (w.alloc (Obj.cells #[.int .i64 14, .string text, .int .i64 num, .int .i64 lo, .int .i64 hi, .slice (some ⟨g, 0, none⟩) (ks.length + 1) c] TP))).alloc (Obj.cells #[.int .i64 0, .int .i64 0] TCs)) (heap_alloc_new w (Obj.cells #[.int .i64 14, .string text, .int .i64 num, .int .i64 lo, .int .i64 hi, .slice (some ⟨g, 0, none⟩) (ks.length + 1) c] TP)))
  have HR0 := Lib.hid (heap_alloc_two w (Obj.cells #[.int .i64 14, .string text, .int .i64 num, .int .i64 lo, .int .i64 hi, .slice (some ⟨g, 0, none⟩) (ks.length + 1) c] TP) (Obj.cells #[.int .i64 0, .int .i64 0] TCs))
  refine (IH.out k0 _ _ hc0 HV0.out (KidsIn.later HL0.out _ _ HK0.out)).mono ?_
  rintro e w2 ⟨rfl, hb2⟩
  have HR2 := Lib.hid (Later.has hb2 HR0.out)
  have HL2 := Lib.hid (HL0.out.trans hb2)
  have hB := has_lt HR2.out
  clear hb2
  obtain ⟨r0, r1⟩ := cells_cs HR2.out
  obtain ⟨f0, f1⟩ := frozen_cs HR2.out
  go_wp2_with fail
  exact bodyPost_ret (v := First.v (first k0)) (by simp [results, Try.results54, go_sem, r0, r1, f0, f1]) rfl ⟨rfl, Below.setCell (Below.setCell HL2.out (Nat.le_succ _) _) (Nat.le_succ _) _⟩

set_option maxRecDepth 100000 in
set_option maxHeartbeats 1000000 in
theorem firstBytes_16 {n : Int} {k : Nat} (ih : FirstIs 54 n k) (text : ByteArray) (num lo hi : Int) (A : Option Addr) (c : Nat) (k0 : Pat) (ks : List Pat) (w : World) (hc0 : count k0 ≤ k) (hv0 : valid k0 n = true) (hr : RowIn w A 0 (k0 :: ks)) :
    Calls Try.prog 54 #[patV 16 text num lo hi (.slice A (ks.length + 1) c)] w fun e w' => e = .returned (first k0).v ∧ Below w.heap.size w w' := by
  obtain ⟨g, kA0, kc0, rfl, hk0, he0⟩ := kid_cells hr (j := 0) (by simp) (Below.refl _ _)
  simp only [List.getElem_cons_zero] at hk0 he0
  obtain ⟨e00, e01, e02, e03, e04, e05⟩ := he0
  simp only [Nat.zero_mul, Nat.zero_add] at e00 e01 e02 e03 e04 e05
  have hg : g < w.heap.size := cell_lt e00
  have hpos : 0 < ks.length + 1 := by omega
  have IH := Lib.hid ih
  have HV0 := Lib.hid hv0
  have HK0 := Lib.hid hk0
  clear ih hr hv0 hk0
  go_enter Try.func54, Try.ntmps54
  go_wp2_with fail
  have HL0 := Lib.hid (((Later.refl w).alloc (Obj.cells #[.int .i64 16, .string text, .int .i64 num, .int .i64 lo, .int .i64 hi, .slice (some ⟨g, 0, none⟩) (ks.length + 1) c] TP)).alloc (Obj.cells #[.int .i64 0, .int .i64 0] TCs))
  have HP0 := Lib.hid (Later.has ((Later.refl (w.alloc (Obj.cells #[.int .i64 16, .string text, .int .i64 num, .int .i64 lo, .int .i64 hi, .slice (some ⟨g, 0, none⟩) (ks.length + 1) c] TP))).alloc (Obj.cells #[.int .i64 0, .int .i64 0] TCs)) (heap_alloc_new w (Obj.cells #[.int .i64 16, .string text, .int .i64 num, .int .i64 lo, .int .i64 hi, .slice (some ⟨g, 0, none⟩) (ks.length + 1) c] TP)))
  have HR0 := Lib.hid (heap_alloc_two w (Obj.cells #[.int .i64 16, .string text, .int .i64 num, .int .i64 lo, .int .i64 hi, .slice (some ⟨g, 0, none⟩) (ks.length + 1) c] TP) (Obj.cells #[.int .i64 0, .int .i64 0] TCs))
  refine (IH.out k0 _ _ hc0 HV0.out (KidsIn.later HL0.out _ _ HK0.out)).mono ?_
  rintro e w2 ⟨rfl, hb2⟩
  have HR2 := Lib.hid (Later.has hb2 HR0.out)
  have HL2 := Lib.hid (HL0.out.trans hb2)
  have hB := has_lt HR2.out
  clear hb2
  obtain ⟨r0, r1⟩ := cells_cs HR2.out
  obtain ⟨f0, f1⟩ := frozen_cs HR2.out
  go_wp2_with fail
  exact bodyPost_ret (v := First.v (first k0)) (by simp [results, Try.results54, go_sem, r0, r1, f0, f1]) rfl ⟨rfl, Below.setCell (Below.setCell HL2.out (Nat.le_succ _) _) (Nat.le_succ _) _⟩

set_option maxRecDepth 100000 in
set_option maxHeartbeats 1000000 in
theorem firstBytes_17 {n : Int} {k : Nat} (ih : FirstIs 54 n k) (text : ByteArray) (num lo hi : Int) (A : Option Addr) (c : Nat) (k0 : Pat) (ks : List Pat) (w : World) (hc0 : count k0 ≤ k) (hv0 : valid k0 n = true) (hr : RowIn w A 0 (k0 :: ks)) :
    Calls Try.prog 54 #[patV 17 text num lo hi (.slice A (ks.length + 1) c)] w fun e w' => e = .returned (first k0).v ∧ Below w.heap.size w w' := by
  obtain ⟨g, kA0, kc0, rfl, hk0, he0⟩ := kid_cells hr (j := 0) (by simp) (Below.refl _ _)
  simp only [List.getElem_cons_zero] at hk0 he0
  obtain ⟨e00, e01, e02, e03, e04, e05⟩ := he0
  simp only [Nat.zero_mul, Nat.zero_add] at e00 e01 e02 e03 e04 e05
  have hg : g < w.heap.size := cell_lt e00
  have hpos : 0 < ks.length + 1 := by omega
  have IH := Lib.hid ih
  have HV0 := Lib.hid hv0
  have HK0 := Lib.hid hk0
  clear ih hr hv0 hk0
  go_enter Try.func54, Try.ntmps54
  go_wp2_with fail
  have HL0 := Lib.hid (((Later.refl w).alloc (Obj.cells #[.int .i64 17, .string text, .int .i64 num, .int .i64 lo, .int .i64 hi, .slice (some ⟨g, 0, none⟩) (ks.length + 1) c] TP)).alloc (Obj.cells #[.int .i64 0, .int .i64 0] TCs))
  have HP0 := Lib.hid (Later.has ((Later.refl (w.alloc (Obj.cells #[.int .i64 17, .string text, .int .i64 num, .int .i64 lo, .int .i64 hi, .slice (some ⟨g, 0, none⟩) (ks.length + 1) c] TP))).alloc (Obj.cells #[.int .i64 0, .int .i64 0] TCs)) (heap_alloc_new w (Obj.cells #[.int .i64 17, .string text, .int .i64 num, .int .i64 lo, .int .i64 hi, .slice (some ⟨g, 0, none⟩) (ks.length + 1) c] TP)))
  have HR0 := Lib.hid (heap_alloc_two w (Obj.cells #[.int .i64 17, .string text, .int .i64 num, .int .i64 lo, .int .i64 hi, .slice (some ⟨g, 0, none⟩) (ks.length + 1) c] TP) (Obj.cells #[.int .i64 0, .int .i64 0] TCs))
  refine (IH.out k0 _ _ hc0 HV0.out (KidsIn.later HL0.out _ _ HK0.out)).mono ?_
  rintro e w2 ⟨rfl, hb2⟩
  have HR2 := Lib.hid (Later.has hb2 HR0.out)
  have HL2 := Lib.hid (HL0.out.trans hb2)
  have hB := has_lt HR2.out
  clear hb2
  obtain ⟨r0, r1⟩ := cells_cs HR2.out
  obtain ⟨f0, f1⟩ := frozen_cs HR2.out
  go_wp2_with fail
  exact bodyPost_ret (v := First.v (first k0)) (by simp [results, Try.results54, go_sem, r0, r1, f0, f1]) rfl ⟨rfl, Below.setCell (Below.setCell HL2.out (Nat.le_succ _) _) (Nat.le_succ _) _⟩

set_option maxRecDepth 100000 in
set_option maxHeartbeats 2000000 in
theorem firstBytes_15 {n : Int} {k : Nat} (ih : FirstIs 54 n k) (text : ByteArray) (num lo hi : Int) (A : Option Addr) (c : Nat) (k0 k1 : Pat) (w : World) (hc0 : count k0 ≤ k) (hv0 : valid k0 n = true) (hc1 : count k1 ≤ k) (hv1 : valid k1 n = true) (hr : RowIn w A 0 [k0, k1]) :
    Calls Try.prog 54 #[patV 15 text num lo hi (.slice A 2 c)] w fun e w' => e = .returned (First.v (if (first k0).op_ || (first k1).op_ then .no else ⟨orWord (first k0).lo (first k1).lo, orWord (first k0).hi (first k1).hi, false⟩)) ∧ Below w.heap.size w w' := by
  obtain ⟨g, kA0, kc0, kA1, kc1, rfl, hk0, he0, hk1, he1⟩ := kids2 hr
  have IH := Lib.hid ih
  have HV0 := Lib.hid hv0
  have HV1 := Lib.hid hv1
  have HK0 := Lib.hid hk0
  have HK1 := Lib.hid hk1
  have HE1 := Lib.hid he1
  obtain ⟨e00, e01, e02, e03, e04, e05⟩ := he0
  simp only [Nat.zero_mul, Nat.zero_add] at e00 e01 e02 e03 e04 e05
  have hg : g < w.heap.size := cell_lt e00
  obtain ⟨⟨la, ha, oa⟩, hfa⟩ : ∃ f, first k0 = f := ⟨_, rfl⟩
  obtain ⟨⟨lb, hb, ob⟩, hfb⟩ : ∃ f, first k1 = f := ⟨_, rfl⟩
  have Ha := Lib.hid hfa
  have Hb := Lib.hid hfb
  rw [hfa, hfb]
  clear ih hr hv0 hv1 hk0 hk1 he1 hfa hfb
  go_enter Try.func54, Try.ntmps54
  go_wp2_with fail
  clear e00 e01 e02 e03 e04 e05
  have HL0 := Lib.hid (((Later.refl w).alloc (Obj.cells #[.int .i64 15, .string text, .int .i64 num, .int .i64 lo, .int .i64 hi, .slice (some ⟨g, 0, none⟩) 2 c] TP)).alloc (Obj.cells #[.int .i64 0, .int .i64 0] TCs))
  have HP0 := Lib.hid (Later.has ((Later.refl (w.alloc (Obj.cells #[.int .i64 15, .string text, .int .i64 num, .int .i64 lo, .int .i64 hi, .slice (some ⟨g, 0, none⟩) 2 c] TP))).alloc (Obj.cells #[.int .i64 0, .int .i64 0] TCs)) (heap_alloc_new w (Obj.cells #[.int .i64 15, .string text, .int .i64 num, .int .i64 lo, .int .i64 hi, .slice (some ⟨g, 0, none⟩) 2 c] TP)))
  have HR0 := Lib.hid (heap_alloc_two w (Obj.cells #[.int .i64 15, .string text, .int .i64 num, .int .i64 lo, .int .i64 hi, .slice (some ⟨g, 0, none⟩) 2 c] TP) (Obj.cells #[.int .i64 0, .int .i64 0] TCs))
  refine (IH.out k0 _ _ hc0 HV0.out (KidsIn.later HL0.out _ _ HK0.out)).mono ?_
  rintro e w2 ⟨rfl, hb2⟩
  rw [Ha.out]
  have HR2 := Lib.hid (Later.has hb2 HR0.out)
  have HP2 := Lib.hid (Later.has hb2 HP0.out)
  have HL2 := Lib.hid (HL0.out.trans hb2)
  clear hb2 HR0 HP0 HL0
  have hz := HL2.out.size
  have hB2 := has_lt HR2.out
  have hB' := has_lt HP2.out
  obtain ⟨p0, p1, p2, p3, p4, p5⟩ := cells_p HP2.out
  obtain ⟨e10, e11, e12, e13, e14, e15⟩ := HE1.out.below HL2.out
  simp only [Nat.one_mul, Nat.reduceAdd] at e10 e11 e12 e13 e14 e15
  have hg2 : g < w2.heap.size := by omega
  go_wp2_with fail
  clear p0 p1 p2 p3 p4 p5 e10 e11 e12 e13 e14 e15
  have HLA := Lib.hid ((Later.refl w2).alloc (Obj.cells #[.int .i64 la, .int .i64 ha] TCs))
  have HA2 := Lib.hid (heap_alloc_new w2 (Obj.cells #[.int .i64 la, .int .i64 ha] TCs))
  refine (IH.out k1 _ _ hc1 HV1.out (KidsIn.later (HL2.out.trans HLA.out) _ _ HK1.out)).mono ?_
  rintro e w3 ⟨rfl, hb3⟩
  rw [Hb.out]
  have HR3 := Lib.hid (Later.has hb3 (Later.has HLA.out HR2.out))
  have HA3 := Lib.hid (Later.has hb3 HA2.out)
  have HL3 := Lib.hid ((HL2.out.trans HLA.out).trans hb3)
  clear hb3 HR2 HP2 HLA HA2
  have hz3 := has_lt HA3.out
  have hB := has_lt HR3.out
  cases oa with
  | true =>
    cases ob with
    | true =>
      obtain ⟨r0, r1⟩ := cells_cs HR3.out
      obtain ⟨f0, f1⟩ := frozen_cs HR3.out
      go_wp2_with fail
      exact bodyPost_ret (v := First.v .no) (by simp [results, Try.results54, go_sem, r0, r1, f0, f1, hB]) rfl ⟨rfl, Below.alloc (Below.setCell (Below.setCell HL3.out (Nat.le_succ _) _) (Nat.le_succ _) _) (by have := HL3.out.size; simp; omega) _⟩
    | false =>
      obtain ⟨r0, r1⟩ := cells_cs HR3.out
      obtain ⟨f0, f1⟩ := frozen_cs HR3.out
      go_wp2_with fail
      exact bodyPost_ret (v := First.v .no) (by simp [results, Try.results54, go_sem, r0, r1, f0, f1, hB]) rfl ⟨rfl, Below.alloc (Below.setCell (Below.setCell HL3.out (Nat.le_succ _) _) (Nat.le_succ _) _) (by have := HL3.out.size; simp; omega) _⟩
  | false =>
    cases ob with
    | true =>
      obtain ⟨r0, r1⟩ := cells_cs HR3.out
      obtain ⟨f0, f1⟩ := frozen_cs HR3.out
      go_wp2_with fail
      exact bodyPost_ret (v := First.v .no) (by simp [results, Try.results54, go_sem, r0, r1, f0, f1, hB]) rfl ⟨rfl, Below.alloc (Below.setCell (Below.setCell HL3.out (Nat.le_succ _) _) (Nat.le_succ _) _) (by have := HL3.out.size; simp; omega) _⟩
    | false =>
      obtain ⟨a0, a1⟩ := cells_cs HA3.out
      go_wp2_with fail
      clear a0 a1
      have HLB := Lib.hid ((Later.refl w3).alloc (Obj.cells #[.int .i64 lb, .int .i64 hb] TCs))
      refine (implUnion_any _ _ _ _ _).mono ?_
      rintro e w4 ⟨rfl, hb4⟩
      have HR4 := Lib.hid (Later.has hb4 (Later.has HLB.out HR3.out))
      have HL4 := Lib.hid ((HL3.out.trans HLB.out).trans hb4)
      clear hb4 HLB HR3 HA3
      have hB4 := has_lt HR4.out
      obtain ⟨r0, r1⟩ := cells_cs HR4.out
      obtain ⟨f0, f1⟩ := frozen_cs HR4.out
      go_wp2_with fail
      exact bodyPost_ret (v := First.v ⟨orWord la lb, orWord ha hb, false⟩) (by simp [results, Try.results54, go_sem, r0, r1, f0, f1]) rfl ⟨rfl, Below.setCell (Below.setCell HL4.out (Nat.le_succ _) _) (Nat.le_succ _) _⟩

theorem firstBytes_any (n : Int) (k : Nat) : FirstIs 54 n k := by
  induction k with
  | zero => intro p kv w h; have := count_pos p; omega
  | succ k ih =>
    intro p kv w hk hv hin
    obtain ⟨A, c, rfl, hc, hrow⟩ := hin.form
    have hkid := valid_kids hv
    have htx := valid_text hv
    have hva : validAll p.kids n = true := by rw [valid_eq, Bool.and_eq_true] at hv; exact hv.2
    have hva := (validAll_iff _ _).1 hva
    have hcn : ∀ j (h : j < p.kids.length), count p.kids[j] ≤ k := fun j h => by have := count_kid_lt p j h; omega
    obtain ⟨op, text, num, lo, hi, kids⟩ := p
    simp only [Pat.op, Pat.kids, Pat.text, Pat.num] at *
    clear hv hk hin
    have hval : first (.mk op text num lo hi kids) = firstNum op text lo hi (firstAll kids) := by simp only [first]
    show Calls Try.prog 54 #[patV op text num lo hi (.slice A kids.length c)] w _
    rw [hval]
    clear hval
    by_cases o1 : op = 1
    · subst o1
      have ht : text.size ≤ 120 := (by simp only [okText, Pat.op, Pat.text] at htx; rw [if_pos trivial] at htx; exact of_decide_eq_true htx)
      unfold firstNum
      rw [if_pos rfl]
      by_cases h0 : 0 < text.size
      · rw [dif_pos h0]
        by_cases hb : (text[0].toNat : Int) < 128
        · rw [if_pos hb]
          exact firstBytes_1y text num lo hi A kids.length c w h0 ht hb
        · rw [if_neg hb]
          exact firstBytes_1n text num lo hi A kids.length c w h0 ht hb
      · rw [dif_neg h0]
        exact firstBytes_1e text num lo hi A kids.length c w h0
    by_cases o7 : op = 7
    · subst o7; exact firstBytes_7 text num lo hi A kids.length c w
    by_cases o9 : op = 9
    · subst o9; exact firstBytes_9 text num lo hi A kids.length c w
    by_cases o23 : op = 23
    · subst o23; exact firstBytes_23 text num lo hi A kids.length c w
    by_cases o14 : op = 14
    · subst o14
      have hl : kids.length = 2 := by have := hkid.2; simp [kidsOf] at this; omega
      match kids, hl with
      | [k0, k1], _ => exact firstBytes_14 ih text num lo hi A c k0 [k1] w (hcn 0 (by simp)) (hva 0 (by simp)) hrow
    by_cases o15 : op = 15
    · subst o15
      have hl : kids.length = 2 := by have := hkid.2; simp [kidsOf] at this; omega
      match kids, hl with
      | [k0, k1], _ => exact firstBytes_15 ih text num lo hi A c k0 k1 w (hcn 0 (by simp)) (hva 0 (by simp)) (hcn 1 (by simp)) (hva 1 (by simp)) hrow
    by_cases o16 : op = 16
    · subst o16
      have hl : kids.length = 1 := by have := hkid.2; simp [kidsOf] at this; omega
      match kids, hl with
      | [k0], _ => exact firstBytes_16 ih text num lo hi A c k0 [] w (hcn 0 (by simp)) (hva 0 (by simp)) hrow
    by_cases o17 : op = 17
    · subst o17
      have hl : kids.length = 1 := by have := hkid.2; simp [kidsOf] at this; omega
      match kids, hl with
      | [k0], _ => exact firstBytes_17 ih text num lo hi A c k0 [] w (hcn 0 (by simp)) (hva 0 (by simp)) hrow
    have e : firstNum op text lo hi (firstAll kids) = .no := by
      unfold firstNum
      rw [if_neg o1, if_neg (by omega), if_neg (by omega), if_neg o15, if_neg o23]
    rw [e]
    exact firstBytes_else text num lo hi A kids.length c w op o1 o7 o9 o14 o15 o16 o17 o23

set_option maxRecDepth 100000 in
set_option maxHeartbeats 1000000 in
theorem l21First_1e (text : ByteArray) (num lo hi : Int) (A : Option Addr) (l c : Nat) (w : World) (h0 : ¬ 0 < text.size) :
    Calls Try.prog 60 #[patV 1 text num lo hi (.slice A l c)] w fun e w' => e = .returned (First.v .no) ∧ Below w.heap.size w w' := by
  have n0 : (text.toList != []) = false := by simpa using toList_nil h0
  have n1 : (text.toList == []) = true := by simpa using toList_nil h0
  have n2 : text.size = 0 := by omega
  clear h0
  go_enter Try.func60, Try.ntmps60
  go_wp2_with fail
  exact bodyPost_ret (v := First.v .no) (by simp [results, Try.results60, go_sem]) rfl ⟨rfl, ((Below.refl _ _).alloc (Nat.le_refl _) _).alloc (by simp) _⟩

set_option maxRecDepth 100000 in
set_option maxHeartbeats 1000000 in
theorem l21First_1n (text : ByteArray) (num lo hi : Int) (A : Option Addr) (l c : Nat) (w : World) (h0 : 0 < text.size) (ht : text.size ≤ 120) (hb : ¬ (text[0].toNat : Int) < 128) :
    Calls Try.prog 60 #[patV 1 text num lo hi (.slice A l c)] w fun e w' => e = .returned (First.v .no) ∧ Below w.heap.size w w' := by
  have n0 : (text.toList != []) = true := by simpa using toList_ne h0
  have n1 : (text.toList == []) = false := by simpa using toList_ne h0
  have HX := Lib.hid (show 127 < (((text.extract 0 1)[0]'(by simp [ByteArray.size_extract]; omega)).toNat : Int) by rw [extract_first text h0]; omega)
  go_enter Try.func60, Try.ntmps60
  go_wp2_with fail
  have HL0 := Lib.hid (((Later.refl w).alloc (Obj.cells #[.int .i64 1, .string text, .int .i64 num, .int .i64 lo, .int .i64 hi, .slice A l c] TP)).alloc (Obj.cells #[.int .i64 0, .int .i64 0] TCs))
  have HP0 := Lib.hid (Later.has ((Later.refl (w.alloc (Obj.cells #[.int .i64 1, .string text, .int .i64 num, .int .i64 lo, .int .i64 hi, .slice A l c] TP))).alloc (Obj.cells #[.int .i64 0, .int .i64 0] TCs)) (heap_alloc_new w (Obj.cells #[.int .i64 1, .string text, .int .i64 num, .int .i64 lo, .int .i64 hi, .slice A l c] TP)))
  have HR0 := Lib.hid (heap_alloc_two w (Obj.cells #[.int .i64 1, .string text, .int .i64 num, .int .i64 lo, .int .i64 hi, .slice A l c] TP) (Obj.cells #[.int .i64 0, .int .i64 0] TCs))
  refine (specNew_no _ _ (by simp [ByteArray.size_extract]; omega) (by simp [ByteArray.size_extract]; omega) HX.out).mono ?_
  rintro e w2 ⟨rfl, hb2⟩
  have HR2 := Lib.hid (Later.has hb2 HR0.out)
  have HL2 := Lib.hid (HL0.out.trans hb2)
  have hB := has_lt HR2.out
  clear hb2
  obtain ⟨r0, r1⟩ := cells_cs HR2.out
  obtain ⟨f0, f1⟩ := frozen_cs HR2.out
  go_wp2_with fail
  exact bodyPost_ret (v := First.v .no) (by simp [results, Try.results60, go_sem, r0, r1, f0, f1, hB]) rfl ⟨rfl, Below.alloc (Below.setCell (Below.setCell HL2.out (Nat.le_succ _) _) (Nat.le_succ _) _) (by have := HL2.out.size; simp; omega) _⟩

set_option maxRecDepth 100000 in
set_option maxHeartbeats 1000000 in
theorem l21First_1y (text : ByteArray) (num lo hi : Int) (A : Option Addr) (l c : Nat) (w : World) (h0 : 0 < text.size) (ht : text.size ≤ 120) (hb : (text[0].toNat : Int) < 128) :
    Calls Try.prog 60 #[patV 1 text num lo hi (.slice A l c)] w fun e w' => e = .returned (First.v ⟨oneLo text[0].toNat, oneHi text[0].toNat, false⟩) ∧ Below w.heap.size w w' := by
  have n0 : (text.toList != []) = true := by simpa using toList_ne h0
  have n1 : (text.toList == []) = false := by simpa using toList_ne h0
  have HX := Lib.hid (show (((text.extract 0 1)[0]'(by simp [ByteArray.size_extract]; omega)).toNat : Int) < 128 by rw [extract_first text h0]; omega)
  go_enter Try.func60, Try.ntmps60
  go_wp2_with fail
  have HL0 := Lib.hid (((Later.refl w).alloc (Obj.cells #[.int .i64 1, .string text, .int .i64 num, .int .i64 lo, .int .i64 hi, .slice A l c] TP)).alloc (Obj.cells #[.int .i64 0, .int .i64 0] TCs))
  have HP0 := Lib.hid (Later.has ((Later.refl (w.alloc (Obj.cells #[.int .i64 1, .string text, .int .i64 num, .int .i64 lo, .int .i64 hi, .slice A l c] TP))).alloc (Obj.cells #[.int .i64 0, .int .i64 0] TCs)) (heap_alloc_new w (Obj.cells #[.int .i64 1, .string text, .int .i64 num, .int .i64 lo, .int .i64 hi, .slice A l c] TP)))
  have HR0 := Lib.hid (heap_alloc_two w (Obj.cells #[.int .i64 1, .string text, .int .i64 num, .int .i64 lo, .int .i64 hi, .slice A l c] TP) (Obj.cells #[.int .i64 0, .int .i64 0] TCs))
  refine (specNew_yes _ _ (by simp [ByteArray.size_extract]; omega) (by simp [ByteArray.size_extract]; omega) HX.out).mono ?_
  rintro e w2 ⟨rfl, hb2⟩
  have HR2 := Lib.hid (Later.has hb2 HR0.out)
  have HL2 := Lib.hid (HL0.out.trans hb2)
  have hB := has_lt HR2.out
  clear hb2
  simp only [extract_first text h0]
  obtain ⟨r0, r1⟩ := cells_cs HR2.out
  obtain ⟨f0, f1⟩ := frozen_cs HR2.out
  go_wp2_with fail
  exact bodyPost_ret (v := First.v ⟨oneLo text[0].toNat, oneHi text[0].toNat, false⟩) (by simp [results, Try.results60, go_sem, r0, r1, f0, f1, hB]) rfl ⟨rfl, Below.alloc (Below.setCell (Below.setCell HL2.out (Nat.le_succ _) _) (Nat.le_succ _) _) (by have := HL2.out.size; simp; omega) _⟩

set_option maxRecDepth 100000 in
set_option maxHeartbeats 1000000 in
theorem l21First_7 (text : ByteArray) (num lo hi : Int) (A : Option Addr) (l c : Nat) (w : World) :
    Calls Try.prog 60 #[patV 7 text num lo hi (.slice A l c)] w fun e w' => e = .returned (First.v ⟨lo, hi, false⟩) ∧ Below w.heap.size w w' := by
  go_enter Try.func60, Try.ntmps60
  go_wp2_with fail
  exact bodyPost_ret (v := First.v ⟨lo, hi, false⟩) (by simp [results, Try.results60, go_sem]) rfl ⟨rfl, ((Below.refl _ _).alloc (Nat.le_refl _) _).alloc (by simp) _⟩

set_option maxRecDepth 100000 in
set_option maxHeartbeats 1000000 in
theorem l21First_9 (text : ByteArray) (num lo hi : Int) (A : Option Addr) (l c : Nat) (w : World) :
    Calls Try.prog 60 #[patV 9 text num lo hi (.slice A l c)] w fun e w' => e = .returned (First.v ⟨lo, hi, false⟩) ∧ Below w.heap.size w w' := by
  go_enter Try.func60, Try.ntmps60
  go_wp2_with fail
  exact bodyPost_ret (v := First.v ⟨lo, hi, false⟩) (by simp [results, Try.results60, go_sem]) rfl ⟨rfl, ((Below.refl _ _).alloc (Nat.le_refl _) _).alloc (by simp) _⟩

set_option maxRecDepth 100000 in
set_option maxHeartbeats 1000000 in
theorem l21First_23 (text : ByteArray) (num lo hi : Int) (A : Option Addr) (l c : Nat) (w : World) :
    Calls Try.prog 60 #[patV 23 text num lo hi (.slice A l c)] w fun e w' => e = .returned (First.v ⟨0, 0, false⟩) ∧ Below w.heap.size w w' := by
  go_enter Try.func60, Try.ntmps60
  go_wp2_with fail
  exact bodyPost_ret (v := First.v ⟨0, 0, false⟩) (by simp [results, Try.results60, go_sem]) rfl ⟨rfl, ((Below.refl _ _).alloc (Nat.le_refl _) _).alloc (by simp) _⟩

set_option maxRecDepth 100000 in
set_option maxHeartbeats 1000000 in
theorem l21First_else (text : ByteArray) (num lo hi : Int) (A : Option Addr) (l c : Nat) (w : World) (op : Int) (o1 : ¬ op = 1) (o7 : ¬ op = 7) (o9 : ¬ op = 9) (o14 : ¬ op = 14) (o15 : ¬ op = 15) (o16 : ¬ op = 16) (o17 : ¬ op = 17) (o23 : ¬ op = 23) :
    Calls Try.prog 60 #[patV op text num lo hi (.slice A l c)] w fun e w' => e = .returned (First.v .no) ∧ Below w.heap.size w w' := by
  have n1 : (op == 1) = false := by simp; omega
  have n7 : (op == 7) = false := by simp; omega
  have n9 : (op == 9) = false := by simp; omega
  have n14 : (op == 14) = false := by simp; omega
  have n15 : (op == 15) = false := by simp; omega
  have n16 : (op == 16) = false := by simp; omega
  have n17 : (op == 17) = false := by simp; omega
  have n23 : (op == 23) = false := by simp; omega
  clear o1 o7 o9 o14 o15 o16 o17 o23
  go_enter Try.func60, Try.ntmps60
  go_wp2_with fail
  exact bodyPost_ret (v := First.v .no) (by simp [results, Try.results60, go_sem]) rfl ⟨rfl, ((Below.refl _ _).alloc (Nat.le_refl _) _).alloc (by simp) _⟩

set_option maxRecDepth 100000 in
set_option maxHeartbeats 1000000 in
theorem l21First_14 {n : Int} {k : Nat} (ih : FirstIs 60 n k) (text : ByteArray) (num lo hi : Int) (A : Option Addr) (c : Nat) (k0 : Pat) (ks : List Pat) (w : World) (hc0 : count k0 ≤ k) (hv0 : valid k0 n = true) (hr : RowIn w A 0 (k0 :: ks)) :
    Calls Try.prog 60 #[patV 14 text num lo hi (.slice A (ks.length + 1) c)] w fun e w' => e = .returned (first k0).v ∧ Below w.heap.size w w' := by
  obtain ⟨g, kA0, kc0, rfl, hk0, he0⟩ := kid_cells hr (j := 0) (by simp) (Below.refl _ _)
  simp only [List.getElem_cons_zero] at hk0 he0
  obtain ⟨e00, e01, e02, e03, e04, e05⟩ := he0
  simp only [Nat.zero_mul, Nat.zero_add] at e00 e01 e02 e03 e04 e05
  have hg : g < w.heap.size := cell_lt e00
  have hpos : 0 < ks.length + 1 := by omega
  have IH := Lib.hid ih
  have HV0 := Lib.hid hv0
  have HK0 := Lib.hid hk0
  clear ih hr hv0 hk0
  go_enter Try.func60, Try.ntmps60
  go_wp2_with fail
  have HL0 := Lib.hid (((Later.refl w).alloc (Obj.cells #[.int .i64 14, .string text, .int .i64 num, .int .i64 lo, .int .i64 hi, .slice (some ⟨g, 0, none⟩) (ks.length + 1) c] TP)).alloc (Obj.cells #[.int .i64 0, .int .i64 0] TCs))
  have HP0 := Lib.hid (Later.has ((Later.refl (w.alloc (Obj.cells #[.int .i64 14, .string text, .int .i64 num, .int .i64 lo, .int .i64 hi, .slice (some ⟨g, 0, none⟩) (ks.length + 1) c] TP))).alloc (Obj.cells #[.int .i64 0, .int .i64 0] TCs)) (heap_alloc_new w (Obj.cells #[.int .i64 14, .string text, .int .i64 num, .int .i64 lo, .int .i64 hi, .slice (some ⟨g, 0, none⟩) (ks.length + 1) c] TP)))
  have HR0 := Lib.hid (heap_alloc_two w (Obj.cells #[.int .i64 14, .string text, .int .i64 num, .int .i64 lo, .int .i64 hi, .slice (some ⟨g, 0, none⟩) (ks.length + 1) c] TP) (Obj.cells #[.int .i64 0, .int .i64 0] TCs))
  refine (IH.out k0 _ _ hc0 HV0.out (KidsIn.later HL0.out _ _ HK0.out)).mono ?_
  rintro e w2 ⟨rfl, hb2⟩
  have HR2 := Lib.hid (Later.has hb2 HR0.out)
  have HL2 := Lib.hid (HL0.out.trans hb2)
  have hB := has_lt HR2.out
  clear hb2
  obtain ⟨r0, r1⟩ := cells_cs HR2.out
  obtain ⟨f0, f1⟩ := frozen_cs HR2.out
  go_wp2_with fail
  exact bodyPost_ret (v := First.v (first k0)) (by simp [results, Try.results60, go_sem, r0, r1, f0, f1, hB]) rfl ⟨rfl, Below.alloc (Below.setCell (Below.setCell HL2.out (Nat.le_succ _) _) (Nat.le_succ _) _) (by have := HL2.out.size; simp; omega) _⟩

set_option maxRecDepth 100000 in
set_option maxHeartbeats 1000000 in
theorem l21First_16 {n : Int} {k : Nat} (ih : FirstIs 60 n k) (text : ByteArray) (num lo hi : Int) (A : Option Addr) (c : Nat) (k0 : Pat) (ks : List Pat) (w : World) (hc0 : count k0 ≤ k) (hv0 : valid k0 n = true) (hr : RowIn w A 0 (k0 :: ks)) :
    Calls Try.prog 60 #[patV 16 text num lo hi (.slice A (ks.length + 1) c)] w fun e w' => e = .returned (first k0).v ∧ Below w.heap.size w w' := by
  obtain ⟨g, kA0, kc0, rfl, hk0, he0⟩ := kid_cells hr (j := 0) (by simp) (Below.refl _ _)
  simp only [List.getElem_cons_zero] at hk0 he0
  obtain ⟨e00, e01, e02, e03, e04, e05⟩ := he0
  simp only [Nat.zero_mul, Nat.zero_add] at e00 e01 e02 e03 e04 e05
  have hg : g < w.heap.size := cell_lt e00
  have hpos : 0 < ks.length + 1 := by omega
  have IH := Lib.hid ih
  have HV0 := Lib.hid hv0
  have HK0 := Lib.hid hk0
  clear ih hr hv0 hk0
  go_enter Try.func60, Try.ntmps60
  go_wp2_with fail
  have HL0 := Lib.hid (((Later.refl w).alloc (Obj.cells #[.int .i64 16, .string text, .int .i64 num, .int .i64 lo, .int .i64 hi, .slice (some ⟨g, 0, none⟩) (ks.length + 1) c] TP)).alloc (Obj.cells #[.int .i64 0, .int .i64 0] TCs))
  have HP0 := Lib.hid (Later.has ((Later.refl (w.alloc (Obj.cells #[.int .i64 16, .string text, .int .i64 num, .int .i64 lo, .int .i64 hi, .slice (some ⟨g, 0, none⟩) (ks.length + 1) c] TP))).alloc (Obj.cells #[.int .i64 0, .int .i64 0] TCs)) (heap_alloc_new w (Obj.cells #[.int .i64 16, .string text, .int .i64 num, .int .i64 lo, .int .i64 hi, .slice (some ⟨g, 0, none⟩) (ks.length + 1) c] TP)))
  have HR0 := Lib.hid (heap_alloc_two w (Obj.cells #[.int .i64 16, .string text, .int .i64 num, .int .i64 lo, .int .i64 hi, .slice (some ⟨g, 0, none⟩) (ks.length + 1) c] TP) (Obj.cells #[.int .i64 0, .int .i64 0] TCs))
  refine (IH.out k0 _ _ hc0 HV0.out (KidsIn.later HL0.out _ _ HK0.out)).mono ?_
  rintro e w2 ⟨rfl, hb2⟩
  have HR2 := Lib.hid (Later.has hb2 HR0.out)
  have HL2 := Lib.hid (HL0.out.trans hb2)
  have hB := has_lt HR2.out
  clear hb2
  obtain ⟨r0, r1⟩ := cells_cs HR2.out
  obtain ⟨f0, f1⟩ := frozen_cs HR2.out
  go_wp2_with fail
  exact bodyPost_ret (v := First.v (first k0)) (by simp [results, Try.results60, go_sem, r0, r1, f0, f1]) rfl ⟨rfl, Below.setCell (Below.setCell HL2.out (Nat.le_succ _) _) (Nat.le_succ _) _⟩

set_option maxRecDepth 100000 in
set_option maxHeartbeats 1000000 in
theorem l21First_17 {n : Int} {k : Nat} (ih : FirstIs 60 n k) (text : ByteArray) (num lo hi : Int) (A : Option Addr) (c : Nat) (k0 : Pat) (ks : List Pat) (w : World) (hc0 : count k0 ≤ k) (hv0 : valid k0 n = true) (hr : RowIn w A 0 (k0 :: ks)) :
    Calls Try.prog 60 #[patV 17 text num lo hi (.slice A (ks.length + 1) c)] w fun e w' => e = .returned (first k0).v ∧ Below w.heap.size w w' := by
  obtain ⟨g, kA0, kc0, rfl, hk0, he0⟩ := kid_cells hr (j := 0) (by simp) (Below.refl _ _)
  simp only [List.getElem_cons_zero] at hk0 he0
  obtain ⟨e00, e01, e02, e03, e04, e05⟩ := he0
  simp only [Nat.zero_mul, Nat.zero_add] at e00 e01 e02 e03 e04 e05
  have hg : g < w.heap.size := cell_lt e00
  have hpos : 0 < ks.length + 1 := by omega
  have IH := Lib.hid ih
  have HV0 := Lib.hid hv0
  have HK0 := Lib.hid hk0
  clear ih hr hv0 hk0
  go_enter Try.func60, Try.ntmps60
  go_wp2_with fail
  have HL0 := Lib.hid (((Later.refl w).alloc (Obj.cells #[.int .i64 17, .string text, .int .i64 num, .int .i64 lo, .int .i64 hi, .slice (some ⟨g, 0, none⟩) (ks.length + 1) c] TP)).alloc (Obj.cells #[.int .i64 0, .int .i64 0] TCs))
  have HP0 := Lib.hid (Later.has ((Later.refl (w.alloc (Obj.cells #[.int .i64 17, .string text, .int .i64 num, .int .i64 lo, .int .i64 hi, .slice (some ⟨g, 0, none⟩) (ks.length + 1) c] TP))).alloc (Obj.cells #[.int .i64 0, .int .i64 0] TCs)) (heap_alloc_new w (Obj.cells #[.int .i64 17, .string text, .int .i64 num, .int .i64 lo, .int .i64 hi, .slice (some ⟨g, 0, none⟩) (ks.length + 1) c] TP)))
  have HR0 := Lib.hid (heap_alloc_two w (Obj.cells #[.int .i64 17, .string text, .int .i64 num, .int .i64 lo, .int .i64 hi, .slice (some ⟨g, 0, none⟩) (ks.length + 1) c] TP) (Obj.cells #[.int .i64 0, .int .i64 0] TCs))
  refine (IH.out k0 _ _ hc0 HV0.out (KidsIn.later HL0.out _ _ HK0.out)).mono ?_
  rintro e w2 ⟨rfl, hb2⟩
  have HR2 := Lib.hid (Later.has hb2 HR0.out)
  have HL2 := Lib.hid (HL0.out.trans hb2)
  have hB := has_lt HR2.out
  clear hb2
  obtain ⟨r0, r1⟩ := cells_cs HR2.out
  obtain ⟨f0, f1⟩ := frozen_cs HR2.out
  go_wp2_with fail
  exact bodyPost_ret (v := First.v (first k0)) (by simp [results, Try.results60, go_sem, r0, r1, f0, f1]) rfl ⟨rfl, Below.setCell (Below.setCell HL2.out (Nat.le_succ _) _) (Nat.le_succ _) _⟩

set_option maxRecDepth 100000 in
set_option maxHeartbeats 2000000 in
theorem l21First_15 {n : Int} {k : Nat} (ih : FirstIs 60 n k) (text : ByteArray) (num lo hi : Int) (A : Option Addr) (c : Nat) (k0 k1 : Pat) (w : World) (hc0 : count k0 ≤ k) (hv0 : valid k0 n = true) (hc1 : count k1 ≤ k) (hv1 : valid k1 n = true) (hr : RowIn w A 0 [k0, k1]) :
    Calls Try.prog 60 #[patV 15 text num lo hi (.slice A 2 c)] w fun e w' => e = .returned (First.v (if (first k0).op_ || (first k1).op_ then .no else ⟨orWord (first k0).lo (first k1).lo, orWord (first k0).hi (first k1).hi, false⟩)) ∧ Below w.heap.size w w' := by
  obtain ⟨g, kA0, kc0, kA1, kc1, rfl, hk0, he0, hk1, he1⟩ := kids2 hr
  have IH := Lib.hid ih
  have HV0 := Lib.hid hv0
  have HV1 := Lib.hid hv1
  have HK0 := Lib.hid hk0
  have HK1 := Lib.hid hk1
  have HE1 := Lib.hid he1
  obtain ⟨e00, e01, e02, e03, e04, e05⟩ := he0
  simp only [Nat.zero_mul, Nat.zero_add] at e00 e01 e02 e03 e04 e05
  have hg : g < w.heap.size := cell_lt e00
  obtain ⟨⟨la, ha, oa⟩, hfa⟩ : ∃ f, first k0 = f := ⟨_, rfl⟩
  obtain ⟨⟨lb, hb, ob⟩, hfb⟩ : ∃ f, first k1 = f := ⟨_, rfl⟩
  have Ha := Lib.hid hfa
  have Hb := Lib.hid hfb
  rw [hfa, hfb]
  clear ih hr hv0 hv1 hk0 hk1 he1 hfa hfb
  go_enter Try.func60, Try.ntmps60
  go_wp2_with fail
  clear e00 e01 e02 e03 e04 e05
  have HL0 := Lib.hid (((Later.refl w).alloc (Obj.cells #[.int .i64 15, .string text, .int .i64 num, .int .i64 lo, .int .i64 hi, .slice (some ⟨g, 0, none⟩) 2 c] TP)).alloc (Obj.cells #[.int .i64 0, .int .i64 0] TCs))
  have HP0 := Lib.hid (Later.has ((Later.refl (w.alloc (Obj.cells #[.int .i64 15, .string text, .int .i64 num, .int .i64 lo, .int .i64 hi, .slice (some ⟨g, 0, none⟩) 2 c] TP))).alloc (Obj.cells #[.int .i64 0, .int .i64 0] TCs)) (heap_alloc_new w (Obj.cells #[.int .i64 15, .string text, .int .i64 num, .int .i64 lo, .int .i64 hi, .slice (some ⟨g, 0, none⟩) 2 c] TP)))
  have HR0 := Lib.hid (heap_alloc_two w (Obj.cells #[.int .i64 15, .string text, .int .i64 num, .int .i64 lo, .int .i64 hi, .slice (some ⟨g, 0, none⟩) 2 c] TP) (Obj.cells #[.int .i64 0, .int .i64 0] TCs))
  refine (IH.out k0 _ _ hc0 HV0.out (KidsIn.later HL0.out _ _ HK0.out)).mono ?_
  rintro e w2 ⟨rfl, hb2⟩
  rw [Ha.out]
  have HR2 := Lib.hid (Later.has hb2 HR0.out)
  have HP2 := Lib.hid (Later.has hb2 HP0.out)
  have HL2 := Lib.hid (HL0.out.trans hb2)
  clear hb2 HR0 HP0 HL0
  have hz := HL2.out.size
  have hB2 := has_lt HR2.out
  have hB' := has_lt HP2.out
  obtain ⟨p0, p1, p2, p3, p4, p5⟩ := cells_p HP2.out
  obtain ⟨e10, e11, e12, e13, e14, e15⟩ := HE1.out.below HL2.out
  simp only [Nat.one_mul, Nat.reduceAdd] at e10 e11 e12 e13 e14 e15
  have hg2 : g < w2.heap.size := by omega
  go_wp2_with fail
  clear p0 p1 p2 p3 p4 p5 e10 e11 e12 e13 e14 e15
  have HLA := Lib.hid ((Later.refl w2).alloc (Obj.cells #[.int .i64 la, .int .i64 ha] TCs))
  have HA2 := Lib.hid (heap_alloc_new w2 (Obj.cells #[.int .i64 la, .int .i64 ha] TCs))
  refine (IH.out k1 _ _ hc1 HV1.out (KidsIn.later (HL2.out.trans HLA.out) _ _ HK1.out)).mono ?_
  rintro e w3 ⟨rfl, hb3⟩
  rw [Hb.out]
  have HR3 := Lib.hid (Later.has hb3 (Later.has HLA.out HR2.out))
  have HA3 := Lib.hid (Later.has hb3 HA2.out)
  have HL3 := Lib.hid ((HL2.out.trans HLA.out).trans hb3)
  clear hb3 HR2 HP2 HLA HA2
  have hz3 := has_lt HA3.out
  have hB := has_lt HR3.out
  cases oa with
  | true =>
    cases ob with
    | true =>
      obtain ⟨r0, r1⟩ := cells_cs HR3.out
      obtain ⟨f0, f1⟩ := frozen_cs HR3.out
      go_wp2_with fail
      exact bodyPost_ret (v := First.v .no) (by simp [results, Try.results60, go_sem, r0, r1, f0, f1, hB]) rfl ⟨rfl, Below.alloc (Below.setCell (Below.setCell HL3.out (Nat.le_succ _) _) (Nat.le_succ _) _) (by have := HL3.out.size; simp; omega) _⟩
    | false =>
      obtain ⟨r0, r1⟩ := cells_cs HR3.out
      obtain ⟨f0, f1⟩ := frozen_cs HR3.out
      go_wp2_with fail
      exact bodyPost_ret (v := First.v .no) (by simp [results, Try.results60, go_sem, r0, r1, f0, f1, hB]) rfl ⟨rfl, Below.alloc (Below.setCell (Below.setCell HL3.out (Nat.le_succ _) _) (Nat.le_succ _) _) (by have := HL3.out.size; simp; omega) _⟩
  | false =>
    cases ob with
    | true =>
      obtain ⟨r0, r1⟩ := cells_cs HR3.out
      obtain ⟨f0, f1⟩ := frozen_cs HR3.out
      go_wp2_with fail
      exact bodyPost_ret (v := First.v .no) (by simp [results, Try.results60, go_sem, r0, r1, f0, f1, hB]) rfl ⟨rfl, Below.alloc (Below.setCell (Below.setCell HL3.out (Nat.le_succ _) _) (Nat.le_succ _) _) (by have := HL3.out.size; simp; omega) _⟩
    | false =>
      obtain ⟨a0, a1⟩ := cells_cs HA3.out
      go_wp2_with fail
      clear a0 a1
      have HLB := Lib.hid ((Later.refl w3).alloc (Obj.cells #[.int .i64 lb, .int .i64 hb] TCs))
      refine (specUnion_any _ _ _ _ _).mono ?_
      rintro e w4 ⟨rfl, hb4⟩
      have HR4 := Lib.hid (Later.has hb4 (Later.has HLB.out HR3.out))
      have HL4 := Lib.hid ((HL3.out.trans HLB.out).trans hb4)
      clear hb4 HLB HR3 HA3
      have hB4 := has_lt HR4.out
      obtain ⟨r0, r1⟩ := cells_cs HR4.out
      obtain ⟨f0, f1⟩ := frozen_cs HR4.out
      go_wp2_with fail
      exact bodyPost_ret (v := First.v ⟨orWord la lb, orWord ha hb, false⟩) (by simp [results, Try.results60, go_sem, r0, r1, f0, f1]) rfl ⟨rfl, Below.setCell (Below.setCell HL4.out (Nat.le_succ _) _) (Nat.le_succ _) _⟩

theorem l21First_any (n : Int) (k : Nat) : FirstIs 60 n k := by
  induction k with
  | zero => intro p kv w h; have := count_pos p; omega
  | succ k ih =>
    intro p kv w hk hv hin
    obtain ⟨A, c, rfl, hc, hrow⟩ := hin.form
    have hkid := valid_kids hv
    have htx := valid_text hv
    have hva : validAll p.kids n = true := by rw [valid_eq, Bool.and_eq_true] at hv; exact hv.2
    have hva := (validAll_iff _ _).1 hva
    have hcn : ∀ j (h : j < p.kids.length), count p.kids[j] ≤ k := fun j h => by have := count_kid_lt p j h; omega
    obtain ⟨op, text, num, lo, hi, kids⟩ := p
    simp only [Pat.op, Pat.kids, Pat.text, Pat.num] at *
    clear hv hk hin
    have hval : first (.mk op text num lo hi kids) = firstNum op text lo hi (firstAll kids) := by simp only [first]
    show Calls Try.prog 60 #[patV op text num lo hi (.slice A kids.length c)] w _
    rw [hval]
    clear hval
    by_cases o1 : op = 1
    · subst o1
      have ht : text.size ≤ 120 := (by simp only [okText, Pat.op, Pat.text] at htx; rw [if_pos trivial] at htx; exact of_decide_eq_true htx)
      unfold firstNum
      rw [if_pos rfl]
      by_cases h0 : 0 < text.size
      · rw [dif_pos h0]
        by_cases hb : (text[0].toNat : Int) < 128
        · rw [if_pos hb]
          exact l21First_1y text num lo hi A kids.length c w h0 ht hb
        · rw [if_neg hb]
          exact l21First_1n text num lo hi A kids.length c w h0 ht hb
      · rw [dif_neg h0]
        exact l21First_1e text num lo hi A kids.length c w h0
    by_cases o7 : op = 7
    · subst o7; exact l21First_7 text num lo hi A kids.length c w
    by_cases o9 : op = 9
    · subst o9; exact l21First_9 text num lo hi A kids.length c w
    by_cases o23 : op = 23
    · subst o23; exact l21First_23 text num lo hi A kids.length c w
    by_cases o14 : op = 14
    · subst o14
      have hl : kids.length = 2 := by have := hkid.2; simp [kidsOf] at this; omega
      match kids, hl with
      | [k0, k1], _ => exact l21First_14 ih text num lo hi A c k0 [k1] w (hcn 0 (by simp)) (hva 0 (by simp)) hrow
    by_cases o15 : op = 15
    · subst o15
      have hl : kids.length = 2 := by have := hkid.2; simp [kidsOf] at this; omega
      match kids, hl with
      | [k0, k1], _ => exact l21First_15 ih text num lo hi A c k0 k1 w (hcn 0 (by simp)) (hva 0 (by simp)) (hcn 1 (by simp)) (hva 1 (by simp)) hrow
    by_cases o16 : op = 16
    · subst o16
      have hl : kids.length = 1 := by have := hkid.2; simp [kidsOf] at this; omega
      match kids, hl with
      | [k0], _ => exact l21First_16 ih text num lo hi A c k0 [] w (hcn 0 (by simp)) (hva 0 (by simp)) hrow
    by_cases o17 : op = 17
    · subst o17
      have hl : kids.length = 1 := by have := hkid.2; simp [kidsOf] at this; omega
      match kids, hl with
      | [k0], _ => exact l21First_17 ih text num lo hi A c k0 [] w (hcn 0 (by simp)) (hva 0 (by simp)) hrow
    have e : firstNum op text lo hi (firstAll kids) = .no := by
      unfold firstNum
      rw [if_neg o1, if_neg (by omega), if_neg (by omega), if_neg o15, if_neg o23]
    rw [e]
    exact l21First_else text num lo hi A kids.length c w op o1 o7 o9 o14 o15 o16 o17 o23

end Go.Proofs.Ytndefbecoahfhaa

/- The test that a pruned search asks at an offset: PrunedSearch's function. Printed by gen_prtake.py. -/
namespace Go.Proofs.Ytndefbecoahfhaa
open Go.RowKit

theorem cells_1 {x : World} {b : Nat} {v : Value} {t : TypeId} (h : x.heap[b]? = some (.cells #[v] t (0, 0))) : x.cell? ⟨b, 0, none⟩ = some v := cell_of_row x b 0 _ _ _ h
def takeAt (s : ByteArray) (least : Int) (f : First) (k : Nat) : Bool := decide (least ≤ (s.size : Int) - k) && (f.op_ || (decide (k < s.size) && hb f.lo f.hi (byteAt s k)))
theorem byteAt_u8 (s : ByteArray) (i : Nat) (h : i < s.size) : (s[i].toNat : Int) = byteAt s i := byteAt_eq s i h

set_option maxRecDepth 100000 in
set_option maxHeartbeats 1000000 in
theorem take_short (s : ByteArray) (least : Int) (f : First) (k : Nat) (SB LB EB CB : Nat) (w : World) (hs : w.heap[SB]? = some (.cells #[.string s] 9 (0, 0))) (hl : w.heap[LB]? = some (.cells #[.int .i64 least] 3 (0, 0))) (ho : w.heap[EB]? = some (.cells #[.bool f.op_] 4 (0, 0))) (hc : w.heap[CB]? = some (.cells #[.int .i64 f.lo, .int .i64 f.hi] TCs (0, 0))) (hss : s.size ≤ 120) (hk : k ≤ s.size) (h0 : 0 ≤ least) (h1 : least ≤ 121) (hle : (s.size : Int) - k < least) :
    Calls Try.prog 55 #[.int .i64 k, .pointer (some ⟨SB, 0, none⟩), .pointer (some ⟨LB, 0, none⟩), .pointer (some ⟨EB, 0, none⟩), .pointer (some ⟨CB, 0, none⟩)] w fun e w' => e = .returned (.bool (false)) ∧ Below w.heap.size w w' := by
  have i1 : (s.size : Int) ≤ 120 := by omega
  have i2 : (k : Int) ≤ s.size := by omega
  have i3 : (0 : Int) ≤ s.size := by omega
  have s0 := cells_1 hs
  have l0 := cells_1 hl
  have o0 := cells_1 ho
  obtain ⟨c0, c1⟩ := cells_cs hc
  have t1 : decide (least ≤ (s.size : Int) - k) = false := by simp; omega
  clear hs hl ho hc
  go_enter Try.func55, Try.ntmps55
  go_wp2_with fail
  go_quiet (fail)
  go_wp2_with fail
  go_ret
  exact ⟨rfl, below_drewN' (Below.refl _ _) _⟩

set_option maxRecDepth 100000 in
set_option maxHeartbeats 1000000 in
theorem take_open (s : ByteArray) (least : Int) (f : First) (k : Nat) (SB LB EB CB : Nat) (w : World) (hs : w.heap[SB]? = some (.cells #[.string s] 9 (0, 0))) (hl : w.heap[LB]? = some (.cells #[.int .i64 least] 3 (0, 0))) (ho : w.heap[EB]? = some (.cells #[.bool f.op_] 4 (0, 0))) (hc : w.heap[CB]? = some (.cells #[.int .i64 f.lo, .int .i64 f.hi] TCs (0, 0))) (hss : s.size ≤ 120) (hk : k ≤ s.size) (h0 : 0 ≤ least) (h1 : least ≤ 121) (hle : least ≤ (s.size : Int) - k) (hop : f.op_ = true) :
    Calls Try.prog 55 #[.int .i64 k, .pointer (some ⟨SB, 0, none⟩), .pointer (some ⟨LB, 0, none⟩), .pointer (some ⟨EB, 0, none⟩), .pointer (some ⟨CB, 0, none⟩)] w fun e w' => e = .returned (.bool (true)) ∧ Below w.heap.size w w' := by
  have i1 : (s.size : Int) ≤ 120 := by omega
  have i2 : (k : Int) ≤ s.size := by omega
  have i3 : (0 : Int) ≤ s.size := by omega
  rw [hop] at ho
  clear hop
  have s0 := cells_1 hs
  have l0 := cells_1 hl
  have o0 := cells_1 ho
  obtain ⟨c0, c1⟩ := cells_cs hc
  have t1 : decide (least ≤ (s.size : Int) - k) = true := by simp; omega
  clear hs hl ho hc
  go_enter Try.func55, Try.ntmps55
  go_wp2_with fail
  go_quiet (fail)
  go_wp2_with fail
  go_ret
  exact ⟨rfl, below_drewN' (Below.refl _ _) _⟩

set_option maxRecDepth 100000 in
set_option maxHeartbeats 1000000 in
theorem take_end (s : ByteArray) (least : Int) (f : First) (k : Nat) (SB LB EB CB : Nat) (w : World) (hs : w.heap[SB]? = some (.cells #[.string s] 9 (0, 0))) (hl : w.heap[LB]? = some (.cells #[.int .i64 least] 3 (0, 0))) (ho : w.heap[EB]? = some (.cells #[.bool f.op_] 4 (0, 0))) (hc : w.heap[CB]? = some (.cells #[.int .i64 f.lo, .int .i64 f.hi] TCs (0, 0))) (hss : s.size ≤ 120) (hk : k ≤ s.size) (h0 : 0 ≤ least) (h1 : least ≤ 121) (hle : least ≤ (s.size : Int) - k) (hop : f.op_ = false) (hend : ¬ k < s.size) :
    Calls Try.prog 55 #[.int .i64 k, .pointer (some ⟨SB, 0, none⟩), .pointer (some ⟨LB, 0, none⟩), .pointer (some ⟨EB, 0, none⟩), .pointer (some ⟨CB, 0, none⟩)] w fun e w' => e = .returned (.bool (false)) ∧ Below w.heap.size w w' := by
  have i1 : (s.size : Int) ≤ 120 := by omega
  have i2 : (k : Int) ≤ s.size := by omega
  have i3 : (0 : Int) ≤ s.size := by omega
  rw [hop] at ho
  clear hop
  have s0 := cells_1 hs
  have l0 := cells_1 hl
  have o0 := cells_1 ho
  obtain ⟨c0, c1⟩ := cells_cs hc
  have t1 : decide (least ≤ (s.size : Int) - k) = true := by simp; omega
  have t2 : decide (k < s.size) = false := by simp; omega
  have t3 : decide ((k : Int) < s.size) = false := by simp; omega
  clear hs hl ho hc
  go_enter Try.func55, Try.ntmps55
  go_wp2_with fail
  go_quiet (fail)
  go_wp2_with fail
  go_ret
  exact ⟨rfl, below_drewN' (Below.refl _ _) _⟩

set_option maxRecDepth 100000 in
set_option maxHeartbeats 1000000 in
theorem take_byte (s : ByteArray) (least : Int) (f : First) (k : Nat) (SB LB EB CB : Nat) (w : World) (hs : w.heap[SB]? = some (.cells #[.string s] 9 (0, 0))) (hl : w.heap[LB]? = some (.cells #[.int .i64 least] 3 (0, 0))) (ho : w.heap[EB]? = some (.cells #[.bool f.op_] 4 (0, 0))) (hc : w.heap[CB]? = some (.cells #[.int .i64 f.lo, .int .i64 f.hi] TCs (0, 0))) (hss : s.size ≤ 120) (hk : k ≤ s.size) (h0 : 0 ≤ least) (h1 : least ≤ 121) (hle : least ≤ (s.size : Int) - k) (hop : f.op_ = false) (hlt : k < s.size) :
    Calls Try.prog 55 #[.int .i64 k, .pointer (some ⟨SB, 0, none⟩), .pointer (some ⟨LB, 0, none⟩), .pointer (some ⟨EB, 0, none⟩), .pointer (some ⟨CB, 0, none⟩)] w fun e w' => e = .returned (.bool (hb f.lo f.hi (byteAt s k))) ∧ Below w.heap.size w w' := by
  have i1 : (s.size : Int) ≤ 120 := by omega
  have i2 : (k : Int) ≤ s.size := by omega
  have i3 : (0 : Int) ≤ s.size := by omega
  rw [hop] at ho
  clear hop
  have t1 : decide (least ≤ (s.size : Int) - k) = true := by simp; omega
  have t2 : decide (k < s.size) = true := by simp; omega
  have t3 : decide ((k : Int) < s.size) = true := by simp; omega
  have t4 := byteAt_u8 s k hlt
  have hlt' : (k : Int) < s.size := by omega
  have hw1 : IntKind.i64.wrap ((s.size : Int) - k) = (s.size : Int) - k := IntWalk.i64_in _ (by omega)
  obtain ⟨hb0, hb1⟩ := byteAt_bd s k
  have HS := Lib.hid hs
  have HL := Lib.hid hl
  have HO := Lib.hid ho
  have HC := Lib.hid hc
  clear hs hl ho hc
  go_enter Try.func55, Try.ntmps55
  go_wp2_with fail
  -- region 1: 23 operations, the last []
  refine wpU_begin [] [] (by kernel_rfl) (fun w1 hw1 => ?_)
  have hl1 := drew_later hw1
  have HS1 := Lib.hid (hl1.has HS.out)
  have HL1 := Lib.hid (hl1.has HL.out)
  have HO1 := Lib.hid (hl1.has HO.out)
  have HC1 := Lib.hid (hl1.has HC.out)
  have HJ1 := Lib.hid hl1
  clear hw1 hl1
  refine wpU_take 0 (some 7) (v := ?_) rfl rfl (by kernel_rfl) (fun _ _ _ h => h) rfl (fun x hx => ?_) ?_
  rotate_left 1
  · have s0 := cells_1 (hx.has HS1.out); have l0 := cells_1 (hx.has HL1.out); have o0 := cells_1 (hx.has HO1.out); obtain ⟨c0, c1⟩ := cells_cs (hx.has HC1.out); go_simp; first | done | with_reducible rfl | rw [if_neg (by omega)] | rw [if_pos (by omega)]
  simp only [Act.put, List.setIfInBounds_toArray, List.set_cons_zero, List.set_cons_succ]
  refine wpU_take 1 (some 8) (v := ?_) rfl rfl (by kernel_rfl) (fun _ _ _ h => h) rfl (fun x hx => ?_) ?_
  rotate_left 1
  · go_simp; first | done | with_reducible rfl | rw [if_neg (by omega)] | rw [if_pos (by omega)]
  simp only [Act.put, List.setIfInBounds_toArray, List.set_cons_zero, List.set_cons_succ]
  refine wpU_take 2 (some 9) (v := ?_) rfl rfl (by kernel_rfl) (fun _ _ _ h => h) rfl (fun x hx => ?_) ?_
  rotate_left 1
  · go_simp; first | done | with_reducible rfl | rw [if_neg (by omega)] | rw [if_pos (by omega)]
  simp only [Act.put, List.setIfInBounds_toArray, List.set_cons_zero, List.set_cons_succ]
  refine wpU_take 3 (some 10) (v := ?_) rfl rfl (by kernel_rfl) (fun _ _ _ h => h) rfl (fun x hx => ?_) ?_
  rotate_left 1
  · go_simp; first | done | with_reducible rfl | rw [if_neg (by omega)] | rw [if_pos (by omega)]
  simp only [Act.put, List.setIfInBounds_toArray, List.set_cons_zero, List.set_cons_succ]
  refine wpU_take 4 (some 11) (v := ?_) rfl rfl (by kernel_rfl) (fun _ _ _ h => h) rfl (fun x hx => ?_) ?_
  rotate_left 1
  · have s0 := cells_1 (hx.has HS1.out); have l0 := cells_1 (hx.has HL1.out); have o0 := cells_1 (hx.has HO1.out); obtain ⟨c0, c1⟩ := cells_cs (hx.has HC1.out); go_simp; first | done | with_reducible rfl | rw [if_neg (by omega)] | rw [if_pos (by omega)]
  simp only [Act.put, List.setIfInBounds_toArray, List.set_cons_zero, List.set_cons_succ]
  refine wpU_take 5 (some 12) (v := ?_) rfl rfl (by kernel_rfl) (fun _ _ _ h => h) rfl (fun x hx => ?_) ?_
  rotate_left 1
  · go_simp; first | done | with_reducible rfl | rw [if_neg (by omega)] | rw [if_pos (by omega)]
  simp only [Act.put, List.setIfInBounds_toArray, List.set_cons_zero, List.set_cons_succ]
  refine wpU_take 6 (some 13) (v := ?_) rfl rfl (by kernel_rfl) (fun _ _ _ h => h) rfl (fun x hx => ?_) ?_
  rotate_left 1
  · go_simp; first | done | with_reducible rfl | rw [if_neg (by omega)] | rw [if_pos (by omega)]
  simp only [Act.put, List.setIfInBounds_toArray, List.set_cons_zero, List.set_cons_succ]
  refine wpU_take 7 (some 14) (v := ?_) rfl rfl (by kernel_rfl) (fun _ _ _ h => h) rfl (fun x hx => ?_) ?_
  rotate_left 1
  · have s0 := cells_1 (hx.has HS1.out); have l0 := cells_1 (hx.has HL1.out); have o0 := cells_1 (hx.has HO1.out); obtain ⟨c0, c1⟩ := cells_cs (hx.has HC1.out); go_simp; first | done | with_reducible rfl | rw [if_neg (by omega)] | rw [if_pos (by omega)]
  simp only [Act.put, List.setIfInBounds_toArray, List.set_cons_zero, List.set_cons_succ]
  refine wpU_take 8 (some 15) (v := ?_) rfl rfl (by kernel_rfl) (fun _ _ _ h => h) rfl (fun x hx => ?_) ?_
  rotate_left 1
  · go_simp; first | done | with_reducible rfl | rw [if_neg (by omega)] | rw [if_pos (by omega)]
  simp only [Act.put, List.setIfInBounds_toArray, List.set_cons_zero, List.set_cons_succ]
  refine wpU_take 9 (some 16) (v := ?_) rfl rfl (by kernel_rfl) (fun _ _ _ h => h) rfl (fun x hx => ?_) ?_
  rotate_left 1
  · go_simp; first | done | with_reducible rfl | rw [if_neg (by omega)] | rw [if_pos (by omega)]
  simp only [Act.put, List.setIfInBounds_toArray, List.set_cons_zero, List.set_cons_succ]
  refine wpU_take 10 (some 17) (v := ?_) rfl rfl (by kernel_rfl) (fun _ _ _ h => h) rfl (fun x hx => ?_) ?_
  rotate_left 1
  · have s0 := cells_1 (hx.has HS1.out); have l0 := cells_1 (hx.has HL1.out); have o0 := cells_1 (hx.has HO1.out); obtain ⟨c0, c1⟩ := cells_cs (hx.has HC1.out); go_simp; first | done | with_reducible rfl | rw [if_neg (by omega)] | rw [if_pos (by omega)]
  simp only [Act.put, List.setIfInBounds_toArray, List.set_cons_zero, List.set_cons_succ]
  refine wpU_take 11 (some 18) (v := ?_) rfl rfl (by kernel_rfl) (fun _ _ _ h => h) rfl (fun x hx => ?_) ?_
  rotate_left 1
  · go_simp; first | done | with_reducible rfl | rw [if_neg (by omega)] | rw [if_pos (by omega)]
  simp only [Act.put, List.setIfInBounds_toArray, List.set_cons_zero, List.set_cons_succ]
  refine wpU_take 12 (some 19) (v := ?_) rfl rfl (by kernel_rfl) (fun _ _ _ h => h) rfl (fun x hx => ?_) ?_
  rotate_left 1
  · go_simp; first | done | with_reducible rfl | rw [if_neg (by omega)] | rw [if_pos (by omega)]
  simp only [Act.put, List.setIfInBounds_toArray, List.set_cons_zero, List.set_cons_succ]
  refine wpU_take 13 (some 20) (v := ?_) rfl rfl (by kernel_rfl) (fun _ _ _ h => h) rfl (fun x hx => ?_) ?_
  rotate_left 1
  · go_simp; first | done | with_reducible rfl | rw [if_neg (by omega)] | rw [if_pos (by omega)]
  simp only [Act.put, List.setIfInBounds_toArray, List.set_cons_zero, List.set_cons_succ]
  refine wpU_take 14 (some 21) (v := ?_) rfl rfl (by kernel_rfl) (fun _ _ _ h => h) rfl (fun x hx => ?_) ?_
  rotate_left 1
  · have s0 := cells_1 (hx.has HS1.out); have l0 := cells_1 (hx.has HL1.out); have o0 := cells_1 (hx.has HO1.out); obtain ⟨c0, c1⟩ := cells_cs (hx.has HC1.out); go_simp; first | done | with_reducible rfl | rw [if_neg (by omega)] | rw [if_pos (by omega)]
  simp only [Act.put, List.setIfInBounds_toArray, List.set_cons_zero, List.set_cons_succ]
  refine wpU_take 15 (some 22) (v := ?_) rfl rfl (by kernel_rfl) (fun _ _ _ h => h) rfl (fun x hx => ?_) ?_
  rotate_left 1
  · have s0 := cells_1 (hx.has HS1.out); have l0 := cells_1 (hx.has HL1.out); have o0 := cells_1 (hx.has HO1.out); obtain ⟨c0, c1⟩ := cells_cs (hx.has HC1.out); go_simp; first | done | with_reducible rfl | rw [if_neg (by omega)] | rw [if_pos (by omega)]
  simp only [Act.put, List.setIfInBounds_toArray, List.set_cons_zero, List.set_cons_succ]
  refine wpU_take 16 (some 23) (v := ?_) rfl rfl (by kernel_rfl) (fun _ _ _ h => h) rfl (fun x hx => ?_) ?_
  rotate_left 1
  · go_simp; first | done | with_reducible rfl | rw [if_neg (by omega)] | rw [if_pos (by omega)]
  simp only [Act.put, List.setIfInBounds_toArray, List.set_cons_zero, List.set_cons_succ]
  refine wpU_take 17 (some 24) (v := ?_) rfl rfl (by kernel_rfl) (fun _ _ _ h => h) rfl (fun x hx => ?_) ?_
  rotate_left 1
  · go_simp; first | done | with_reducible rfl | rw [if_neg (by omega)] | rw [if_pos (by omega)]
  simp only [Act.put, List.setIfInBounds_toArray, List.set_cons_zero, List.set_cons_succ]
  refine wpU_step 18 (by kernel_rfl) rfl rfl ?_  -- call value (Go.Operand.func 56)
  go_wp2_with fail
  refine (implHasByte_any f.lo f.hi (byteAt s k) _ hb0 hb1).mono ?_
  rintro e w2 ⟨rfl, hb2⟩
  go_wp2_with fail
  refine ⟨hb2, ?_⟩
  have HJ2 := Lib.hid (HJ1.out.trans hb2)
  clear hb2
  refine wpU_take 19 (some 26) (v := ?_) rfl rfl (by kernel_rfl) (fun _ _ _ h => h) rfl (fun x hx => ?_) ?_
  rotate_left 1
  · go_simp; first | done | with_reducible rfl | rw [if_neg (by omega)] | rw [if_pos (by omega)]
  simp only [Act.put, List.setIfInBounds_toArray, List.set_cons_zero, List.set_cons_succ]
  refine wpU_take 20 (some 27) (v := ?_) rfl rfl (by kernel_rfl) (fun _ _ _ h => h) rfl (fun x hx => ?_) ?_
  rotate_left 1
  · go_simp; first | done | with_reducible rfl | rw [if_neg (by omega)] | rw [if_pos (by omega)]
  simp only [Act.put, List.setIfInBounds_toArray, List.set_cons_zero, List.set_cons_succ]
  refine wpU_take 21 (some 28) (v := ?_) rfl rfl (by kernel_rfl) (fun _ _ _ h => h) rfl (fun x hx => ?_) ?_
  rotate_left 1
  · go_simp; first | done | with_reducible rfl | rw [if_neg (by omega)] | rw [if_pos (by omega)]
  simp only [Act.put, List.setIfInBounds_toArray, List.set_cons_zero, List.set_cons_succ]
  refine wpU_take 22 (some 6) (v := ?_) rfl rfl (by kernel_rfl) (fun _ _ _ h => h) rfl (fun x hx => ?_) ?_
  rotate_left 1
  · go_simp; first | done | with_reducible rfl | rw [if_neg (by omega)] | rw [if_pos (by omega)]
  simp only [Act.put, List.setIfInBounds_toArray, List.set_cons_zero, List.set_cons_succ]
  refine wpU_last [] (by kernel_rfl) rfl rfl ?_
  go_wp2_with fail
  go_ret
  exact ⟨rfl, HJ2.out⟩

theorem take_any (s : ByteArray) (least : Int) (f : First) (k : Nat) (SB LB EB CB : Nat) (w : World) (hs : w.heap[SB]? = some (.cells #[.string s] 9 (0, 0))) (hl : w.heap[LB]? = some (.cells #[.int .i64 least] 3 (0, 0))) (ho : w.heap[EB]? = some (.cells #[.bool f.op_] 4 (0, 0))) (hc : w.heap[CB]? = some (.cells #[.int .i64 f.lo, .int .i64 f.hi] TCs (0, 0))) (hss : s.size ≤ 120) (hk : k ≤ s.size) (h0 : 0 ≤ least) (h1 : least ≤ 121) (b : Bool) (hb : takeAt s least f k = b) :
    Calls Try.prog 55 #[.int .i64 k, .pointer (some ⟨SB, 0, none⟩), .pointer (some ⟨LB, 0, none⟩), .pointer (some ⟨EB, 0, none⟩), .pointer (some ⟨CB, 0, none⟩)] w fun e w' => e = .returned (.bool b) ∧ Below w.heap.size w w' := by
  subst hb
  unfold takeAt
  by_cases hle : least ≤ (s.size : Int) - k
  · cases hop : f.op_ with
    | true =>
      have e : (decide (least ≤ (s.size : Int) - k) && (true || (decide (k < s.size) && Go.Proofs.Ytndefbecoahfhaa.hb f.lo f.hi (byteAt s k)))) = true := by simp; omega
      rw [e]
      exact take_open s least f k SB LB EB CB w hs hl ho hc hss hk h0 h1 hle hop
    | false =>
      by_cases hlt : k < s.size
      · have e : (decide (least ≤ (s.size : Int) - k) && (false || (decide (k < s.size) && Go.Proofs.Ytndefbecoahfhaa.hb f.lo f.hi (byteAt s k)))) = Go.Proofs.Ytndefbecoahfhaa.hb f.lo f.hi (byteAt s k) := by
          rw [decide_eq_true hle, decide_eq_true hlt]; simp
        rw [e]
        exact take_byte s least f k SB LB EB CB w hs hl ho hc hss hk h0 h1 hle hop hlt
      · have e : (decide (least ≤ (s.size : Int) - k) && (false || (decide (k < s.size) && Go.Proofs.Ytndefbecoahfhaa.hb f.lo f.hi (byteAt s k)))) = false := by
          rw [decide_eq_false hlt]; simp
        rw [e]
        exact take_end s least f k SB LB EB CB w hs hl ho hc hss hk h0 h1 hle hop hlt
  · have e : (decide (least ≤ (s.size : Int) - k) && (f.op_ || (decide (k < s.size) && Go.Proofs.Ytndefbecoahfhaa.hb f.lo f.hi (byteAt s k)))) = false := by
      rw [decide_eq_false hle]; rfl
    rw [e]
    exact take_short s least f k SB LB EB CB w hs hl ho hc hss hk h0 h1 (by omega)

end Go.Proofs.Ytndefbecoahfhaa
