/- What the walk of impl.validPattern uses. Printed by gen_valid.py. -/
import Derived.Test.YtndefbecoahfhaaLeft
namespace Go.Proofs.Ytndefbecoahfhaa
open Go.RowKit
theorem ret_bool {a b : Bool} (h : a = b) : Ending.returned (.bool a) = .returned (.bool b) := by rw [h]
theorem quiet_left {P : Program} {f : FuncId} {args : Array Value} {w : World} {n : Nat} {v : Value}
    (h : Calls P f args (w.drewN n) fun e w' => e = .returned v ∧ w.drewN n = w') : Calls P f args (w.drewN n) fun e w'' => e = .returned v ∧ ∃ m, w'' = w.drewN m :=
  h.mono fun _ _ ⟨he, hm⟩ => ⟨he, n, hm.symm⟩
theorem later_drewN {B : Nat} {w x : World} (h : Below B w x) (n : Nat) : Below B w (x.drewN n) := ⟨h.os, h.tape, h.output, h.size, h.block⟩

theorem head_text (op : Int) (text : ByteArray) (num lo hi : Int) (kids : List Pat) (n : Int) (hop : op = 1) (hk : (kids.length : Int) = kidsOf op) :
    okHead (.mk op text num lo hi kids) n = decide (text.size ≤ 120 ∧ num = 0 ∧ lo = 0 ∧ hi = 0) := by
  have hr : (1 ≤ op ∧ op ≤ 23) = True := eq_true (by omega)
  subst hop
  have e : okHead (.mk 1 text num lo hi kids) n = (decide (1 ≤ (1:Int) ∧ (1:Int) ≤ 23) && decide ((kids.length : Int) = kidsOf 1) && (if (1:Int) = 1 then decide (text.size ≤ 120) else text.toList.isEmpty) && (if 2 ≤ (1:Int) ∧ (1:Int) ≤ 6 then decide (0 ≤ num) && decide (num ≤ 120) else if (1:Int) = 16 ∨ (1:Int) = 17 ∨ (1:Int) = 18 ∨ (1:Int) = 20 then decide (0 ≤ num) && decide (num < n) else num == 0) && (if 7 ≤ (1:Int) ∧ (1:Int) ≤ 10 then true else lo == 0 && hi == 0)) := rfl
  rw [e, Bool.eq_iff_iff]
  simp [hk]
  try (constructor <;> (intro h; simp_all))

theorem head_len (op : Int) (text : ByteArray) (num lo hi : Int) (kids : List Pat) (n : Int) (hop : 2 ≤ op ∧ op ≤ 6) (hk : (kids.length : Int) = kidsOf op) :
    okHead (.mk op text num lo hi kids) n = decide (text.toList = [] ∧ 0 ≤ num ∧ num ≤ 120 ∧ lo = 0 ∧ hi = 0) := by
  have hr : (1 ≤ op ∧ op ≤ 23) = True := eq_true (by omega)
  have f0 : (op = 1) = False := eq_false (by omega)
  have f1 : (2 ≤ op ∧ op ≤ 6) = True := eq_true (by omega)
  have f2 : (7 ≤ op ∧ op ≤ 10) = False := eq_false (by omega)
  have e : okHead (.mk op text num lo hi kids) n = (decide (1 ≤ op ∧ op ≤ 23) && decide ((kids.length : Int) = kidsOf op) && (if op = 1 then decide (text.size ≤ 120) else text.toList.isEmpty) && (if 2 ≤ op ∧ op ≤ 6 then decide (0 ≤ num) && decide (num ≤ 120) else if op = 16 ∨ op = 17 ∨ op = 18 ∨ op = 20 then decide (0 ≤ num) && decide (num < n) else num == 0) && (if 7 ≤ op ∧ op ≤ 10 then true else lo == 0 && hi == 0)) := rfl
  rw [e, Bool.eq_iff_iff]
  simp [f0, f1, f2, hr, hk]
  try (constructor <;> (intro h; simp_all))

theorem head_set (op : Int) (text : ByteArray) (num lo hi : Int) (kids : List Pat) (n : Int) (hop : 7 ≤ op ∧ op ≤ 10) (hk : (kids.length : Int) = kidsOf op) :
    okHead (.mk op text num lo hi kids) n = decide (text.toList = [] ∧ num = 0) := by
  have hr : (1 ≤ op ∧ op ≤ 23) = True := eq_true (by omega)
  have f0 : (op = 1) = False := eq_false (by omega)
  have f1 : (2 ≤ op ∧ op ≤ 6) = False := eq_false (by omega)
  have f2 : (op = 16 ∨ op = 17 ∨ op = 18 ∨ op = 20) = False := eq_false (by omega)
  have f3 : (7 ≤ op ∧ op ≤ 10) = True := eq_true (by omega)
  have e : okHead (.mk op text num lo hi kids) n = (decide (1 ≤ op ∧ op ≤ 23) && decide ((kids.length : Int) = kidsOf op) && (if op = 1 then decide (text.size ≤ 120) else text.toList.isEmpty) && (if 2 ≤ op ∧ op ≤ 6 then decide (0 ≤ num) && decide (num ≤ 120) else if op = 16 ∨ op = 17 ∨ op = 18 ∨ op = 20 then decide (0 ≤ num) && decide (num < n) else num == 0) && (if 7 ≤ op ∧ op ≤ 10 then true else lo == 0 && hi == 0)) := rfl
  rw [e, Bool.eq_iff_iff]
  simp [f0, f1, f2, f3, hr, hk]
  try (constructor <;> (intro h; simp_all))

theorem head_var (op : Int) (text : ByteArray) (num lo hi : Int) (kids : List Pat) (n : Int) (hop : op = 16 ∨ op = 17 ∨ op = 18 ∨ op = 20) (hk : (kids.length : Int) = kidsOf op) :
    okHead (.mk op text num lo hi kids) n = decide (text.toList = [] ∧ 0 ≤ num ∧ num < n ∧ lo = 0 ∧ hi = 0) := by
  have hr : (1 ≤ op ∧ op ≤ 23) = True := eq_true (by omega)
  have f0 : (op = 1) = False := eq_false (by omega)
  have f1 : (2 ≤ op ∧ op ≤ 6) = False := eq_false (by omega)
  have f2 : (op = 16 ∨ op = 17 ∨ op = 18 ∨ op = 20) = True := eq_true (by omega)
  have f3 : (7 ≤ op ∧ op ≤ 10) = False := eq_false (by omega)
  have e : okHead (.mk op text num lo hi kids) n = (decide (1 ≤ op ∧ op ≤ 23) && decide ((kids.length : Int) = kidsOf op) && (if op = 1 then decide (text.size ≤ 120) else text.toList.isEmpty) && (if 2 ≤ op ∧ op ≤ 6 then decide (0 ≤ num) && decide (num ≤ 120) else if op = 16 ∨ op = 17 ∨ op = 18 ∨ op = 20 then decide (0 ≤ num) && decide (num < n) else num == 0) && (if 7 ≤ op ∧ op ≤ 10 then true else lo == 0 && hi == 0)) := rfl
  rw [e, Bool.eq_iff_iff]
  simp [f0, f1, f2, f3, hr, hk]
  try (constructor <;> (intro h; simp_all))

theorem head_rest (op : Int) (text : ByteArray) (num lo hi : Int) (kids : List Pat) (n : Int) (hop : 11 ≤ op ∧ op ≤ 23 ∧ op ≠ 16 ∧ op ≠ 17 ∧ op ≠ 18 ∧ op ≠ 20) (hk : (kids.length : Int) = kidsOf op) :
    okHead (.mk op text num lo hi kids) n = decide (text.toList = [] ∧ num = 0 ∧ lo = 0 ∧ hi = 0) := by
  have hr : (1 ≤ op ∧ op ≤ 23) = True := eq_true (by omega)
  have f0 : (op = 1) = False := eq_false (by omega)
  have f1 : (2 ≤ op ∧ op ≤ 6) = False := eq_false (by omega)
  have f2 : (op = 16 ∨ op = 17 ∨ op = 18 ∨ op = 20) = False := eq_false (by omega)
  have f3 : (7 ≤ op ∧ op ≤ 10) = False := eq_false (by omega)
  have e : okHead (.mk op text num lo hi kids) n = (decide (1 ≤ op ∧ op ≤ 23) && decide ((kids.length : Int) = kidsOf op) && (if op = 1 then decide (text.size ≤ 120) else text.toList.isEmpty) && (if 2 ≤ op ∧ op ≤ 6 then decide (0 ≤ num) && decide (num ≤ 120) else if op = 16 ∨ op = 17 ∨ op = 18 ∨ op = 20 then decide (0 ≤ num) && decide (num < n) else num == 0) && (if 7 ≤ op ∧ op ≤ 10 then true else lo == 0 && hi == 0)) := rfl
  rw [e, Bool.eq_iff_iff]
  simp [f0, f1, f2, f3, hr, hk]
  try (constructor <;> (intro h; simp_all))

end Go.Proofs.Ytndefbecoahfhaa
