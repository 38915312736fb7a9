/- Where a pattern without alternatives ends: the plain function, and impl's simpleEnding. -/
import Derived.Test.YtndefbecoahfhaaCset
import Derived.Test.YtndefbecoahfhaaRegion
import Derived.Deep.QuietTactic
import Derived.BigQuiet
namespace Go.Proofs.Ytndefbecoahfhaa
open Go.RowKit

/-- How many bytes from the front on are (yes: of the set, no: not of it). -/
def runOf (lo hi : Int) (yes : Bool) (l : List UInt8) : Nat := (l.takeWhile fun b => hb lo hi (b.toNat : Int) == yes).length

/-- The byte at an index, as an integer. -/
def byteAt (s : ByteArray) (i : Nat) : Int := ((s.data.toList.getD i 0).toNat : Int)

theorem byteAt_eq (s : ByteArray) (i : Nat) (h : i < s.size) : (s[i].toNat : Int) = byteAt s i := by
  unfold byteAt
  have h' : i < s.data.toList.length := by simpa using h
  rw [List.getD_eq_getElem?_getD, List.getElem?_eq_getElem h']
  rfl
theorem byteAt_bd (s : ByteArray) (i : Nat) : 0 ≤ byteAt s i ∧ byteAt s i < 256 := by
  unfold byteAt
  have := (s.data.toList.getD i 0).toNat_lt
  omega

/-- The ending of a pattern that has at most one, at offset p. -/
def oneEnd (op : Int) (text : ByteArray) (num lo hi : Int) (s : ByteArray) (p : Nat) : Option Nat :=
  if op = 1 then (if p + text.size ≤ s.size ∧ s.extract p (p + text.size) = text then some (p + text.size) else none)
  else if op = 2 then (if (p : Int) + num ≤ s.size then some (p + num.toNat) else none)
  else if op = 3 then (if num = p then some p else none)
  else if op = 4 then (if num = (s.size : Int) - p then some p else none)
  else if op = 5 then (if (p : Int) ≤ num ∧ num ≤ s.size then some num.toNat else none)
  else if op = 6 then (if (p : Int) ≤ (s.size : Int) - num then some (s.size - num.toNat) else none)
  else if op = 7 then (if p < s.size ∧ hb lo hi (byteAt s p) = true then some (p + 1) else none)
  else if op = 8 then (if p < s.size ∧ hb lo hi (byteAt s p) = false then some (p + 1) else none)
  else if op = 9 then (if 0 < runOf lo hi true (s.data.toList.drop p) then some (p + runOf lo hi true (s.data.toList.drop p)) else none)
  else if op = 10 then (if p + runOf lo hi false (s.data.toList.drop p) < s.size then some (p + runOf lo hi false (s.data.toList.drop p)) else none)
  else if op = 12 then some s.size
  else if op = 22 then some p
  else none

/-- A pattern's value, its kids as a value of their own. -/
abbrev patV (op : Int) (text : ByteArray) (num lo hi : Int) (kv : Value) : Value := .agg #[.int .i64 op, .string text, .int .i64 num, .int .i64 lo, .int .i64 hi, kv]

/-- What simpleEnding answers: the ending counts only where there is one. -/
def EndsAs (r : Option Nat) (known : Bool) (w : World) (e : Ending) (w' : World) : Prop :=
  ∃ x : Int, e = .returned (.tuple #[.int .i64 x, .bool r.isSome, .bool known]) ∧ (∀ y, r = some y → x = (y : Int)) ∧ Below w.heap.size w w'

theorem below_drewN' {B : Nat} {a w : World} (h : Below B a w) (n : Nat) : Below B a (w.drewN n) := ⟨h.os, h.tape, h.output, h.size, h.block⟩

theorem toList_inj {a b : ByteArray} (h : a.toList = b.toList) : a = b := by
  rw [ByteArray.toList_eq, ByteArray.toList_eq] at h
  cases a; cases b
  simp at h
  simp [h]

theorem endsAs_mk {r : Option Nat} {known b : Bool} {w w' : World} {x : Int} (hb : b = r.isSome) (hx : ∀ y, r = some y → x = (y : Int)) (hw : Below w.heap.size w w') :
    EndsAs r known w (.returned (.tuple #[.int .i64 x, .bool b, .bool known])) w' := ⟨x, by rw [hb], hx, hw⟩

section
variable (text : ByteArray) (num lo hi : Int) (A : Option Addr) (n c : Nat) (s : ByteArray) (p : Nat) (w : World)

set_option maxRecDepth 100000 in
set_option maxHeartbeats 1000000 in
theorem simple_12  :
    Calls Try.prog 78 #[patV 12 text num lo hi (.slice A n c), .string s, .int .i64 p] w (EndsAs (oneEnd 12 text num lo hi s p) true w) := by
  go_enter Try.func78, Try.ntmps78
  go_wp2_with fail
  go_ret3
  exact endsAs_mk rfl (fun y hy => by cases hy; rfl) ((Below.refl _ _).alloc (Nat.le_refl _) _)

set_option maxRecDepth 100000 in
set_option maxHeartbeats 1000000 in
theorem simple_22  :
    Calls Try.prog 78 #[patV 22 text num lo hi (.slice A n c), .string s, .int .i64 p] w (EndsAs (oneEnd 22 text num lo hi s p) true w) := by
  go_enter Try.func78, Try.ntmps78
  go_wp2_with fail
  go_ret3
  exact endsAs_mk rfl (fun y hy => by cases hy; rfl) ((Below.refl _ _).alloc (Nat.le_refl _) _)

set_option maxRecDepth 100000 in
set_option maxHeartbeats 1000000 in
theorem simple_23  :
    Calls Try.prog 78 #[patV 23 text num lo hi (.slice A n c), .string s, .int .i64 p] w (EndsAs (oneEnd 23 text num lo hi s p) true w) := by
  go_enter Try.func78, Try.ntmps78
  go_wp2_with fail
  go_ret3
  exact endsAs_mk rfl (fun y hy => by cases hy) ((Below.refl _ _).alloc (Nat.le_refl _) _)

set_option maxRecDepth 100000 in
set_option maxHeartbeats 1000000 in
theorem simple_3  :
    Calls Try.prog 78 #[patV 3 text num lo hi (.slice A n c), .string s, .int .i64 p] w (EndsAs (oneEnd 3 text num lo hi s p) true w) := by
  have hv : oneEnd 3 text num lo hi s p = if num = (p : Int) then some p else none := rfl
  have HV := Lib.hid hv
  clear hv
  go_enter Try.func78, Try.ntmps78
  go_wp2_with fail
  go_quiet (fail)
  go_wp2_with fail
  go_ret3
  exact endsAs_mk (by rw [HV.out]; by_cases h : num = (p : Int) <;> simp [h]) (fun y hy => by rw [HV.out] at hy; split at hy <;> simp_all) (below_drewN' ((Below.refl _ _).alloc (Nat.le_refl _) _) _)

set_option maxRecDepth 100000 in
set_option maxHeartbeats 1000000 in
theorem simple_4 (hs : s.size ≤ 120) (hp : p ≤ s.size) :
    Calls Try.prog 78 #[patV 4 text num lo hi (.slice A n c), .string s, .int .i64 p] w (EndsAs (oneEnd 4 text num lo hi s p) true w) := by
  have hv : oneEnd 4 text num lo hi s p = if num = (s.size : Int) - p then some p else none := rfl
  have HV := Lib.hid hv
  clear hv
  have hw1 : IntKind.i64.wrap ((s.size : Int) - p) = (s.size : Int) - p := IntWalk.i64_in _ (by omega)
  go_enter Try.func78, Try.ntmps78
  go_wp2_with fail
  go_quiet (fail)
  go_wp2_with fail
  go_ret3
  exact endsAs_mk (by rw [HV.out]; by_cases h : num = (s.size : Int) - p <;> simp [h]) (fun y hy => by rw [HV.out] at hy; split at hy <;> simp_all) (below_drewN' ((Below.refl _ _).alloc (Nat.le_refl _) _) _)

set_option maxRecDepth 100000 in
set_option maxHeartbeats 1000000 in
theorem simple_6 (hs : s.size ≤ 120) (hp : p ≤ s.size) (h0 : 0 ≤ num) (h1 : num ≤ 120) :
    Calls Try.prog 78 #[patV 6 text num lo hi (.slice A n c), .string s, .int .i64 p] w (EndsAs (oneEnd 6 text num lo hi s p) true w) := by
  have hv : oneEnd 6 text num lo hi s p = if (p : Int) ≤ (s.size : Int) - num then some (s.size - num.toNat) else none := rfl
  have HV := Lib.hid hv
  clear hv
  have hw1 : IntKind.i64.wrap ((s.size : Int) - num) = (s.size : Int) - num := IntWalk.i64_in _ (by omega)
  go_enter Try.func78, Try.ntmps78
  go_wp2_with fail
  go_quiet (fail)
  go_wp2_with fail
  go_ret3
  exact endsAs_mk (by rw [HV.out]; by_cases h : (p : Int) ≤ (s.size : Int) - num <;> simp [h]) (fun y hy => by rw [HV.out] at hy; split at hy <;> simp at hy; omega) (below_drewN' ((Below.refl _ _).alloc (Nat.le_refl _) _) _)

set_option maxRecDepth 100000 in
set_option maxHeartbeats 1000000 in
theorem simple_2 (hs : s.size ≤ 120) (hp : p ≤ s.size) (h0 : 0 ≤ num) (h1 : num ≤ 120) :
    Calls Try.prog 78 #[patV 2 text num lo hi (.slice A n c), .string s, .int .i64 p] w (EndsAs (oneEnd 2 text num lo hi s p) true w) := by
  by_cases hg : (p : Int) + num ≤ s.size
  · have HV := Lib.hid (show oneEnd 2 text num lo hi s p = some (p + num.toNat) from if_pos hg)
    go_enter Try.func78, Try.ntmps78
    go_wp2_with fail
    go_ret3
    exact endsAs_mk (by rw [HV.out]; rfl) (fun y hy => by rw [HV.out] at hy; cases hy; omega) ((Below.refl _ _).alloc (Nat.le_refl _) _)
  · have HV := Lib.hid (show oneEnd 2 text num lo hi s p = none from if_neg hg)
    go_enter Try.func78, Try.ntmps78
    go_wp2_with fail
    go_ret3
    exact endsAs_mk (by rw [HV.out]; rfl) (fun y hy => by rw [HV.out] at hy; cases hy) ((Below.refl _ _).alloc (Nat.le_refl _) _)

set_option maxRecDepth 100000 in
set_option maxHeartbeats 1000000 in
theorem simple_5 (h0 : 0 ≤ num) (h1 : num ≤ 120) :
    Calls Try.prog 78 #[patV 5 text num lo hi (.slice A n c), .string s, .int .i64 p] w (EndsAs (oneEnd 5 text num lo hi s p) true w) := by
  have HV := Lib.hid (show oneEnd 5 text num lo hi s p = if (p : Int) ≤ num ∧ num ≤ s.size then some num.toNat else none from rfl)
  by_cases hg : (p : Int) ≤ num
  · have hg' : decide ((p : Int) ≤ num) = true := by simpa using hg
    go_enter Try.func78, Try.ntmps78
    go_wp2_with fail
    go_quiet (fail)
    go_wp2_with fail
    go_ret3
    exact endsAs_mk (by rw [HV.out]; by_cases h : num ≤ (s.size : Int) <;> simp [h, hg]) (fun y hy => by rw [HV.out] at hy; split at hy <;> simp at hy; omega) (below_drewN' ((Below.refl _ _).alloc (Nat.le_refl _) _) _)
  · have hg' : decide ((p : Int) ≤ num) = false := by simpa using hg
    go_enter Try.func78, Try.ntmps78
    go_wp2_with fail
    go_quiet (fail)
    go_wp2_with fail
    go_ret3
    exact endsAs_mk (by rw [HV.out]; simp; omega) (fun y hy => by rw [HV.out] at hy; split at hy <;> simp at hy; omega) (below_drewN' ((Below.refl _ _).alloc (Nat.le_refl _) _) _)

set_option maxRecDepth 100000 in
set_option maxHeartbeats 1000000 in
theorem simple_1 (hs : s.size ≤ 120) (hp : p ≤ s.size) (h0 : text.size ≤ 120) :
    Calls Try.prog 78 #[patV 1 text num lo hi (.slice A n c), .string s, .int .i64 p] w (EndsAs (oneEnd 1 text num lo hi s p) true w) := by
  have HV := Lib.hid (show oneEnd 1 text num lo hi s p = if p + text.size ≤ s.size ∧ s.extract p (p + text.size) = text then some (p + text.size) else none from rfl)
  have hw1 : IntKind.i64.wrap ((p : Int) + text.size) = (p : Int) + text.size := IntWalk.i64_in _ (by omega)
  by_cases hg : (p : Int) + text.size ≤ s.size
  · have hg' : decide ((p : Int) + text.size ≤ s.size) = true := by simpa using hg
    have hg2 : (p : Int) ≤ (p : Int) + text.size := by omega
    have hg3 : (0 : Int) ≤ (p : Int) := by omega
    by_cases he : s.extract p (p + text.size) = text
    · have he' : ((s.extract p (p + text.size)).toList == text.toList) = true := by rw [he]; simp
      go_enter Try.func78, Try.ntmps78
      go_wp2_with fail
      go_quiet (fail)
      go_wp2_with fail
      go_ret3
      exact endsAs_mk (by rw [HV.out, if_pos ⟨by omega, he⟩]; rfl) (fun y hy => by rw [HV.out, if_pos ⟨by omega, he⟩] at hy; cases hy; omega) (below_drewN' ((Below.refl _ _).alloc (Nat.le_refl _) _) _)
    · have he' : ((s.extract p (p + text.size)).toList == text.toList) = false := by simpa using fun h => he (toList_inj h)
      go_enter Try.func78, Try.ntmps78
      go_wp2_with fail
      go_quiet (fail)
      go_wp2_with fail
      go_ret3
      exact endsAs_mk (by rw [HV.out, if_neg (by simp [he])]; rfl) (fun y hy => by rw [HV.out, if_neg (by simp [he])] at hy; cases hy) (below_drewN' ((Below.refl _ _).alloc (Nat.le_refl _) _) _)
  · have hg' : decide ((p : Int) + text.size ≤ s.size) = false := by simpa using hg
    go_enter Try.func78, Try.ntmps78
    go_wp2_with fail
    go_quiet (fail)
    go_wp2_with fail
    go_ret3
    exact endsAs_mk (by rw [HV.out, if_neg (by omega)]; rfl) (fun y hy => by rw [HV.out, if_neg (by omega)] at hy; cases hy) (below_drewN' ((Below.refl _ _).alloc (Nat.le_refl _) _) _)

set_option maxRecDepth 100000 in
set_option maxHeartbeats 2000000 in
theorem simple_7 (hs : s.size ≤ 120) (hp : p ≤ s.size) :
    Calls Try.prog 78 #[patV 7 text num lo hi (.slice A n c), .string s, .int .i64 p] w (EndsAs (oneEnd 7 text num lo hi s p) true w) := by
  have HV := Lib.hid (show oneEnd 7 text num lo hi s p = if p < s.size ∧ hb lo hi (byteAt s p) = true then some (p + 1) else none from rfl)
  have hw1 : IntKind.i64.wrap ((p : Int) + 1) = (p : Int) + 1 := IntWalk.i64_in _ (by omega)
  by_cases hg : p < s.size
  · have hg' : (p : Int) < s.size := by omega
    have hg3 : (0 : Int) ≤ (p : Int) := by omega
    have hby : (s[p].toNat : Int) = byteAt s p := byteAt_eq s p hg
    have hb0 : 0 ≤ byteAt s p := byteAt_bd s p |>.1
    have hb1 : byteAt s p < 256 := byteAt_bd s p |>.2
    go_enter Try.func78, Try.ntmps78
    go_wp2_with fail
    -- region 20: 20 operations, the tail from 20 on
    refine wpS_begin 20 (by kernel_rfl) (fun w1 hw1 => ?_)
    subst hw1
    refine wpS_take 0 (some 100) (v := ?_) rfl rfl (by kernel_rfl) (fun _ _ _ h => h) rfl (fun x hx => ?_) ?_
    rotate_left 1
    · have hxc := hx.cell; have hxf := hx.frozen; go_simp; first | done | with_reducible rfl | rw [if_neg (by omega)] | rw [if_pos (by omega)]
    simp only [Act.put, List.setIfInBounds_toArray, List.set_cons_zero, List.set_cons_succ]
    refine wpS_take 1 (some 101) (v := ?_) rfl rfl (by kernel_rfl) (fun _ _ _ h => h) rfl (fun x hx => ?_) ?_
    rotate_left 1
    · have hxc := hx.cell; have hxf := hx.frozen; go_simp; first | done | with_reducible rfl | rw [if_neg (by omega)] | rw [if_pos (by omega)]
    simp only [Act.put, List.setIfInBounds_toArray, List.set_cons_zero, List.set_cons_succ]
    refine wpS_take 2 (some 102) (v := ?_) rfl rfl (by kernel_rfl) (fun _ _ _ h => h) rfl (fun x hx => ?_) ?_
    rotate_left 1
    · have hxc := hx.cell; have hxf := hx.frozen; go_simp; first | done | with_reducible rfl | rw [if_neg (by omega)] | rw [if_pos (by omega)]
    simp only [Act.put, List.setIfInBounds_toArray, List.set_cons_zero, List.set_cons_succ]
    refine wpS_take 3 (some 103) (v := ?_) rfl rfl (by kernel_rfl) (fun _ _ _ h => h) rfl (fun x hx => ?_) ?_
    rotate_left 1
    · have hxc := hx.cell; have hxf := hx.frozen; go_simp; first | done | with_reducible rfl | rw [if_neg (by omega)] | rw [if_pos (by omega)]
    simp only [Act.put, List.setIfInBounds_toArray, List.set_cons_zero, List.set_cons_succ]
    refine wpS_take 4 (some 104) (v := ?_) rfl rfl (by kernel_rfl) (fun _ _ _ h => h) rfl (fun x hx => ?_) ?_
    rotate_left 1
    · have hxc := hx.cell; have hxf := hx.frozen; go_simp; first | done | with_reducible rfl | rw [if_neg (by omega)] | rw [if_pos (by omega)]
    simp only [Act.put, List.setIfInBounds_toArray, List.set_cons_zero, List.set_cons_succ]
    refine wpS_take 5 (some 105) (v := ?_) rfl rfl (by kernel_rfl) (fun _ _ _ h => h) rfl (fun x hx => ?_) ?_
    rotate_left 1
    · have hxc := hx.cell; have hxf := hx.frozen; go_simp; first | done | with_reducible rfl | rw [if_neg (by omega)] | rw [if_pos (by omega)]
    simp only [Act.put, List.setIfInBounds_toArray, List.set_cons_zero, List.set_cons_succ]
    refine wpS_take 6 (some 106) (v := ?_) rfl rfl (by kernel_rfl) (fun _ _ _ h => h) rfl (fun x hx => ?_) ?_
    rotate_left 1
    · have hxc := hx.cell; have hxf := hx.frozen; go_simp; first | done | with_reducible rfl | rw [if_neg (by omega)] | rw [if_pos (by omega)]
    simp only [Act.put, List.setIfInBounds_toArray, List.set_cons_zero, List.set_cons_succ]
    refine wpS_take 7 (some 107) (v := ?_) rfl rfl (by kernel_rfl) (fun _ _ _ h => h) rfl (fun x hx => ?_) ?_
    rotate_left 1
    · have hxc := hx.cell; have hxf := hx.frozen; go_simp; first | done | with_reducible rfl | rw [if_neg (by omega)] | rw [if_pos (by omega)]
    simp only [Act.put, List.setIfInBounds_toArray, List.set_cons_zero, List.set_cons_succ]
    refine wpS_take 8 (some 108) (v := ?_) rfl rfl (by kernel_rfl) (fun _ _ _ h => h) rfl (fun x hx => ?_) ?_
    rotate_left 1
    · have hxc := hx.cell; have hxf := hx.frozen; go_simp; first | done | with_reducible rfl | rw [if_neg (by omega)] | rw [if_pos (by omega)]
    simp only [Act.put, List.setIfInBounds_toArray, List.set_cons_zero, List.set_cons_succ]
    refine wpS_take 9 (some 109) (v := ?_) rfl rfl (by kernel_rfl) (fun _ _ _ h => h) rfl (fun x hx => ?_) ?_
    rotate_left 1
    · have hxc := hx.cell; have hxf := hx.frozen; go_simp; first | done | with_reducible rfl | rw [if_neg (by omega)] | rw [if_pos (by omega)]
    simp only [Act.put, List.setIfInBounds_toArray, List.set_cons_zero, List.set_cons_succ]
    refine wpS_take 10 (some 110) (v := ?_) rfl rfl (by kernel_rfl) (fun _ _ _ h => h) rfl (fun x hx => ?_) ?_
    rotate_left 1
    · have hxc := hx.cell; have hxf := hx.frozen; go_simp; first | done | with_reducible rfl | rw [if_neg (by omega)] | rw [if_pos (by omega)]
    simp only [Act.put, List.setIfInBounds_toArray, List.set_cons_zero, List.set_cons_succ]
    refine wpS_take 12 (some 112) (v := ?_) rfl rfl (by kernel_rfl) (fun _ _ _ h => h) rfl (fun x hx => ?_) ?_
    rotate_left 1
    · have hxc := hx.cell; have hxf := hx.frozen; go_simp; first | done | with_reducible rfl | rw [if_neg (by omega)] | rw [if_pos (by omega)]
    simp only [Act.put, List.setIfInBounds_toArray, List.set_cons_zero, List.set_cons_succ]
    refine wpS_take 13 (some 113) (v := ?_) rfl rfl (by kernel_rfl) (fun _ _ _ h => h) rfl (fun x hx => ?_) ?_
    rotate_left 1
    · have hxc := hx.cell; have hxf := hx.frozen; go_simp; first | done | with_reducible rfl | rw [if_neg (by omega)] | rw [if_pos (by omega)]
    simp only [Act.put, List.setIfInBounds_toArray, List.set_cons_zero, List.set_cons_succ]
    refine wpS_take 14 (some 114) (v := ?_) rfl rfl (by kernel_rfl) (fun _ _ _ h => h) rfl (fun x hx => ?_) ?_
    rotate_left 1
    · have hxc := hx.cell; have hxf := hx.frozen; go_simp; first | done | with_reducible rfl | rw [if_neg (by omega)] | rw [if_pos (by omega)]
    simp only [Act.put, List.setIfInBounds_toArray, List.set_cons_zero, List.set_cons_succ]
    refine wpS_step 11 (by kernel_rfl) rfl ?_  -- call value (Go.Operand.func 56)
    go_wp2_with (go_at_call 56; refine (implHasByte_any lo hi (byteAt s p) _ hb0 hb1).mono ?_; rintro e w2 ⟨rfl, hb2⟩)
    refine ⟨hb2, ?_⟩
    have hacc : Later w w2 := Later.trans (((Later.refl w).alloc _).drew) hb2
    clear hb2
    refine wpS_take 15 (some 115) (v := ?_) rfl rfl (by kernel_rfl) (fun _ _ _ h => h) rfl (fun x hx => ?_) ?_
    rotate_left 1
    · have hxc := hx.cell; have hxf := hx.frozen; go_simp; first | done | with_reducible rfl | rw [if_neg (by omega)] | rw [if_pos (by omega)]
    simp only [Act.put, List.setIfInBounds_toArray, List.set_cons_zero, List.set_cons_succ]
    refine wpS_take 16 (some 116) (v := ?_) rfl rfl (by kernel_rfl) (fun _ _ _ h => h) rfl (fun x hx => ?_) ?_
    rotate_left 1
    · have hxc := hx.cell; have hxf := hx.frozen; go_simp; first | done | with_reducible rfl | rw [if_neg (by omega)] | rw [if_pos (by omega)]
    simp only [Act.put, List.setIfInBounds_toArray, List.set_cons_zero, List.set_cons_succ]
    refine wpS_take 17 (some 6) (v := ?_) rfl rfl (by kernel_rfl) (fun _ _ _ h => h) rfl (fun x hx => ?_) ?_
    rotate_left 1
    · have hxc := hx.cell; have hxf := hx.frozen; go_simp; first | done | with_reducible rfl | rw [if_neg (by omega)] | rw [if_pos (by omega)]
    simp only [Act.put, List.setIfInBounds_toArray, List.set_cons_zero, List.set_cons_succ]
    refine wpS_take 18 (some 7) (v := ?_) rfl rfl (by kernel_rfl) (fun _ _ _ h => h) rfl (fun x hx => ?_) ?_
    rotate_left 1
    · have hxc := hx.cell; have hxf := hx.frozen; go_simp; first | done | with_reducible rfl | rw [if_neg (by omega)] | rw [if_pos (by omega)]
    simp only [Act.put, List.setIfInBounds_toArray, List.set_cons_zero, List.set_cons_succ]
    refine wpS_take 19 (some 8) (v := ?_) rfl rfl (by kernel_rfl) (fun _ _ _ h => h) rfl (fun x hx => ?_) ?_
    rotate_left 1
    · have hxc := hx.cell; have hxf := hx.frozen; go_simp; first | done | with_reducible rfl | rw [if_neg (by omega)] | rw [if_pos (by omega)]
    simp only [Act.put, List.setIfInBounds_toArray, List.set_cons_zero, List.set_cons_succ]
    refine wpS_tail 20 0 _ rfl (by kernel_rfl) rfl ?_
    simp only [List.drop_succ_cons, List.drop_zero]
    refine wpList_nil ?_
    go_wp2_with fail
    go_ret3
    exact endsAs_mk (by rw [HV.out]; cases h : hb lo hi (byteAt s p) <;> simp [hg]) (fun y hy => by rw [HV.out] at hy; split at hy <;> simp at hy; omega) hacc
  · have hg' : decide ((p : Int) < s.size) = false := by simp; omega
    go_enter Try.func78, Try.ntmps78
    go_wp2_with fail
    go_quiet (fail)
    go_wp2_with fail
    go_ret3
    exact endsAs_mk (by rw [HV.out, if_neg (by omega)]; rfl) (fun y hy => by rw [HV.out, if_neg (by omega)] at hy; cases hy) (below_drewN' ((Below.refl _ _).alloc (Nat.le_refl _) _) _)

set_option maxRecDepth 100000 in
set_option maxHeartbeats 2000000 in
theorem simple_8 (hs : s.size ≤ 120) (hp : p ≤ s.size) :
    Calls Try.prog 78 #[patV 8 text num lo hi (.slice A n c), .string s, .int .i64 p] w (EndsAs (oneEnd 8 text num lo hi s p) true w) := by
  have HV := Lib.hid (show oneEnd 8 text num lo hi s p = if p < s.size ∧ hb lo hi (byteAt s p) = false then some (p + 1) else none from rfl)
  have hw1 : IntKind.i64.wrap ((p : Int) + 1) = (p : Int) + 1 := IntWalk.i64_in _ (by omega)
  by_cases hg : p < s.size
  · have hg' : (p : Int) < s.size := by omega
    have hg3 : (0 : Int) ≤ (p : Int) := by omega
    have hby : (s[p].toNat : Int) = byteAt s p := byteAt_eq s p hg
    have hb0 : 0 ≤ byteAt s p := byteAt_bd s p |>.1
    have hb1 : byteAt s p < 256 := byteAt_bd s p |>.2
    go_enter Try.func78, Try.ntmps78
    go_wp2_with fail
    -- region 20: 20 operations, the tail from 20 on
    refine wpS_begin 20 (by kernel_rfl) (fun w1 hw1 => ?_)
    subst hw1
    refine wpS_take 0 (some 100) (v := ?_) rfl rfl (by kernel_rfl) (fun _ _ _ h => h) rfl (fun x hx => ?_) ?_
    rotate_left 1
    · have hxc := hx.cell; have hxf := hx.frozen; go_simp; first | done | with_reducible rfl | rw [if_neg (by omega)] | rw [if_pos (by omega)]
    simp only [Act.put, List.setIfInBounds_toArray, List.set_cons_zero, List.set_cons_succ]
    refine wpS_take 1 (some 101) (v := ?_) rfl rfl (by kernel_rfl) (fun _ _ _ h => h) rfl (fun x hx => ?_) ?_
    rotate_left 1
    · have hxc := hx.cell; have hxf := hx.frozen; go_simp; first | done | with_reducible rfl | rw [if_neg (by omega)] | rw [if_pos (by omega)]
    simp only [Act.put, List.setIfInBounds_toArray, List.set_cons_zero, List.set_cons_succ]
    refine wpS_take 2 (some 102) (v := ?_) rfl rfl (by kernel_rfl) (fun _ _ _ h => h) rfl (fun x hx => ?_) ?_
    rotate_left 1
    · have hxc := hx.cell; have hxf := hx.frozen; go_simp; first | done | with_reducible rfl | rw [if_neg (by omega)] | rw [if_pos (by omega)]
    simp only [Act.put, List.setIfInBounds_toArray, List.set_cons_zero, List.set_cons_succ]
    refine wpS_take 3 (some 103) (v := ?_) rfl rfl (by kernel_rfl) (fun _ _ _ h => h) rfl (fun x hx => ?_) ?_
    rotate_left 1
    · have hxc := hx.cell; have hxf := hx.frozen; go_simp; first | done | with_reducible rfl | rw [if_neg (by omega)] | rw [if_pos (by omega)]
    simp only [Act.put, List.setIfInBounds_toArray, List.set_cons_zero, List.set_cons_succ]
    refine wpS_take 4 (some 104) (v := ?_) rfl rfl (by kernel_rfl) (fun _ _ _ h => h) rfl (fun x hx => ?_) ?_
    rotate_left 1
    · have hxc := hx.cell; have hxf := hx.frozen; go_simp; first | done | with_reducible rfl | rw [if_neg (by omega)] | rw [if_pos (by omega)]
    simp only [Act.put, List.setIfInBounds_toArray, List.set_cons_zero, List.set_cons_succ]
    refine wpS_take 5 (some 105) (v := ?_) rfl rfl (by kernel_rfl) (fun _ _ _ h => h) rfl (fun x hx => ?_) ?_
    rotate_left 1
    · have hxc := hx.cell; have hxf := hx.frozen; go_simp; first | done | with_reducible rfl | rw [if_neg (by omega)] | rw [if_pos (by omega)]
    simp only [Act.put, List.setIfInBounds_toArray, List.set_cons_zero, List.set_cons_succ]
    refine wpS_take 6 (some 106) (v := ?_) rfl rfl (by kernel_rfl) (fun _ _ _ h => h) rfl (fun x hx => ?_) ?_
    rotate_left 1
    · have hxc := hx.cell; have hxf := hx.frozen; go_simp; first | done | with_reducible rfl | rw [if_neg (by omega)] | rw [if_pos (by omega)]
    simp only [Act.put, List.setIfInBounds_toArray, List.set_cons_zero, List.set_cons_succ]
    refine wpS_take 7 (some 107) (v := ?_) rfl rfl (by kernel_rfl) (fun _ _ _ h => h) rfl (fun x hx => ?_) ?_
    rotate_left 1
    · have hxc := hx.cell; have hxf := hx.frozen; go_simp; first | done | with_reducible rfl | rw [if_neg (by omega)] | rw [if_pos (by omega)]
    simp only [Act.put, List.setIfInBounds_toArray, List.set_cons_zero, List.set_cons_succ]
    refine wpS_take 8 (some 108) (v := ?_) rfl rfl (by kernel_rfl) (fun _ _ _ h => h) rfl (fun x hx => ?_) ?_
    rotate_left 1
    · have hxc := hx.cell; have hxf := hx.frozen; go_simp; first | done | with_reducible rfl | rw [if_neg (by omega)] | rw [if_pos (by omega)]
    simp only [Act.put, List.setIfInBounds_toArray, List.set_cons_zero, List.set_cons_succ]
    refine wpS_take 9 (some 109) (v := ?_) rfl rfl (by kernel_rfl) (fun _ _ _ h => h) rfl (fun x hx => ?_) ?_
    rotate_left 1
    · have hxc := hx.cell; have hxf := hx.frozen; go_simp; first | done | with_reducible rfl | rw [if_neg (by omega)] | rw [if_pos (by omega)]
    simp only [Act.put, List.setIfInBounds_toArray, List.set_cons_zero, List.set_cons_succ]
    refine wpS_take 10 (some 110) (v := ?_) rfl rfl (by kernel_rfl) (fun _ _ _ h => h) rfl (fun x hx => ?_) ?_
    rotate_left 1
    · have hxc := hx.cell; have hxf := hx.frozen; go_simp; first | done | with_reducible rfl | rw [if_neg (by omega)] | rw [if_pos (by omega)]
    simp only [Act.put, List.setIfInBounds_toArray, List.set_cons_zero, List.set_cons_succ]
    refine wpS_take 12 (some 112) (v := ?_) rfl rfl (by kernel_rfl) (fun _ _ _ h => h) rfl (fun x hx => ?_) ?_
    rotate_left 1
    · have hxc := hx.cell; have hxf := hx.frozen; go_simp; first | done | with_reducible rfl | rw [if_neg (by omega)] | rw [if_pos (by omega)]
    simp only [Act.put, List.setIfInBounds_toArray, List.set_cons_zero, List.set_cons_succ]
    refine wpS_take 13 (some 113) (v := ?_) rfl rfl (by kernel_rfl) (fun _ _ _ h => h) rfl (fun x hx => ?_) ?_
    rotate_left 1
    · have hxc := hx.cell; have hxf := hx.frozen; go_simp; first | done | with_reducible rfl | rw [if_neg (by omega)] | rw [if_pos (by omega)]
    simp only [Act.put, List.setIfInBounds_toArray, List.set_cons_zero, List.set_cons_succ]
    refine wpS_take 14 (some 114) (v := ?_) rfl rfl (by kernel_rfl) (fun _ _ _ h => h) rfl (fun x hx => ?_) ?_
    rotate_left 1
    · have hxc := hx.cell; have hxf := hx.frozen; go_simp; first | done | with_reducible rfl | rw [if_neg (by omega)] | rw [if_pos (by omega)]
    simp only [Act.put, List.setIfInBounds_toArray, List.set_cons_zero, List.set_cons_succ]
    refine wpS_step 11 (by kernel_rfl) rfl ?_  -- call value (Go.Operand.func 56)
    go_wp2_with (go_at_call 56; refine (implHasByte_any lo hi (byteAt s p) _ hb0 hb1).mono ?_; rintro e w2 ⟨rfl, hb2⟩)
    refine ⟨hb2, ?_⟩
    have hacc : Later w w2 := Later.trans (((Later.refl w).alloc _).drew) hb2
    clear hb2
    refine wpS_take 15 (some 115) (v := ?_) rfl rfl (by kernel_rfl) (fun _ _ _ h => h) rfl (fun x hx => ?_) ?_
    rotate_left 1
    · have hxc := hx.cell; have hxf := hx.frozen; go_simp; first | done | with_reducible rfl | rw [if_neg (by omega)] | rw [if_pos (by omega)]
    simp only [Act.put, List.setIfInBounds_toArray, List.set_cons_zero, List.set_cons_succ]
    refine wpS_take 16 (some 116) (v := ?_) rfl rfl (by kernel_rfl) (fun _ _ _ h => h) rfl (fun x hx => ?_) ?_
    rotate_left 1
    · have hxc := hx.cell; have hxf := hx.frozen; go_simp; first | done | with_reducible rfl | rw [if_neg (by omega)] | rw [if_pos (by omega)]
    simp only [Act.put, List.setIfInBounds_toArray, List.set_cons_zero, List.set_cons_succ]
    refine wpS_take 17 (some 6) (v := ?_) rfl rfl (by kernel_rfl) (fun _ _ _ h => h) rfl (fun x hx => ?_) ?_
    rotate_left 1
    · have hxc := hx.cell; have hxf := hx.frozen; go_simp; first | done | with_reducible rfl | rw [if_neg (by omega)] | rw [if_pos (by omega)]
    simp only [Act.put, List.setIfInBounds_toArray, List.set_cons_zero, List.set_cons_succ]
    refine wpS_take 18 (some 7) (v := ?_) rfl rfl (by kernel_rfl) (fun _ _ _ h => h) rfl (fun x hx => ?_) ?_
    rotate_left 1
    · have hxc := hx.cell; have hxf := hx.frozen; go_simp; first | done | with_reducible rfl | rw [if_neg (by omega)] | rw [if_pos (by omega)]
    simp only [Act.put, List.setIfInBounds_toArray, List.set_cons_zero, List.set_cons_succ]
    refine wpS_take 19 (some 8) (v := ?_) rfl rfl (by kernel_rfl) (fun _ _ _ h => h) rfl (fun x hx => ?_) ?_
    rotate_left 1
    · have hxc := hx.cell; have hxf := hx.frozen; go_simp; first | done | with_reducible rfl | rw [if_neg (by omega)] | rw [if_pos (by omega)]
    simp only [Act.put, List.setIfInBounds_toArray, List.set_cons_zero, List.set_cons_succ]
    refine wpS_tail 20 0 _ rfl (by kernel_rfl) rfl ?_
    simp only [List.drop_succ_cons, List.drop_zero]
    refine wpList_nil ?_
    go_wp2_with fail
    go_ret3
    exact endsAs_mk (by rw [HV.out]; cases h : hb lo hi (byteAt s p) <;> simp [hg]) (fun y hy => by rw [HV.out] at hy; split at hy <;> simp at hy; omega) hacc
  · have hg' : decide ((p : Int) < s.size) = false := by simp; omega
    go_enter Try.func78, Try.ntmps78
    go_wp2_with fail
    go_quiet (fail)
    go_wp2_with fail
    go_ret3
    exact endsAs_mk (by rw [HV.out, if_neg (by omega)]; rfl) (fun y hy => by rw [HV.out, if_neg (by omega)] at hy; cases hy) (below_drewN' ((Below.refl _ _).alloc (Nat.le_refl _) _) _)
end

end Go.Proofs.Ytndefbecoahfhaa
