/- Sets of one byte and unions of sets. -/
import Derived.Test.YtndefbecoahfhaaZC6
import Derived.Test.YtndefbecoahfhaaZC1

/- Sets of bytes: one byte, the union. Printed by gen_prcset.py. -/
namespace Go.Proofs.Ytndefbecoahfhaa
open Go.RowKit

abbrev TCs : TypeId := 26
abbrev csetV (lo hi : Int) : Value := .agg #[.int .i64 lo, .int .i64 hi]
/-- The word that has bit k alone. -/
def oneBit (k : Nat) : Int := wrap64 (bits .or .u64 0 (IntKind.u64.wrap (2 ^ k)))
theorem oneBit_fin : ∀ k : Fin 64, bits .or .i64 0 (wrap64 (2 ^ k.val)) = oneBit k.val := by decide +kernel
theorem oneBit_spec (k : Nat) (h : k < 64) : bits .or .i64 0 (wrap64 (2 ^ k)) = oneBit k := oneBit_fin ⟨k, h⟩
def oneLo (b : Int) : Int := if b < 64 then oneBit b.toNat else 0
def oneHi (b : Int) : Int := if b < 64 then 0 else oneBit (b - 64).toNat
def orWord (x y : Int) : Int := bits .or .i64 x y

set_option maxHeartbeats 400000 in
theorem withByte_one (b : Int) (w : World) (h0 : 0 ≤ b) (h1 : b < 128) :
    Calls Try.prog 95 #[csetV 0 0, .int .u8 b] w fun e w' => e = .returned (csetV (oneLo b) (oneHi b)) ∧ Below w.heap.size w w' := by
  by_cases h2 : b < 64
  · have HV := Lib.hid (show oneLo b = wrap64 (bits .or .u64 0 (IntKind.u64.wrap (2 ^ b.toNat))) by unfold oneLo; rw [if_pos h2]; exact rfl)
    have HW := Lib.hid (show oneHi b = 0 by unfold oneHi; rw [if_pos h2])
    have t1 : decide (b < 64) = true := by simp; omega
    go_enter Try.func95, Try.ntmps95
    go_wp2_with fail
    exact bodyPost_ret (v := csetV (oneLo b) (oneHi b)) (by rw [HV.out, HW.out]; simp [results, Try.results95, go_sem]) rfl ⟨rfl, ((Below.refl _ _).alloc (Nat.le_refl _) _).alloc (by simp) _⟩
  · have HV := Lib.hid (show oneHi b = wrap64 (bits .or .u64 0 (IntKind.u64.wrap (2 ^ (b - 64).toNat))) by unfold oneHi; rw [if_neg h2]; exact rfl)
    have HW := Lib.hid (show oneLo b = 0 by unfold oneLo; rw [if_neg h2])
    have t1 : decide (b < 64) = false := by simp; omega
    go_enter Try.func95, Try.ntmps95
    go_wp2_with fail
    exact bodyPost_ret (v := csetV (oneLo b) (oneHi b)) (by rw [HV.out, HW.out]; simp [results, Try.results95, go_sem]) rfl ⟨rfl, ((Below.refl _ _).alloc (Nat.le_refl _) _).alloc (by simp) _⟩

set_option maxHeartbeats 400000 in
theorem l2Add_one (b : Int) (w : World) (h0 : 0 ≤ b) (h1 : b < 128) :
    Calls Try.prog 96 #[csetV 0 0, .int .u8 b] w fun e w' => e = .returned (csetV (oneLo b) (oneHi b)) ∧ Below w.heap.size w w' := by
  by_cases h2 : b < 64
  · have HV := Lib.hid (show oneLo b = bits .or .i64 0 (wrap64 (2 ^ b.toNat)) by unfold oneLo; rw [if_pos h2]; exact (oneBit_spec b.toNat (by omega)).symm)
    have HW := Lib.hid (show oneHi b = 0 by unfold oneHi; rw [if_pos h2])
    have t1 : decide (63 < b) = false := by simp; omega
    go_enter Try.func96, Try.ntmps96
    go_wp2_with fail
    exact bodyPost_ret (v := csetV (oneLo b) (oneHi b)) (by rw [HV.out, HW.out]; simp [results, Try.results96, go_sem]) rfl ⟨rfl, ((Below.refl _ _).alloc (Nat.le_refl _) _).alloc (by simp) _⟩
  · have HV := Lib.hid (show oneHi b = bits .or .i64 0 (wrap64 (2 ^ (b - 64).toNat)) by unfold oneHi; rw [if_neg h2]; exact (oneBit_spec (b - 64).toNat (by omega)).symm)
    have HW := Lib.hid (show oneLo b = 0 by unfold oneLo; rw [if_neg h2])
    have t1 : decide (63 < b) = true := by simp; omega
    go_enter Try.func96, Try.ntmps96
    go_wp2_with fail
    exact bodyPost_ret (v := csetV (oneLo b) (oneHi b)) (by rw [HV.out, HW.out]; simp [results, Try.results96, go_sem]) rfl ⟨rfl, ((Below.refl _ _).alloc (Nat.le_refl _) _).alloc (by simp) _⟩

set_option maxHeartbeats 400000 in
theorem implUnion_any (a b c d : Int) (w : World) :
    Calls Try.prog 76 #[csetV a b, csetV c d] w fun e w' => e = .returned (csetV (orWord a c) (orWord b d)) ∧ Below w.heap.size w w' := by
  go_enter Try.func76, Try.ntmps76
  go_wp2_with fail
  exact bodyPost_ret (v := csetV (orWord a c) (orWord b d)) (by simp [results, Try.results76, go_sem, orWord]) rfl ⟨rfl, (((Below.refl _ _).alloc (Nat.le_refl _) _).alloc (by simp) _).alloc (by simp; omega) _⟩

set_option maxHeartbeats 400000 in
theorem specUnion_any (a b c d : Int) (w : World) :
    Calls Try.prog 85 #[csetV a b, csetV c d] w fun e w' => e = .returned (csetV (orWord a c) (orWord b d)) ∧ Below w.heap.size w w' := by
  go_enter Try.func85, Try.ntmps85
  go_wp2_with fail
  exact bodyPost_ret (v := csetV (orWord a c) (orWord b d)) (by simp [results, Try.results85, go_sem, orWord]) rfl ⟨rfl, (((Below.refl _ _).alloc (Nat.le_refl _) _).alloc (by simp) _).alloc (by simp; omega) _⟩

theorem cells_cs {x : World} {b : Nat} {v0 v1 : Value} (h : x.heap[b]? = some (.cells #[v0, v1] TCs (0, 0))) : x.cell? ⟨b, 0, none⟩ = some v0 ∧ x.cell? ⟨b, 1, none⟩ = some v1 :=
  ⟨cell_of_row x b 0 _ _ _ h, cell_of_row x b 1 _ _ _ h⟩
theorem frozen_cs {x : World} {b : Nat} {cs : Array Value} {t : TypeId} (h : x.heap[b]? = some (.cells cs t (0, 0))) : x.frozen? ⟨b, 0, none⟩ = false ∧ x.frozen? ⟨b, 1, none⟩ = false := by
  obtain ⟨f0, f1, _⟩ := frozen_r h
  exact ⟨f0, f1⟩
theorem stored_cs {w : World} {b : Nat} {a0 a1 : Value} {T : TypeId} (h : w.heap[b]? = some (.cells #[a0, a1] T (0, 0))) (v0 v1 : Value) :
    ((w.setCell ⟨b, 0, none⟩ v0).setCell ⟨b, 1, none⟩ v1).heap[b]? = some (.cells #[v0, v1] T (0, 0)) := by
  have h7 := heap_set_own (o := 1) (heap_set_own (o := 0) h v0) v1
  simpa only [List.setIfInBounds_toArray, List.set_cons_zero, List.set_cons_succ] using h7
theorem set_else {w : World} {b k o : Nat} {v : Value} (h : k ≠ b) : (w.setCell ⟨b, o, none⟩ v).heap[k]? = w.heap[k]? := ((OnlyAt.refl b w).set o v).2 k h
theorem heap_alloc_two (w : World) (o o2 : Obj) : ((w.alloc o).alloc o2).heap[w.heap.size + 1]? = some o2 := by
  have := heap_alloc_new (w.alloc o) o2
  rwa [World.size_alloc] at this
/-- NewCset's state at its loop's head, j bytes in. -/
def NewAt (w wr : World) (s : ByteArray) (h0 : 0 < s.size) (j : Nat) : Prop :=
  (j = 0 ∧ wr.heap[w.heap.size + 1]? = some (.cells #[.int .i64 0, .int .i64 0] TCs (0, 0)) ∧ wr.heap[w.heap.size]? = some (.cells #[.int .i64 0, .int .i64 0] TCs (0, 0)) ∧ Below w.heap.size w wr) ∨
  (j = 1 ∧ wr.heap[w.heap.size + 1]? = some (.cells #[.int .i64 (oneLo s[0].toNat), .int .i64 (oneHi s[0].toNat)] TCs (0, 0)) ∧ wr.heap[w.heap.size]? = some (.cells #[.int .i64 0, .int .i64 0] TCs (0, 0)) ∧ Below w.heap.size w wr)

set_option maxRecDepth 100000 in
set_option maxHeartbeats 1000000 in
theorem implNew_no (s : ByteArray) (w : World) (h0 : 0 < s.size) (h1 : s.size < 2) (hb : 127 < (s[0].toNat : Int)) :
    Calls Try.prog 75 #[.string s] w fun e w' => e = .returned (.tuple #[csetV 0 0, .bool false]) ∧ Below w.heap.size w w' := by
  go_enter Try.func75, Try.ntmps75
  go_wp2_with fail
  go_loopw [5] (fun i wr => i = .int .i64 0 ∧ wr.heap[w.heap.size]? = some (.cells #[.int .i64 0, .int .i64 0] TCs (0, 0)) ∧ Below w.heap.size w wr) (fun _ _ => 0)
  case atStart => exact ⟨rfl, Later.has ((Later.refl _).alloc _) (heap_alloc_new w _), ((Below.refl _ _).alloc (Nat.le_refl _) _).alloc (by simp) _⟩
  case round =>
    obtain ⟨rfl, hbk, hbel⟩ := hrel
    have hB := has_lt hbk
    obtain ⟨c0, c1⟩ := cells_cs hbk
    obtain ⟨f0, f1⟩ := frozen_cs hbk
    go_wp2_with fail
    exact bodyPost_ret (v := .tuple #[csetV 0 0, .bool false]) (by simp [results, Try.results75, go_sem, c0, c1, hB, f0, f1]) rfl ⟨rfl, (hbel.setCell (Nat.le_refl _) _).setCell (Nat.le_refl _) _⟩

set_option maxRecDepth 100000 in
set_option maxHeartbeats 1000000 in
theorem implNew_yes (s : ByteArray) (w : World) (h0 : 0 < s.size) (h1 : s.size < 2) (hb : (s[0].toNat : Int) < 128) :
    Calls Try.prog 75 #[.string s] w fun e w' => e = .returned (.tuple #[csetV (oneLo s[0].toNat) (oneHi s[0].toNat), .bool true]) ∧ Below w.heap.size w w' := by
  go_enter Try.func75, Try.ntmps75
  go_wp2_with fail
  go_loopw [5] (fun i wr => ∃ j : Nat, i = .int .i64 j ∧ NewAt w wr s h0 j) (fun i _ => 1 - (intOf i).toNat)
  case atStart => exact ⟨0, rfl, .inl ⟨rfl, heap_alloc_two _ _ _, Later.has ((Later.refl _).alloc _) (heap_alloc_new w _), ((Below.refl _ _).alloc (Nat.le_refl _) _).alloc (by simp) _⟩⟩
  case round =>
    obtain ⟨j, rfl, hrel⟩ := hrel
    rcases hrel with ⟨rfl, hbb, hba, hbel⟩ | ⟨rfl, hbb, hba, hbel⟩
    · have HB := Lib.hid hbb
      have HA := Lib.hid hba
      have HL := Lib.hid (show Later w wr from hbel)
      clear hbb hba hbel
      go_wp2_with fail
      -- region 7: 6 operations, the last [4, 5]
      refine wpU_begin [4, 5] [] (by kernel_rfl) (fun w1 hw1 => ?_)
      have hl1 := drew_later hw1
      have HC := Lib.hid (hl1.has HB.out)
      have HA1 := Lib.hid (hl1.has HA.out)
      have HL1 := Lib.hid (HL.out.trans hl1)
      clear hw1 hl1 HB HA HL
      refine wpU_take 0 (some 18) (v := ?_) rfl rfl (by kernel_rfl) (fun _ _ _ h => h) rfl (fun x hx => ?_) ?_
      rotate_left 1
      · obtain ⟨c0, c1⟩ := cells_cs (hx.has HC.out); go_simp; first | done | with_reducible rfl | rw [if_neg (by omega)] | rw [if_pos (by omega)]
      simp only [Act.put, List.setIfInBounds_toArray, List.set_cons_zero, List.set_cons_succ]
      refine wpU_take 1 (some 19) (v := ?_) rfl rfl (by kernel_rfl) (fun _ _ _ h => h) rfl (fun x hx => ?_) ?_
      rotate_left 1
      · go_simp; first | done | with_reducible rfl | rw [if_neg (by omega)] | rw [if_pos (by omega)]
      simp only [Act.put, List.setIfInBounds_toArray, List.set_cons_zero, List.set_cons_succ]
      refine wpU_take 2 (some 20) (v := ?_) rfl rfl (by kernel_rfl) (fun _ _ _ h => h) rfl (fun x hx => ?_) ?_
      rotate_left 1
      · go_simp; first | done | with_reducible rfl | rw [if_neg (by omega)] | rw [if_pos (by omega)]
      simp only [Act.put, List.setIfInBounds_toArray, List.set_cons_zero, List.set_cons_succ]
      refine wpU_take 3 (some 21) (v := ?_) rfl rfl (by kernel_rfl) (fun _ _ _ h => h) rfl (fun x hx => ?_) ?_
      rotate_left 1
      · go_simp; first | done | with_reducible rfl | rw [if_neg (by omega)] | rw [if_pos (by omega)]
      simp only [Act.put, List.setIfInBounds_toArray, List.set_cons_zero, List.set_cons_succ]
      refine wpU_last [_, _] (by kernel_rfl) rfl rfl ?_
      simp only [List.getElem_toArray, List.getElem_cons_succ, List.getElem_cons_zero]
      go_wp2_with fail
      refine (withByte_one _ _ (by omega) (by omega)).mono ?_
      rintro e w2 ⟨rfl, hb2⟩
      have HC2 := Lib.hid (Later.has hb2 HC.out)
      have HA2 := Lib.hid (Later.has hb2 HA1.out)
      have HL2 := Lib.hid (HL1.out.trans hb2)
      clear hb2
      obtain ⟨c0, c1⟩ := cells_cs HC2.out
      obtain ⟨f0, f1⟩ := frozen_cs HC2.out
      go_wp2_with fail
      clear c0 c1 f0 f1
      go_roundw
      case rel => exact ⟨1, rfl, .inr ⟨rfl, stored_cs HC2.out _ _, (set_else (by omega)).trans ((set_else (by omega)).trans HA2.out), (Below.setCell (Below.setCell HL2.out (Nat.le_succ _) _) (Nat.le_succ _) _)⟩⟩
      case measure => simp [intOf]
    · obtain ⟨c0, c1⟩ := cells_cs hbb
      obtain ⟨d0, d1⟩ := cells_cs hba
      obtain ⟨f0, f1⟩ := frozen_cs hba
      have hB := has_lt hba
      go_wp2_with fail
      exact bodyPost_ret (v := .tuple #[csetV (oneLo s[0].toNat) (oneHi s[0].toNat), .bool true]) (by simp [results, Try.results75, go_sem, c0, c1, d0, d1, hB, f0, f1]) rfl ⟨rfl, (hbel.setCell (Nat.le_refl _) _).setCell (Nat.le_refl _) _⟩

set_option maxRecDepth 100000 in
set_option maxHeartbeats 1000000 in
theorem specNew_no (s : ByteArray) (w : World) (h0 : 0 < s.size) (h1 : s.size < 2) (hb : 127 < (s[0].toNat : Int)) :
    Calls Try.prog 84 #[.string s] w fun e w' => e = .returned (.tuple #[csetV 0 0, .bool false]) ∧ Below w.heap.size w w' := by
  go_enter Try.func84, Try.ntmps84
  go_wp2_with fail
  go_loopw [5] (fun i wr => i = .int .i64 0 ∧ wr.heap[w.heap.size]? = some (.cells #[.int .i64 0, .int .i64 0] TCs (0, 0)) ∧ Below w.heap.size w wr) (fun _ _ => 0)
  case atStart => exact ⟨rfl, Later.has ((Later.refl _).alloc _) (heap_alloc_new w _), ((Below.refl _ _).alloc (Nat.le_refl _) _).alloc (by simp) _⟩
  case round =>
    obtain ⟨rfl, hbk, hbel⟩ := hrel
    have hB := has_lt hbk
    obtain ⟨c0, c1⟩ := cells_cs hbk
    obtain ⟨f0, f1⟩ := frozen_cs hbk
    go_wp2_with fail
    exact bodyPost_ret (v := .tuple #[csetV 0 0, .bool false]) (by simp [results, Try.results84, go_sem, c0, c1, hB, f0, f1]) rfl ⟨rfl, (hbel.setCell (Nat.le_refl _) _).setCell (Nat.le_refl _) _⟩

set_option maxRecDepth 100000 in
set_option maxHeartbeats 1000000 in
theorem specNew_yes (s : ByteArray) (w : World) (h0 : 0 < s.size) (h1 : s.size < 2) (hb : (s[0].toNat : Int) < 128) :
    Calls Try.prog 84 #[.string s] w fun e w' => e = .returned (.tuple #[csetV (oneLo s[0].toNat) (oneHi s[0].toNat), .bool true]) ∧ Below w.heap.size w w' := by
  go_enter Try.func84, Try.ntmps84
  go_wp2_with fail
  go_loopw [5] (fun i wr => ∃ j : Nat, i = .int .i64 j ∧ NewAt w wr s h0 j) (fun i _ => 1 - (intOf i).toNat)
  case atStart => exact ⟨0, rfl, .inl ⟨rfl, heap_alloc_two _ _ _, Later.has ((Later.refl _).alloc _) (heap_alloc_new w _), ((Below.refl _ _).alloc (Nat.le_refl _) _).alloc (by simp) _⟩⟩
  case round =>
    obtain ⟨j, rfl, hrel⟩ := hrel
    rcases hrel with ⟨rfl, hbb, hba, hbel⟩ | ⟨rfl, hbb, hba, hbel⟩
    · have HB := Lib.hid hbb
      have HA := Lib.hid hba
      have HL := Lib.hid (show Later w wr from hbel)
      clear hbb hba hbel
      go_wp2_with fail
      -- region 7: 6 operations, the last [4, 5]
      refine wpU_begin [4, 5] [] (by kernel_rfl) (fun w1 hw1 => ?_)
      have hl1 := drew_later hw1
      have HC := Lib.hid (hl1.has HB.out)
      have HA1 := Lib.hid (hl1.has HA.out)
      have HL1 := Lib.hid (HL.out.trans hl1)
      clear hw1 hl1 HB HA HL
      refine wpU_take 0 (some 18) (v := ?_) rfl rfl (by kernel_rfl) (fun _ _ _ h => h) rfl (fun x hx => ?_) ?_
      rotate_left 1
      · obtain ⟨c0, c1⟩ := cells_cs (hx.has HC.out); go_simp; first | done | with_reducible rfl | rw [if_neg (by omega)] | rw [if_pos (by omega)]
      simp only [Act.put, List.setIfInBounds_toArray, List.set_cons_zero, List.set_cons_succ]
      refine wpU_take 1 (some 19) (v := ?_) rfl rfl (by kernel_rfl) (fun _ _ _ h => h) rfl (fun x hx => ?_) ?_
      rotate_left 1
      · go_simp; first | done | with_reducible rfl | rw [if_neg (by omega)] | rw [if_pos (by omega)]
      simp only [Act.put, List.setIfInBounds_toArray, List.set_cons_zero, List.set_cons_succ]
      refine wpU_take 2 (some 20) (v := ?_) rfl rfl (by kernel_rfl) (fun _ _ _ h => h) rfl (fun x hx => ?_) ?_
      rotate_left 1
      · go_simp; first | done | with_reducible rfl | rw [if_neg (by omega)] | rw [if_pos (by omega)]
      simp only [Act.put, List.setIfInBounds_toArray, List.set_cons_zero, List.set_cons_succ]
      refine wpU_take 3 (some 21) (v := ?_) rfl rfl (by kernel_rfl) (fun _ _ _ h => h) rfl (fun x hx => ?_) ?_
      rotate_left 1
      · go_simp; first | done | with_reducible rfl | rw [if_neg (by omega)] | rw [if_pos (by omega)]
      simp only [Act.put, List.setIfInBounds_toArray, List.set_cons_zero, List.set_cons_succ]
      refine wpU_last [_, _] (by kernel_rfl) rfl rfl ?_
      simp only [List.getElem_toArray, List.getElem_cons_succ, List.getElem_cons_zero]
      go_wp2_with fail
      refine (l2Add_one _ _ (by omega) (by omega)).mono ?_
      rintro e w2 ⟨rfl, hb2⟩
      have HC2 := Lib.hid (Later.has hb2 HC.out)
      have HA2 := Lib.hid (Later.has hb2 HA1.out)
      have HL2 := Lib.hid (HL1.out.trans hb2)
      clear hb2
      obtain ⟨c0, c1⟩ := cells_cs HC2.out
      obtain ⟨f0, f1⟩ := frozen_cs HC2.out
      go_wp2_with fail
      clear c0 c1 f0 f1
      go_roundw
      case rel => exact ⟨1, rfl, .inr ⟨rfl, stored_cs HC2.out _ _, (set_else (by omega)).trans ((set_else (by omega)).trans HA2.out), (Below.setCell (Below.setCell HL2.out (Nat.le_succ _) _) (Nat.le_succ _) _)⟩⟩
      case measure => simp [intOf]
    · obtain ⟨c0, c1⟩ := cells_cs hbb
      obtain ⟨d0, d1⟩ := cells_cs hba
      obtain ⟨f0, f1⟩ := frozen_cs hba
      have hB := has_lt hba
      go_wp2_with fail
      exact bodyPost_ret (v := .tuple #[csetV (oneLo s[0].toNat) (oneHi s[0].toNat), .bool true]) (by simp [results, Try.results84, go_sem, c0, c1, d0, d1, hB, f0, f1]) rfl ⟨rfl, (hbel.setCell (Nat.le_refl _) _).setCell (Nat.le_refl _) _⟩

end Go.Proofs.Ytndefbecoahfhaa
