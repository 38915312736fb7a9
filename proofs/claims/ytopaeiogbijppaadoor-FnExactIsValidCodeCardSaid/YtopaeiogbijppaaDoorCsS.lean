/- spec.NewCset and spec.CsetText. Printed by gen_cset.py. -/
import Derived.Test.YtopaeiogbijppaaDoorCsI
import Derived.Test.YtopaeiogbijppaaDoorParUnqB
namespace Go.Proofs.YtopaeiogbijppaaDoor
open Go.RowKit

theorem cs_cells {x : World} {b : Nat} {v0 v1 : Value} {t : TypeId} (h : x.heap[b]? = some (.cells #[v0, v1] t (0, 0))) : x.cell? ⟨b, 0, none⟩ = some v0 ∧ x.cell? ⟨b, 1, none⟩ = some v1 :=
  ⟨cell_of_row x b 0 _ _ _ h, cell_of_row x b 1 _ _ _ h⟩
theorem cs_open {x : World} {b : Nat} {v0 v1 : Value} {t : TypeId} (h : x.heap[b]? = some (.cells #[v0, v1] t (0, 0))) : x.frozen? ⟨b, 0, none⟩ = false ∧ x.frozen? ⟨b, 1, none⟩ = false :=
  ⟨frozen_of_row x b 0 _ _ h, frozen_of_row x b 1 _ _ h⟩
def addLo (lo c : Int) : Int := if c < 64 then bits .or .i64 lo (wrap64 (2 ^ c.toNat)) else lo
def addHi (hi c : Int) : Int := if c < 64 then hi else bits .or .i64 hi (wrap64 (2 ^ (c - 64).toNat))
theorem hb_add (lo hi b c : Int) (h0 : 0 ≤ b) (h1 : b ≤ 127) (h2 : 0 ≤ c) (h3 : c ≤ 127) : hb (addLo lo c) (addHi hi c) b = (hb lo hi b || decide (b = c)) := by
  unfold addLo addHi
  by_cases h : c < 64
  · rw [if_pos h, if_pos h]; exact hb_or_lo lo hi b c h0 h1 h2 h
  · rw [if_neg h, if_neg h]; exact hb_or_hi lo hi b c h0 h1 (by omega) h3
set_option maxHeartbeats 400000 in
theorem l2Add_any (x y b : Int) (w : World) (h0 : 0 ≤ b) (h1 : b < 128) :
    Calls Tryd.prog 92 #[.agg #[.int .i64 x, .int .i64 y], .int .u8 b] w fun e w' => e = .returned (.agg #[.int .i64 (addLo x b), .int .i64 (addHi y b)]) ∧ Below w.heap.size w w' := by
  by_cases h2 : b < 64
  · have t1 : decide (63 < b) = false := by simp; omega
    have HL := Lib.hid (show addLo x b = _ from if_pos h2)
    have HH := Lib.hid (show addHi y b = _ from if_pos h2)
    go_enter Tryd.func92, Tryd.ntmps92
    go_wp2_with fail
    exact bodyPost_ret (v := .agg #[.int .i64 (bits .or .i64 x (wrap64 (2 ^ b.toNat))), .int .i64 y]) (by simp [results, Tryd.results92, go_sem]) rfl ⟨by rw [HL.out, HH.out], ((Below.refl _ _).alloc (Nat.le_refl _) _).alloc (by simp) _⟩
  · have t1 : decide (63 < b) = true := by simp; omega
    have HL := Lib.hid (show addLo x b = _ from if_neg h2)
    have HH := Lib.hid (show addHi y b = _ from if_neg h2)
    go_enter Tryd.func92, Tryd.ntmps92
    go_wp2_with fail
    exact bodyPost_ret (v := .agg #[.int .i64 x, .int .i64 (bits .or .i64 y (wrap64 (2 ^ (b - 64).toNat)))]) (by simp [results, Tryd.results92, go_sem]) rfl ⟨by rw [HL.out, HH.out], ((Below.refl _ _).alloc (Nat.le_refl _) _).alloc (by simp) _⟩
/-- The set of the first j bytes. -/
def SetOf (s : ByteArray) (j : Nat) (lo hi : Int) : Prop := (∀ k (h : k < s.size), k < j → s[k].toNat ≤ 127) ∧ ∀ b : Nat, b ≤ 127 → (hb lo hi (b : Int) = true ↔ ∃ k, ∃ h : k < s.size, k < j ∧ s[k].toNat = b)
theorem SetOf.next {s : ByteArray} {j : Nat} {lo hi c : Int} (h : SetOf s j lo hi) (hj : j < s.size) (hc : (s[j].toNat : Int) = c) (h7 : ¬ 127 < c) : SetOf s (j + 1) (addLo lo c) (addHi hi c) := by
  refine ⟨fun k hk hkj => ?_, fun b hb7 => ?_⟩
  · rcases Nat.lt_or_ge k j with h1 | h1
    · exact h.1 k hk h1
    · obtain rfl : k = j := by omega
      omega
  · rw [hb_add _ _ _ _ (by omega) (by omega) (by omega) (by omega), Bool.or_eq_true, h.2 b hb7, decide_eq_true_eq]
    constructor
    · rintro (⟨k, hk, h1, h2⟩ | h1)
      · exact ⟨k, hk, by omega, h2⟩
      · exact ⟨j, hj, by omega, by omega⟩
    · rintro ⟨k, hk, h1, h2⟩
      rcases Nat.lt_or_ge k j with h3 | h3
      · exact .inl ⟨k, hk, h3, h2⟩
      · obtain rfl : k = j := by omega
        exact .inr (by omega)
theorem SetOf.all {s : ByteArray} {lo hi : Int} (h : SetOf s s.size lo hi) : (∀ x ∈ bl s, x.toNat ≤ 127) ∧ ∀ b : Nat, b ≤ 127 → (hb lo hi (b : Int) = true ↔ UInt8.ofNat b ∈ bl s) := by
  refine ⟨fun x hx => ?_, fun b hb7 => ?_⟩
  · obtain ⟨k, hk, rfl⟩ := List.getElem_of_mem hx
    rw [bl_size'] at hk
    rw [bl_at' s k hk]
    exact h.1 k hk hk
  · rw [h.2 b hb7]
    constructor
    · rintro ⟨k, hk, _, h2⟩
      have : UInt8.ofNat b = (bl s)[k]'(by rw [bl_size']; exact hk) := by rw [bl_at' s k hk, ← h2, UInt8.ofNat_toNat]
      rw [this]
      exact List.getElem_mem _
    · intro hm
      obtain ⟨k, hk, e⟩ := List.getElem_of_mem hm
      rw [bl_size'] at hk
      rw [bl_at' s k hk] at e
      refine ⟨k, hk, hk, ?_⟩
      rw [e, UInt8.toNat_ofNat', Nat.mod_eq_of_lt (by omega)]
set_option maxRecDepth 100000 in
set_option maxHeartbeats 2000000 in
theorem specNewCset_any (s : ByteArray) (w : World) (hs : s.size ≤ maxLen) :
    Calls Tryd.prog 64 #[.string s] w fun e w' => (∃ lo hi, ∃ ok : Bool, e = .returned (.tuple #[.agg #[.int .i64 lo, .int .i64 hi], .bool ok]) ∧ (ok = true → (∀ x ∈ bl s, x.toNat ≤ 127) ∧ ∀ b : Nat, b ≤ 127 → (hb lo hi (b : Int) = true ↔ UInt8.ofNat b ∈ bl s)) ∧ (ok = false → ∃ x ∈ bl s, 127 < x.toNat)) ∧ Below w.heap.size w w' := by
  unfold maxLen at hs
  have HA := Lib.hid (Later.refl (w.alloc (.cells #[.int .i64 0, .int .i64 0] 98)) |>.alloc (.cells #[.int .i64 0, .int .i64 0] 98) |>.block _ (by simp) |>.trans (heap_alloc_new w (.cells #[.int .i64 0, .int .i64 0] 98)))
  have HB0 := Lib.hid (heap_alloc_new (w.alloc (.cells #[.int .i64 0, .int .i64 0] 98)) (.cells #[.int .i64 0, .int .i64 0] 98))
  have HS0 : Hid (SetOf s 0 0 0) := Lib.hid ⟨fun k _ h => by omega, fun b h => ⟨fun h1 => (by rw [hb_empty _ (by omega) (by omega)] at h1; cases h1), fun h1 => (by obtain ⟨k, _, h2, _⟩ := h1; omega)⟩⟩
  go_enter Tryd.func64, Tryd.ntmps64
  go_wp2_with fail
  go_loopw [5] (fun i wr => ∃ (j : Nat) (lo hi : Int), i = .int .i64 j ∧ j ≤ s.size ∧ Hid (SetOf s j lo hi) ∧ Hid (wr.heap[w.heap.size + 1]? = some (.cells #[.int .i64 lo, .int .i64 hi] 98 (0, 0))) ∧ Hid (wr.heap[w.heap.size]? = some (.cells #[.int .i64 0, .int .i64 0] 98 (0, 0))) ∧ Below w.heap.size w wr) (fun i _ => s.size - (intOf i).toNat)
  case atStart => exact ⟨0, 0, 0, rfl, Nat.zero_le _, HS0, Lib.hid (by simpa using HB0.out), HA, ((Below.refl _ _).alloc (Nat.le_refl _) _).alloc (by simp) _⟩
  case round =>
    obtain ⟨j, lo, hi, rfl, hj, HS, HB, HZ, hbel⟩ := hrel
    have hlr : w.heap.size + 1 < wr.heap.size := (Array.getElem?_eq_some_iff.1 HB.out).1
    by_cases hlt : j < s.size
    · have t1 : decide ((j : Int) < s.size) = true := decide_eq_true (by omega)
      have hlt' : (j : Int) < s.size := by omega
      obtain ⟨c, hc⟩ : ∃ c : Int, (s[j].toNat : Int) = c := ⟨_, rfl⟩
      by_cases h7 : 127 < c
      · have HX := Lib.hid (show ∃ x ∈ bl s, 127 < x.toNat from ⟨s[j], by rw [← bl_at' s j hlt]; exact List.getElem_mem _, by omega⟩)
        have t2 : decide ((127 : Int) < c) = true := decide_eq_true h7
        obtain ⟨r0, r1⟩ := cs_cells HZ.out
        obtain ⟨f0, f1⟩ := cs_open HZ.out
        have HBL := Lib.hid hbel
        clear hbel
        go_wp2_with fail
        refine bodyPost_ret (v := .tuple #[.agg #[.int .i64 0, .int .i64 0], .bool false]) (by simp [results, Tryd.results64, go_sem, r0, r1, f0, f1]) rfl ⟨⟨0, 0, false, rfl, fun h => (by cases h), fun _ => HX.out⟩, (HBL.out.setCell (Nat.le_refl _) _).setCell (Nat.le_refl _) _⟩
      · have t2 : decide ((127 : Int) < c) = false := decide_eq_false h7
        have hc0 : 0 ≤ c := by omega
        have hc1 : c < 128 := by omega
        have HS2 := Lib.hid (HS.out.next hlt hc h7)
        clear h7
        go_upto_region 7 with (fail)
        -- region 7: 6 operations, the last [4, 5]
        refine wpU_begin [4, 5] [] (by kernel_rfl) (fun W hW => ?_)
        have hWL : Later wr W := by rw [hW]; exact (Later.refl _).drew
        have HC := Lib.hid ((hWL.block _ hlr).trans HB.out)
        have hlW : w.heap.size + 1 < W.heap.size := Nat.lt_of_lt_of_le hlr hWL.size
        clear hW
        refine wpU_take 0 (some 18) (v := ?_) rfl rfl (by kernel_rfl) (fun _ _ _ h => h) rfl (fun x hx => ?_) ?_
        rotate_left 1
        · obtain ⟨c0, c1⟩ := cs_cells ((hx.block _ hlW).trans HC.out); go_simp; first | done | with_reducible rfl | rw [if_neg (by omega)] | rw [if_pos (by omega)]
        simp only [Act.put, List.setIfInBounds_toArray, List.set_cons_zero, List.set_cons_succ]
        refine wpU_take 1 (some 19) (v := ?_) rfl rfl (by kernel_rfl) (fun _ _ _ h => h) rfl (fun x hx => ?_) ?_
        rotate_left 1
        · go_simp; first | done | with_reducible rfl | rw [if_neg (by omega)] | rw [if_pos (by omega)]
        simp only [Act.put, List.setIfInBounds_toArray, List.set_cons_zero, List.set_cons_succ]
        refine wpU_take 2 (some 20) (v := ?_) rfl rfl (by kernel_rfl) (fun _ _ _ h => h) rfl (fun x hx => ?_) ?_
        rotate_left 1
        · go_simp; first | done | with_reducible rfl | rw [if_neg (by omega)] | rw [if_pos (by omega)]
        simp only [Act.put, List.setIfInBounds_toArray, List.set_cons_zero, List.set_cons_succ]
        refine wpU_take 3 (some 21) (v := ?_) rfl rfl (by kernel_rfl) (fun _ _ _ h => h) rfl (fun x hx => ?_) ?_
        rotate_left 1
        · go_simp; first | done | with_reducible rfl | rw [if_neg (by omega)] | rw [if_pos (by omega)]
        simp only [Act.put, List.setIfInBounds_toArray, List.set_cons_zero, List.set_cons_succ]
        refine wpU_last [_, _] (by kernel_rfl) rfl rfl ?_
        simp only [List.getElem_toArray, List.getElem_cons_succ, List.getElem_cons_zero]
        have HAD := Lib.hid (l2Add_any lo hi c W hc0 hc1)
        have HBW := Lib.hid (hbel.trans (Below.mono hWL hbel.size))
        have HZW := Lib.hid ((hWL.block _ (by omega)).trans HZ.out)
        clear hbel hWL HB HZ
        go_wp2_with fail
        refine HAD.out.mono ?_
        rintro e w2 ⟨rfl, hb2⟩
        have hb := (Below.block hb2 _ hlW).trans HC.out
        have hz := (Below.block hb2 _ (by omega)).trans HZW.out
        have HB3 := Lib.hid (HBW.out.trans (Below.mono hb2 HBW.out.size))
        obtain ⟨c0, c1⟩ := cs_cells hb
        obtain ⟨f0, f1⟩ := cs_open hb
        have HN := Lib.hid (row_set (o := 1) (row_set (o := 0) hb (.int .i64 (addLo lo c))) (.int .i64 (addHi hi c)))
        have HZ3 := Lib.hid ((Below.heap_setCell _ ⟨w.heap.size + 1, 1, none⟩ (.int .i64 (addHi hi c)) w.heap.size (by simp)).trans ((Below.heap_setCell _ ⟨w.heap.size + 1, 0, none⟩ (.int .i64 (addLo lo c)) w.heap.size (by simp)).trans hz))
        clear hb hz hb2
        go_wp2_with fail
        clear c0 c1 f0 f1
        go_roundw
        case rel => exact ⟨j + 1, addLo lo c, addHi hi c, by go_num, by omega, HS2, Lib.hid HN.out, HZ3, (HB3.out.setCell (by simp) _).setCell (by simp) _⟩
        case measure => simp [intOf]; omega
    · have t1 : decide ((j : Int) < s.size) = false := decide_eq_false (by omega)
      have hjs : j = s.size := by omega
      have HALL := Lib.hid (SetOf.all (by rw [← hjs]; exact HS.out))
      obtain ⟨c0, c1⟩ := cs_cells HB.out
      obtain ⟨r0, r1⟩ := cs_cells HZ.out
      obtain ⟨f0, f1⟩ := cs_open HZ.out
      have HBL := Lib.hid hbel
      have hne : ¬ w.heap.size + 1 = w.heap.size := by omega
      clear hbel
      go_wp2_with fail
      refine bodyPost_ret (v := .tuple #[.agg #[.int .i64 lo, .int .i64 hi], .bool true]) (by simp [results, Tryd.results64, go_sem, c0, c1, r0, r1, f0, f1]) rfl ⟨⟨lo, hi, true, rfl, fun _ => HALL.out, fun h => (by cases h)⟩, (HBL.out.setCell (Nat.le_refl _) _).setCell (Nat.le_refl _) _⟩
set_option maxRecDepth 100000 in
set_option maxHeartbeats 2000000 in
theorem specCsetText_any (lo hi : Int) (w : World) :
    Calls Tryd.prog 65 #[.agg #[.int .i64 lo, .int .i64 hi]] w fun e w' => e = .returned (.string ⟨(csBytes lo hi 128).toArray⟩) ∧ Below w.heap.size w w' := by
  obtain ⟨i0, hi0, hz0, hz1, hz2⟩ := info_parts info_byte
  have HCL := Lib.hid (csBytes_len lo hi)
  have HSU := Lib.hid (csBytes_succ lo hi)
  obtain ⟨w1, hw1⟩ : ∃ w1, w1 = w.alloc (.cells #[.int .i64 lo, .int .i64 hi] 98) := ⟨_, rfl⟩
  have HP := Lib.hid (show w1.heap[w.heap.size]? = some (.cells #[.int .i64 lo, .int .i64 hi] 98 (0, 0)) by rw [hw1]; exact heap_alloc_new w _)
  have hb1 : Below w.heap.size w w1 := by rw [hw1]; exact (Below.refl _ _).alloc (Nat.le_refl _) _
  have hlt1 : w.heap.size < w1.heap.size := by rw [hw1]; simp
  have hst0 := UnSt.start w1
  rw [show w1.heap.size = w.heap.size + 1 by rw [hw1]; simp] at hst0
  have HST0 := Lib.hid (show UnSt w1 [] (.slice (some ⟨w.heap.size + 1, 0, none⟩) 0 0) ((w.alloc (.cells #[.int .i64 lo, .int .i64 hi] 98)).alloc (.cells #[] 5)) by rw [← hw1]; exact hst0)
  clear hst0 hw1
  go_enter Tryd.func65, Tryd.ntmps65
  go_wp2_with fail
  go_loopw [3, 4] (fun v i wr => ∃ (j : Nat) (o : List UInt8) (v' : Value), i = .int .i64 j ∧ v' = v ∧ j ≤ 128 ∧ Hid (o = csBytes lo hi j) ∧ UnSt w1 o v' wr) (fun _ i _ => 128 - (intOf i).toNat)
  case atStart => exact ⟨0, [], _, rfl, rfl, by omega, Lib.hid rfl, HST0.out⟩
  case round =>
    obtain ⟨j, o, v, rfl, rfl, hj, HO, hst⟩ := hrel
    have hsz := hst.bel.size
    have HST := Lib.hid hst
    clear hst
    by_cases hlt : j < 128
    · have t1 : decide ((j : Int) < 128) = true := decide_eq_true (by omega)
      have hwr : IntKind.u8.wrap (j : Int) = (j : Int) := by rw [IntKind.wrap_u8]; omega
      obtain ⟨c0, c1⟩ := cs_cells ((HST.out.bel.block _ hlt1).trans HP.out)
      have HHB := Lib.hid (specHasByte_any lo hi (j : Int) wr (by omega) (by omega))
      have hol : o.length ≤ 128 := by rw [HO.out]; exact Nat.le_trans (HCL.out j) hj
      go_wp2_with fail
      refine HHB.out.mono ?_
      rintro e w2 ⟨rfl, hb2⟩
      have HST2 := Lib.hid (HST.out.later hb2)
      have hsz2 := HST2.out.bel.size
      clear hb2 c0 c1 HHB
      by_cases hh : hb lo hi (j : Int) = true
      · have HO2 := Lib.hid (show o ++ [UInt8.ofNat j] = csBytes lo hi (j + 1) by rw [HSU.out, if_pos hh, HO.out])
        have hcj : ((UInt8.ofNat j).toNat : Int) = (j : Int) := by rw [UInt8.toNat_ofNat', Nat.mod_eq_of_lt (by omega)]
        have HCJ := Lib.hid hcj
        rw [hh]
        clear hh hcj
        go_wp2_with (at_builtin; refine wpList_append_own _ rfl _ _ 77 rfl w1.heap.size 5 i0 (.int .u8 0) 1 1 Tryd.underlying77 hi0 hz0 hz1 hz2 rfl (by decide) _ _ _ rfl (HST2.out.row.alloc _) ⟨w2.heap.size, 0, none⟩ 1 1 [.int .u8 (j : Int)] rfl rfl (cell_one_new _ _ _) (by simp [Value.oneCell']) (by unfold maxLen; omega) (by omega) (by simp; omega) ?_; intro v' w3 hown' hgrow hnil)
        have hst3 := HST2.out.push (UInt8.ofNat j) (j : Int) HCJ.out hown' hgrow hnil
        go_roundw
        case rel => exact ⟨j + 1, _, _, by go_num, rfl, by omega, HO2, hst3⟩
        case measure => simp [intOf]; omega
      · have hh2 : hb lo hi (j : Int) = false := by simpa using hh
        have HO2 := Lib.hid (show o = csBytes lo hi (j + 1) by rw [HSU.out, if_neg hh, List.append_nil, HO.out])
        rw [hh2]
        clear hh hh2
        go_wp2_with fail
        go_roundw
        case rel => exact ⟨j + 1, o, _, by go_num, rfl, by omega, HO2, HST2.out⟩
        case measure => simp [intOf]; omega
    · have t1 : decide ((j : Int) < 128) = false := decide_eq_false (by omega)
      have hf : o = csBytes lo hi 128 := by rw [HO.out, show j = 128 by omega]
      obtain ⟨g1, cap1, hv⟩ := HST.out.form
      subst hv
      have e2 := HST.out.text
      have HF := Lib.hid hf
      clear hf
      go_wp2_with fail
      go_ret
      refine ⟨?_, hb1.trans (Below.mono HST.out.bel hb1.size)⟩
      rw [HF.out]; rfl
end Go.Proofs.YtopaeiogbijppaaDoor
