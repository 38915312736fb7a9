/- spec.ParseInstr at every text. Printed by gen_parspec.py. -/
import Derived.Test.YtopaeiogbijppaaDoorParImp
import Derived.Test.YtopaeiogbijppaaDoorRegion2
namespace Go.Proofs.YtopaeiogbijppaaDoor
open Go.RowKit

set_option maxRecDepth 100000 in
set_option maxHeartbeats 4000000 in
theorem specParseInstr_any (s : ByteArray) (w : World) (hs : s.size ≤ 1048576) (ht : Tabs w) :
    Calls Tryd.prog 5 #[.string s] w fun e w' => e = .returned (insRes s) ∧ Below w.heap.size w w' := by
  obtain ⟨R, hR⟩ : ∃ R, insRes s = R := ⟨_, rfl⟩
  rw [hR]
  obtain ⟨w1, hw1⟩ : ∃ w1, w1 = w.alloc (insObj 0 0 0 0 ⟨#[]⟩) := ⟨_, rfl⟩
  have hb1 : Below w.heap.size w w1 := by rw [hw1]; exact (Below.refl _ _).alloc (Nat.le_refl _) _
  have hlen0 := spl_length s.data.toList
  rw [show s.data.toList.length = s.size by simp] at hlen0
  have HS := Lib.hid (splitByte_any s w1 hs)
  have HT := Lib.hid ht
  have HR := Lib.hid hR
  clear ht hR
  go_enter Tryd.func5, Tryd.ntmps5
  go_wp2_with fail
  rw [show w.alloc (.cells #[.int .i64 0, .int .i64 0, .int .i64 0, .int .i64 0, .string ⟨#[]⟩] 23) = w1 from hw1.symm]
  refine HS.out.mono ?_
  rintro e w2 ⟨⟨g, c, rfl, hc, hrow, hg⟩, hl12⟩
  have hlt1 : w.heap.size < w1.heap.size := by rw [hw1]; simp
  have hres1 : w1.heap[w.heap.size]? = some (insObj 0 0 0 0 ⟨#[]⟩) := by rw [hw1]; exact heap_alloc_new w _
  have hres2 := (Below.block hl12 _ hlt1).trans hres1
  have hb2 := hb1.trans (Below.mono hl12 hb1.size)
  have HROW := Lib.hid hrow
  clear hrow hb1 hres1 HS hl12 hw1 hg
  obtain ⟨n, hn⟩ : ∃ n, (spl s.data.toList).length = n := ⟨_, rfl⟩
  rw [hn] at hc hlen0 ⊢
  by_cases h5 : 5 ≤ n
  · obtain ⟨q0, q1, q2, q3, q4, r, hq⟩ := spl_five (s := s) (by omega)
    have hres := insRes_long hq
    rw [HR.out] at hres
    obtain ⟨l0, l1, l2, l3, l4⟩ := pieces_le hq
    have hrow := HROW.out
    rw [hq] at hrow
    have hnr0 : n = r.length + 5 := by rw [← hn, hq]; rfl
    obtain ⟨A, hA⟩ : ∃ A, parI q1 = A := ⟨_, rfl⟩
    obtain ⟨Bb, hBb⟩ : ∃ A, parI q2 = A := ⟨_, rfl⟩
    obtain ⟨L, hL⟩ : ∃ A, parI q3 = A := ⟨_, rfl⟩
    obtain ⟨T, hT⟩ : ∃ A, unqT 34 (jn (q4 :: r)) = A := ⟨_, rfl⟩
    rw [hA, hBb, hL, hT] at hres
    have hPA := specParseInt_any ⟨q1.toArray⟩
    have hPB := specParseInt_any ⟨q2.toArray⟩
    have hPL := specParseInt_any ⟨q3.toArray⟩
    have hPT := specUnquote_any ⟨(jn (q4 :: r)).toArray⟩
    simp only [show ∀ l : List UInt8, (⟨l.toArray⟩ : ByteArray).data.toList = l from fun _ => rfl, hA, hBb, hL, hT] at hPA hPB hPL hPT
    have eA := fun (x : Int) (e : A = some x) => parI_bound (hA.trans e)
    have eB := fun (x : Int) (e : Bb = some x) => parI_bound (hBb.trans e)
    have eL := fun (x : Int) (e : L = some x) => parI_bound (hL.trans e)
    have eT := fun (x : List UInt8) (e : T = some x) => unqT_len (hT.trans e)
    have hpl := places q0
    obtain ⟨FI, hFI⟩ : ∃ FI, findI snames q0 = FI := ⟨_, rfl⟩
    have hfp := find_place q0
    rw [hFI] at hfp
    obtain ⟨OP, hOP⟩ : ∃ OP, placeOf names q0 = OP := ⟨_, rfl⟩
    rw [hOP] at hres hpl hfp
    rw [numOut_eq] at hPA hPB hPL
    rw [strOut_eq] at hPT
    have bA := getD_bound eA
    have bB := getD_bound eB
    have bL := getD_bound eL
    have bT : (⟨(T.getD []).toArray⟩ : ByteArray).size ≤ 1048576 := getD_size fun x h => by
      have := eT x h
      omega
    have HNO := Lib.hid (fun h => hres.trans (resOf_no (s := s) (op := OP) (A := A) (B := Bb) (L := L) (T := T) h))
    have HYES := Lib.hid (fun h1 h2 h3 h4 h5 h6 => hres.trans (resOf_yes (s := s) (op := OP) (A := A) (B := Bb) (L := L) (T := T) h1 h2 h3 h4 h5 h6))
    have hz1 : (⟨q1.toArray⟩ : ByteArray).size ≤ 1048576 := Nat.le_trans l1 hs
    have hz2 : (⟨q2.toArray⟩ : ByteArray).size ≤ 1048576 := Nat.le_trans l2 hs
    have hz3 : (⟨q3.toArray⟩ : ByteArray).size ≤ 1048576 := Nat.le_trans l3 hs
    have hz4 : (⟨(jn (q4 :: r)).toArray⟩ : ByteArray).size ≤ 1048576 := Nat.le_trans l4 hs
    have HJL := Lib.hid (show (jn (q4 :: r)).length ≤ 2000000 by omega)
    have hrl : StrRowAt w2 g 4 (q4 :: r) := ⟨hrow.1, fun j hj => by
      have h := hrow.2 (j + 4) (by simp at hj ⊢; omega)
      rw [Nat.add_comm 4 j]
      simpa using h⟩
    have e0 := hrow.2 0 (by simp)
    have e1 := hrow.2 1 (by simp)
    have e2 := hrow.2 2 (by simp)
    have e3 := hrow.2 3 (by simp)
    simp only [List.getElem_cons_succ, List.getElem_cons_zero] at e0 e1 e2 e3
    have HF9 := Lib.hid (fun (W : World) (N : Nat) h => l9Find_any snames snames_nodup ⟨q0.toArray⟩ N 31 W h (by decide) (by decide))
    have HFI9 := Lib.hid (show findI snames (⟨q0.toArray⟩ : ByteArray).data.toList = FI from hFI)
    generalize A.getD 0 = av at *
    generalize Bb.getD 0 = bv at *
    generalize L.getD 0 = lv at *
    generalize (⟨(T.getD []).toArray⟩ : ByteArray) = tv at *
    generalize A.isSome = ak at *
    generalize Bb.isSome = bk at *
    generalize L.isSome = lk at *
    generalize T.isSome = tk at *
    generalize (⟨q0.toArray⟩ : ByteArray) = Q0 at *
    generalize (⟨q1.toArray⟩ : ByteArray) = Q1 at *
    generalize (⟨q2.toArray⟩ : ByteArray) = Q2 at *
    generalize (⟨q3.toArray⟩ : ByteArray) = Q3 at *
    have HROW3 := Lib.hid hrow
    have HROW4 := Lib.hid hrl
    have HP := Lib.hid (And.intro hPA (And.intro hPB (And.intro hPL (And.intro hPT (And.intro hz1 (And.intro hz2 (And.intro hz3 hz4)))))))
    have HBD := Lib.hid (And.intro bA (And.intro bB bL))
    have HE := Lib.hid (And.intro e1 (And.intro e2 e3))
    have HFP := Lib.hid hfp
    have HX2 := Lib.hid (And.intro hres2 hb2)
    have hc4 : 4 ≤ c := by omega
    have HNR := Lib.hid hnr0
    have u0 : decide ((n : Int) < 5) = false := decide_eq_false (by omega)
    clear hrow hrl hPA hPB hPL hPT hz1 hz2 hz3 hz4 eA eB eL eT bA bB bL l0 l1 l2 l3 l4 hA hBb hL hT hres hq HROW HR hOP hFI hfp e1 e2 e3 hres2 hb2 hnr0
    go_wp2_with fail
    -- region 4: 6 operations, the last [4, 5]
    refine wpU_begin [4, 5] [] (by kernel_rfl) (fun W hW => ?_)
    have hWL : Later w2 W := by rw [hW]; exact (Later.refl _).drew
    have eW := (hWL.cell ⟨g, 0, none⟩ HROW3.out.1).trans e0
    have hgW : g < W.heap.size := Nat.lt_of_lt_of_le HROW3.out.1 hWL.size
    clear hW
    refine wpU_take 1 (some 22) (v := ?_) rfl rfl (by kernel_rfl) (fun _ _ _ h => h) rfl (fun x hx => ?_) ?_
    rotate_left 1
    · go_simp; first | done | with_reducible rfl | rw [if_neg (by omega)] | rw [if_pos (by omega)]
    simp only [Act.put, List.setIfInBounds_toArray, List.set_cons_zero, List.set_cons_succ]
    refine wpU_take 2 (some 23) (v := ?_) rfl rfl (by kernel_rfl) (fun _ _ _ h => h) rfl (fun x hx => ?_) ?_
    rotate_left 1
    · go_simp; first | done | with_reducible rfl | rw [if_neg (by omega)] | rw [if_pos (by omega)]
    simp only [Act.put, List.setIfInBounds_toArray, List.set_cons_zero, List.set_cons_succ]
    refine wpU_take 3 (some 24) (v := ?_) rfl rfl (by kernel_rfl) (fun _ _ _ h => h) rfl (fun x hx => ?_) ?_
    rotate_left 1
    · have hx0 := (hx.cell ⟨g, 0, none⟩ hgW).trans eW; go_simp; first | done | with_reducible rfl | rw [if_neg (by omega)] | rw [if_pos (by omega)]
    simp only [Act.put, List.setIfInBounds_toArray, List.set_cons_zero, List.set_cons_succ]
    refine wpU_step 0 (by kernel_rfl) rfl rfl ?_  -- call value (Go.Operand.func 15)
    go_wp2_with fail
    refine (l28Names_row _).mono ?_
    rintro e w4 ⟨rfl, hw4⟩
    have hl4 : Later W w4 := by rw [hw4]; exact (Later.refl _).alloc _
    have hnm : StrRow w4 W.heap.size snames := by rw [hw4]; exact row_new _ snames
    obtain ⟨N, hN⟩ : ∃ N, W.heap.size = N := ⟨_, rfl⟩
    rw [hN] at hnm ⊢
    clear hw4 hN
    go_wp2_with fail
    refine ⟨hl4, ?_⟩
    refine wpU_last [_, _] (by kernel_rfl) rfl rfl ?_
    simp only [List.getElem_toArray, List.getElem_cons_succ, List.getElem_cons_zero]
    have e5 := HF9.out w4 N hnm
    rw [HFI9.out] at e5
    have HF5 := Lib.hid e5
    have hl24 := hWL.trans hl4
    have HL4 := Lib.hid hl24
    have e1 := (hl24.cell ⟨g, 1, none⟩ HROW3.out.1).trans HE.out.1
    clear e5 hnm HF9 hWL hl4 hgW hl24 e0 eW
    go_wp2_with fail
    refine HF5.out.mono ?_
    rintro e x ⟨rfl, hx⟩
    obtain rfl := hx.symm
    clear HF5
    have HPA := Lib.hid (HP.out.1 w4 HP.out.2.2.2.2.1)
    go_wp2_with fail
    refine HPA.out.mono ?_
    rintro e w5 ⟨rfl, hb5⟩
    have hl25 : Later w2 w5 := HL4.out.trans hb5
    have HL5 := Lib.hid hl25
    have e2 := (hl25.cell ⟨g, 2, none⟩ HROW3.out.1).trans HE.out.2.1
    have HPB := Lib.hid (HP.out.2.1 w5 HP.out.2.2.2.2.2.1)
    clear e1 hb5 hl25 HPA HL4
    go_wp2_with fail
    refine HPB.out.mono ?_
    rintro e w6 ⟨rfl, hb6⟩
    have hl26 : Later w2 w6 := HL5.out.trans hb6
    have HL6 := Lib.hid hl26
    have e3 := (hl26.cell ⟨g, 3, none⟩ HROW3.out.1).trans HE.out.2.2
    have HPL := Lib.hid (HP.out.2.2.1 w6 HP.out.2.2.2.2.2.2.1)
    clear e2 hb6 hl26 HPB HL5
    go_wp2_with fail
    refine HPL.out.mono ?_
    rintro e w7 ⟨rfl, hb7⟩
    have hl27 : Later w2 w7 := HL6.out.trans hb7
    have HL7 := Lib.hid hl27
    have hJ := l1Joined_any (q4 :: r) g 4 (c - 4) w7 (HROW4.out.below hl27) (by have := HNR.out; simp; omega) (by have := HNR.out; simp; omega) HJL.out ⟨#[32]⟩ rfl
    rw [show (q4 :: r).length = n - 4 by have := HNR.out; simp; omega] at hJ
    have HJ := Lib.hid hJ
    clear e3 hb7 hl27 HPL HL6 hJ
    go_wp2_with fail
    refine HJ.out.mono ?_
    rintro e w8 ⟨rfl, hb8⟩
    have hl28 : Later w2 w8 := HL7.out.trans hb8
    have HL8 := Lib.hid hl28
    have HPT := Lib.hid (HP.out.2.2.2.1 w8 HP.out.2.2.2.2.2.2.2)
    clear hb8 hl28 HJ HL7
    go_wp2_with fail
    refine HPT.out.mono ?_
    rintro e w9 ⟨rfl, hb9⟩
    have hl29 : Later w2 w9 := HL8.out.trans hb9
    obtain ⟨wX, hwX⟩ : ∃ wX, wX = w9.alloc (insObj FI av bv lv tv) := ⟨_, rfl⟩
    have hl9X : Later w9 wX := by rw [hwX]; exact (Later.refl _).alloc _
    have hblk : wX.heap[w9.heap.size]? = some (insObj FI av bv lv tv) := by rw [hwX]; exact heap_alloc_new w9 _
    obtain ⟨B, hB⟩ : ∃ B, w9.heap.size = B := ⟨_, rfl⟩
    rw [hB] at hblk
    have hl2X := hl29.trans hl9X
    have hresX := (Below.block hl2X _ (Array.getElem?_eq_some_iff.1 HX2.out.1).1).trans HX2.out.1
    have hbX := HX2.out.2.trans (Below.mono hl2X HX2.out.2.size)
    have HX := Lib.hid (And.intro hblk (And.intro hresX hbX))
    clear hb9 hl29 hl9X hblk hl2X hresX hbX HPT HL8
    go_upto_region 10 with (fail)
    rw [show w9.alloc (.cells #[.int .i64 FI, .int .i64 av, .int .i64 bv, .int .i64 lv, .string tv] 23) = wX from hwX.symm]
    try rw [hB]
    obtain ⟨c0, c1, c2, c3, c4⟩ := ins_cells HX.out.1
    obtain ⟨r0, r1, r2, r3, r4⟩ := ins_cells HX.out.2.1
    obtain ⟨g0, g1, g2, g3, g4⟩ := ins_open HX.out.2.1
    clear hwX hB
    by_cases h0 : FI < 1
    · have t0 : decide (FI < 1) = true := decide_eq_true h0
      have hop : OP = 0 := by rcases HFP.out with h | h <;> omega
      go_wp2_with fail
      refine bodyPost_ret (v := insOut 0 0 0 0 ⟨#[]⟩ false) (by simp [results, Tryd.results5, go_sem, r0, r1, r2, r3, r4, g0, g1, g2, g3, g4, insOut]) rfl ⟨?_, below_set5 HX.out.2.2 (Nat.le_refl _) _ _ _ _ _⟩
      exact congrArg Ending.returned (HNO.out (by simp [hop])).symm
    have t0 : decide (FI < 1) = false := decide_eq_false h0
    obtain ⟨hfi, hop⟩ : FI = OP ∧ 1 ≤ OP := by rcases HFP.out with h | h <;> omega
    subst hfi
    cases ak
    · skip
      go_wp2_with fail
      refine bodyPost_ret (v := insOut 0 0 0 0 ⟨#[]⟩ false) (by simp [results, Tryd.results5, go_sem, r0, r1, r2, r3, r4, g0, g1, g2, g3, g4, insOut]) rfl ⟨?_, below_set5 HX.out.2.2 (Nat.le_refl _) _ _ _ _ _⟩
      exact congrArg Ending.returned (HNO.out (by simp)).symm
    cases bk
    · skip
      go_wp2_with fail
      refine bodyPost_ret (v := insOut 0 0 0 0 ⟨#[]⟩ false) (by simp [results, Tryd.results5, go_sem, r0, r1, r2, r3, r4, g0, g1, g2, g3, g4, insOut]) rfl ⟨?_, below_set5 HX.out.2.2 (Nat.le_refl _) _ _ _ _ _⟩
      exact congrArg Ending.returned (HNO.out (by simp)).symm
    cases lk
    · skip
      go_wp2_with fail
      refine bodyPost_ret (v := insOut 0 0 0 0 ⟨#[]⟩ false) (by simp [results, Tryd.results5, go_sem, r0, r1, r2, r3, r4, g0, g1, g2, g3, g4, insOut]) rfl ⟨?_, below_set5 HX.out.2.2 (Nat.le_refl _) _ _ _ _ _⟩
      exact congrArg Ending.returned (HNO.out (by simp)).symm
    cases tk
    · skip
      go_wp2_with fail
      refine bodyPost_ret (v := insOut 0 0 0 0 ⟨#[]⟩ false) (by simp [results, Tryd.results5, go_sem, r0, r1, r2, r3, r4, g0, g1, g2, g3, g4, insOut]) rfl ⟨?_, below_set5 HX.out.2.2 (Nat.le_refl _) _ _ _ _ _⟩
      exact congrArg Ending.returned (HNO.out (by simp)).symm
    have hop0 : OP ≠ 0 := by omega
    have HFI := Lib.hid (specFormatInstr_in OP av bv lv tv wX bT (by omega) (by omega) HBD.out.1 HBD.out.2.1 HBD.out.2.2 (HT.out.below HX.out.2.2))
    obtain ⟨IT, hIT⟩ : ∃ IT, instrText OP av bv lv tv = IT := ⟨_, rfl⟩
    rw [hIT] at HFI HNO HYES
    go_wp2_with fail
    refine HFI.out.mono ?_
    rintro e w10 ⟨rfl, hb10⟩
    have hX10 : w10.heap[B]? = some (insObj OP av bv lv tv) ∧ w10.heap[w.heap.size]? = some (insObj 0 0 0 0 ⟨#[]⟩) ∧ Below w.heap.size w w10 :=
      ⟨(Below.block hb10 _ (Array.getElem?_eq_some_iff.1 HX.out.1).1).trans HX.out.1, (Below.block hb10 _ (Array.getElem?_eq_some_iff.1 HX.out.2.1).1).trans HX.out.2.1, HX.out.2.2.trans (Below.mono hb10 HX.out.2.2.size)⟩
    obtain ⟨d0, d1, d2, d3, d4⟩ := ins_cells hX10.1
    obtain ⟨k0, k1, k2, k3, k4⟩ := ins_cells hX10.2.1
    obtain ⟨j0, j1, j2, j3, j4⟩ := ins_open hX10.2.1
    have HX6 := Lib.hid hX10
    clear hX10 hb10 c0 c1 c2 c3 c4 r0 r1 r2 r3 r4 g0 g1 g2 g3 g4
    by_cases hit : IT = s
    · subst hit
      have v1 : (IT.toList == IT.toList) = true := by simp
      go_wp2_with fail
      refine bodyPost_ret (v := insOut OP av bv lv tv true) (by simp [results, Tryd.results5, go_sem, d0, d1, d2, d3, d4, k0, k1, k2, k3, k4, j0, j1, j2, j3, j4, insOut]) rfl ⟨?_, below_set5 HX6.out.2.2 (Nat.le_refl _) _ _ _ _ _⟩
      exact congrArg Ending.returned (HYES.out (by simp) (by simp) (by simp) (by simp) hop0 (by simp)).symm
    · have v1 : (IT.toList == s.toList) = false := by rw [beq_eq_false_iff_ne]; exact fun h => hit (toList_inj h)
      go_wp2_with fail
      refine bodyPost_ret (v := insOut 0 0 0 0 ⟨#[]⟩ false) (by simp [results, Tryd.results5, go_sem, k0, k1, k2, k3, k4, j0, j1, j2, j3, j4, insOut]) rfl ⟨?_, below_set5 HX6.out.2.2 (Nat.le_refl _) _ _ _ _ _⟩
      exact congrArg Ending.returned (HNO.out (by simp [hit])).symm
  · have hR0 : R = insOut 0 0 0 0 ⟨#[]⟩ false := by rw [← HR.out, insRes_short (by omega)]
    have t1 : decide ((n : Int) < 5) = true := decide_eq_true (by omega)
    obtain ⟨p0, p1, p2, p3, p4⟩ := ins_cells hres2
    obtain ⟨f0, f1, f2, f3, f4⟩ := ins_open hres2
    have HB2 := Lib.hid hb2
    clear h5 hres2 hb2 HR
    go_wp2_with fail
    refine bodyPost_ret (v := insOut 0 0 0 0 ⟨#[]⟩ false) (by simp [results, Tryd.results5, go_sem, p0, p1, p2, p3, p4, f0, f1, f2, f3, f4, insOut]) rfl ⟨?_, below_set5 HB2.out (Nat.le_refl _) _ _ _ _ _⟩
    rw [hR0]
end Go.Proofs.YtopaeiogbijppaaDoor
