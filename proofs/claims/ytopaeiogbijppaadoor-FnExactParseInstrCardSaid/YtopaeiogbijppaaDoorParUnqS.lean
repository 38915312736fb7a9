/- spec's UnquoteText at every text. Printed by gen_parunqs.py. -/
import Derived.Test.YtopaeiogbijppaaDoorParEnd
import Derived.Test.YtopaeiogbijppaaDoorParUnqI
namespace Go.Proofs.YtopaeiogbijppaaDoor
open Go.RowKit

theorem UnSt.start_at {w w1 : World} (hb : Below w.heap.size w w1) : UnSt w [] (.slice (some ⟨w1.heap.size, 0, none⟩) 0 0) (w1.alloc (.cells #[] 5)) :=
  ⟨⟨rfl, .inr ⟨w1.heap.size, 0, #[], rfl, hb.size, heap_alloc_new w1 _, Nat.le_refl _, Nat.zero_le _, rfl, rfl⟩⟩, hb.alloc hb.size _, fun e => by cases e⟩
theorem scanAt_plain {s : ByteArray} {k : Nat} (hk : k + 1 < s.size) (h : scanAt 34 s.data.toList k = true) (h92 : s[k] ≠ 92) : s[k] ≠ 34 ∧ scanAt 34 s.data.toList (k + 1) = true := by
  have hl : s.data.toList.length = s.size := by simp
  have hat : s.data.toList[k]'(by rw [hl]; omega) = s[k] := by simp; rfl
  rw [scanAt_step (by rw [hl]; omega), hat, hl] at h
  split at h
  · rw [decide_eq_true_eq] at h; omega
  · rename_i h34
    refine ⟨h34, ?_⟩
    split at h
    · cases h
    · first | exact h | rwa [if_neg h92] at h
theorem scanAt_esc {s : ByteArray} {k : Nat} (hk : k < s.size) (h : scanAt 34 s.data.toList k = true) (h92 : s[k] = 92) : scanAt 34 s.data.toList (k + 2) = true := by
  have hl : s.data.toList.length = s.size := by simp
  have hat : s.data.toList[k]'(by rw [hl]; omega) = s[k] := by simp; rfl
  rw [scanAt_step (by rw [hl]; omega), hat, hl, h92] at h
  rwa [if_neg (by decide), if_neg (by decide), if_pos rfl] at h
set_option maxRecDepth 100000 in
set_option maxHeartbeats 4000000 in
theorem l4Unquote_any (s : ByteArray) (w : World) (hs : s.size ≤ 1048576) :
    Calls Tryd.prog 47 #[.string s, .int .u8 34] w fun e w' => e = .returned (strOut (unqT 34 s.data.toList)) ∧ Below w.heap.size w w' := by
  have hlen : s.data.toList.length = s.size := by simp
  obtain ⟨i0, hi0, hz0, hz1, hz2⟩ := info_parts info_byte
  obtain ⟨R, hR⟩ : ∃ R, unqT 34 s.data.toList = R := ⟨_, rfl⟩
  rw [hR]
  by_cases h2 : s.size < 2
  · have hR0 : R = none := by rw [← hR, unqT_none (.inl (by omega))]
    subst hR0
    have u1 : decide ((s.size : Int) < 2) = true := decide_eq_true (by omega)
    clear hR hlen
    go_enter Tryd.func47, Tryd.ntmps47
    go_wp2_with fail
    go_ret2
    exact ⟨rfl, Below.refl _ _⟩
  have u1 : decide ((s.size : Int) < 2) = false := decide_eq_false (by omega)
  have hp : 0 < s.size := by omega
  obtain ⟨c0, hc0⟩ : ∃ c : Int, (s[0].toNat : Int) = c := ⟨_, rfl⟩
  by_cases h0 : c0 = 34
  rotate_left 1
  · have hR0 : R = none := by rw [← hR, unqT_none (.inr (.inl (by rw [list_at s 0 hp, ne_eq, Option.some.injEq, byte_is s[0] _ hc0]; exact h0)))]
    subst hR0
    have u2 : (c0 != 34) = true := by simpa using h0
    clear hR hlen
    go_enter Tryd.func47, Tryd.ntmps47
    go_wp2_with fail
    go_ret2
    exact ⟨rfl, Below.refl _ _⟩
  have e0 : s.data.toList[0]? = some 34 := by rw [list_at s 0 hp, Option.some.injEq, byte_is s[0] _ hc0]; exact h0
  subst h0
  obtain ⟨E, hE⟩ : ∃ E, s.size = E + 1 := ⟨s.size - 1, by omega⟩
  have hRS := unqS_at (q := 34) (.inl rfl) (s := s.data.toList) (by omega) e0
  rw [hR, hlen, show s.size - 1 = E by omega] at hRS
  have hEl : E < s.size := by omega
  have hidx : ((s.size : Int) - 1) = (E : Int) := by omega
  obtain ⟨M, hM⟩ : ∃ M, s.data.toList.take E = M := ⟨_, rfl⟩
  have hMl : M.length = E := by rw [← hM, List.length_take]; omega
  have hMa : ∀ k (hk : k < M.length) (hs : k < s.size), M[k] = s[k] := fun k hk _ => by subst hM; exact take_at s E k (by omega) (by omega)
  rw [hM] at hRS
  have HR := Lib.hid hRS
  have HML := Lib.hid hMl
  have HMA := Lib.hid hMa
  have HEND := Lib.hid (fun w => l4End_any s w hs hp hc0)
  have HSE := Lib.hid hE
  have hE1 : 1 ≤ E := by omega
  have hE2 : E ≤ 1048576 := by omega
  clear hR hRS hlen e0 hE hM hMl hMa
  go_enter Tryd.func47, Tryd.ntmps47
  go_wp2_with fail
  refine (HEND.out _).mono ?_
  rintro e w1 ⟨⟨z, rfl, hz⟩, hb1⟩
  have HB1 := Lib.hid hb1
  clear hb1
  cases hsc : scanAt 34 s.data.toList 1 with
  | false =>
    rw [hsc] at hz
    have hR0 : R = none := by rw [HR.out, hsc]; rfl
    subst hR0
    have hzn : (z != (s.size : Int)) = true := by rw [bne_iff_ne]; intro e; have := hz.1 e; cases this
    clear hz hsc
    go_wp2_with fail
    go_ret2
    exact ⟨rfl, HB1.out⟩
  | true =>
    rw [hsc] at hz
    have hR0 : R = unqAt false 34 M 1 := by rw [HR.out, hsc]; rfl
    have hzn : (z != (s.size : Int)) = false := by rw [bne_eq_false_iff_eq]; exact hz.2 rfl
    have HR1 := Lib.hid hR0
    have HSC := Lib.hid hsc
    clear hz hsc hR0 HR
    go_wp2_with fail
    go_loopw [6, 7] (fun v i wr => ∃ (k : Nat) (o : List UInt8) (v' : Value), i = .int .i64 k ∧ v' = v ∧ 1 ≤ k ∧ k ≤ E ∧ o.length ≤ k ∧ Hid (R = (unqAt false 34 M k).map (o ++ ·) ∧ scanAt 34 s.data.toList k = true) ∧ UnSt w o v' wr) (fun _ i _ => E - (intOf i).toNat)
    case atStart => exact ⟨1, [], _, rfl, rfl, Nat.le_refl _, hE1, by simp, Lib.hid ⟨by rw [HR1.out]; simp, HSC.out⟩, UnSt.start_at HB1.out⟩
    case round =>
      obtain ⟨k, o, v, rfl, rfl, hk1, hkE, hol, HD, hst⟩ := hrel
      have hsz := hst.bel.size
      have HST := Lib.hid hst
      clear hst
      by_cases hlt : k < E
      · have hks : k < s.size := by omega
        obtain ⟨c, hc⟩ : ∃ c : Int, (s[k].toNat : Int) = c := ⟨_, rfl⟩
        have hcb0 : 0 ≤ c := by omega
        have hcb1 : c < 256 := by have := s[k].toNat_lt; omega
        have t1 : decide ((k : Int) < E) = true := decide_eq_true (by omega)
        have t1' : decide (k < E) = true := decide_eq_true hlt
        have hkM := Lib.hid (show k < M.length by rw [HML.out]; exact hlt)
        have hMk := Lib.hid (HMA.out k hkM.out hks)
        by_cases h92 : c = 92
        · skip
          subst h92
          have hs92 := Lib.hid (show s[k] = 92 by rw [byte_is s[k] _ hc]; rfl)
          have hb92 := Lib.hid (show M[k]'hkM.out = 92 by rw [hMk.out]; exact hs92.out)
          have hsc2 := Lib.hid (scanAt_esc hks HD.out.2 hs92.out)
          have hal : k + 1 < E := by
            rcases Nat.lt_or_ge (k + 1) E with h | h
            · exact h
            · exfalso
              have := hsc2.out
              rw [scanAt_end (by have := HSE.out; simp; omega)] at this
              cases this
          have hks1 : k + 1 < s.size := by omega
          obtain ⟨e, he⟩ : ∃ e : Int, (s[k + 1].toNat : Int) = e := ⟨_, rfl⟩
          have heb0 : 0 ≤ e := by omega
          have heb1 : e < 256 := by have := s[k + 1].toNat_lt; omega
          have hkM1 := Lib.hid (show k + 1 < M.length by rw [HML.out]; exact hal)
          have hMk1 := Lib.hid (HMA.out (k + 1) hkM1.out hks1)
          by_cases e1 : e = 110
          · subst e1
            have heq := Lib.hid (unqAt_n (st := false) (q := 34) hkM1.out hb92.out (by rw [hMk1.out, byte_is s[k + 1] _ he]; rfl))
            go_wp2_with (at_builtin; refine wpList_append_own _ rfl _ _ 77 rfl w.heap.size 5 i0 (.int .u8 0) 1 1 Tryd.underlying77 hi0 hz0 hz1 hz2 rfl (by decide) _ _ _ rfl (HST.out.row.alloc _) ⟨wr.heap.size, 0, none⟩ 1 1 [.int .u8 10] rfl rfl (cell_one_new _ _ _) (by simp [Value.oneCell']) (by unfold maxLen; omega) (by omega) (by simp; omega) ?_; intro v' w1 hown' hgrow hnil)
            have hst1 := HST.out.push 10 10 rfl hown' hgrow hnil
            go_roundw
            case rel =>
              refine ⟨k + 2, o ++ [10], _, by go_num, rfl, by omega, by omega, by simp; omega, Lib.hid ⟨?_, hsc2.out⟩, hst1⟩
              rw [HD.out.1, heq.out]
              simp [Option.map_map, Function.comp_def, List.append_assoc]
            case measure => simp [intOf]; omega
          have n1 : (e == 110) = false := by rw [beq_eq_false_iff_ne]; exact e1
          by_cases e2 : e = 116
          · subst e2
            have heq := Lib.hid (unqAt_t (st := false) (q := 34) hkM1.out hb92.out (by rw [hMk1.out, byte_is s[k + 1] _ he]; rfl))
            go_wp2_with (at_builtin; refine wpList_append_own _ rfl _ _ 77 rfl w.heap.size 5 i0 (.int .u8 0) 1 1 Tryd.underlying77 hi0 hz0 hz1 hz2 rfl (by decide) _ _ _ rfl (HST.out.row.alloc _) ⟨wr.heap.size, 0, none⟩ 1 1 [.int .u8 9] rfl rfl (cell_one_new _ _ _) (by simp [Value.oneCell']) (by unfold maxLen; omega) (by omega) (by simp; omega) ?_; intro v' w1 hown' hgrow hnil)
            have hst1 := HST.out.push 9 9 rfl hown' hgrow hnil
            go_roundw
            case rel =>
              refine ⟨k + 2, o ++ [9], _, by go_num, rfl, by omega, by omega, by simp; omega, Lib.hid ⟨?_, hsc2.out⟩, hst1⟩
              rw [HD.out.1, heq.out]
              simp [Option.map_map, Function.comp_def, List.append_assoc]
            case measure => simp [intOf]; omega
          have n2 : (e == 116) = false := by rw [beq_eq_false_iff_ne]; exact e2
          by_cases e3 : e = 92 ∨ e = 34 ∨ e = 39
          · have heq := Lib.hid (unqAt_self (st := false) (q := 34) hkM1.out hb92.out (by
              rw [hMk1.out, byte_is s[k + 1] _ he, byte_is s[k + 1] _ he, byte_is s[k + 1] _ he]; exact e3))
            rw [hMk1.out] at heq
            rcases e3 with rfl | rfl | rfl
            · go_wp2_with (at_builtin; refine wpList_append_own _ rfl _ _ 77 rfl w.heap.size 5 i0 (.int .u8 0) 1 1 Tryd.underlying77 hi0 hz0 hz1 hz2 rfl (by decide) _ _ _ rfl (HST.out.row.alloc _) ⟨wr.heap.size, 0, none⟩ 1 1 [.int .u8 92] rfl rfl (cell_one_new _ _ _) (by simp [Value.oneCell']) (by unfold maxLen; omega) (by omega) (by simp; omega) ?_; intro v' w1 hown' hgrow hnil)
              have hst1 := HST.out.push (s[k + 1]) 92 he hown' hgrow hnil
              go_roundw
              case rel =>
                refine ⟨k + 2, o ++ [(s[k + 1])], _, by go_num, rfl, by omega, by omega, by simp; omega, Lib.hid ⟨?_, hsc2.out⟩, hst1⟩
                rw [HD.out.1, heq.out]
                simp [Option.map_map, Function.comp_def, List.append_assoc]
              case measure => simp [intOf]; omega
            · go_wp2_with (at_builtin; refine wpList_append_own _ rfl _ _ 77 rfl w.heap.size 5 i0 (.int .u8 0) 1 1 Tryd.underlying77 hi0 hz0 hz1 hz2 rfl (by decide) _ _ _ rfl (HST.out.row.alloc _) ⟨wr.heap.size, 0, none⟩ 1 1 [.int .u8 34] rfl rfl (cell_one_new _ _ _) (by simp [Value.oneCell']) (by unfold maxLen; omega) (by omega) (by simp; omega) ?_; intro v' w1 hown' hgrow hnil)
              have hst1 := HST.out.push (s[k + 1]) 34 he hown' hgrow hnil
              go_roundw
              case rel =>
                refine ⟨k + 2, o ++ [(s[k + 1])], _, by go_num, rfl, by omega, by omega, by simp; omega, Lib.hid ⟨?_, hsc2.out⟩, hst1⟩
                rw [HD.out.1, heq.out]
                simp [Option.map_map, Function.comp_def, List.append_assoc]
              case measure => simp [intOf]; omega
            · go_wp2_with (at_builtin; refine wpList_append_own _ rfl _ _ 77 rfl w.heap.size 5 i0 (.int .u8 0) 1 1 Tryd.underlying77 hi0 hz0 hz1 hz2 rfl (by decide) _ _ _ rfl (HST.out.row.alloc _) ⟨wr.heap.size, 0, none⟩ 1 1 [.int .u8 39] rfl rfl (cell_one_new _ _ _) (by simp [Value.oneCell']) (by unfold maxLen; omega) (by omega) (by simp; omega) ?_; intro v' w1 hown' hgrow hnil)
              have hst1 := HST.out.push (s[k + 1]) 39 he hown' hgrow hnil
              go_roundw
              case rel =>
                refine ⟨k + 2, o ++ [(s[k + 1])], _, by go_num, rfl, by omega, by omega, by simp; omega, Lib.hid ⟨?_, hsc2.out⟩, hst1⟩
                rw [HD.out.1, heq.out]
                simp [Option.map_map, Function.comp_def, List.append_assoc]
              case measure => simp [intOf]; omega
          have n3 : (e == 92) = false := by rw [beq_eq_false_iff_ne]; omega
          have n4 : (e == 34) = false := by rw [beq_eq_false_iff_ne]; omega
          have n5 : (e == 39) = false := by rw [beq_eq_false_iff_ne]; omega
          by_cases e4 : e = 120
          rotate_left 1
          · have n6 : (e == 120) = false := by rw [beq_eq_false_iff_ne]; exact e4
            have hoth := Lib.hid (show ¬ (M[k + 1]'hkM1.out = 110 ∨ M[k + 1]'hkM1.out = 116 ∨ M[k + 1]'hkM1.out = 92 ∨ M[k + 1]'hkM1.out = 34 ∨ M[k + 1]'hkM1.out = 39 ∨ M[k + 1]'hkM1.out = 120) by
              rw [hMk1.out, byte_is s[k + 1] _ he, byte_is s[k + 1] _ he, byte_is s[k + 1] _ he, byte_is s[k + 1] _ he, byte_is s[k + 1] _ he, byte_is s[k + 1] _ he]
              intro h
              rcases h with h | h | h | h | h | h
              · exact e1 h
              · exact e2 h
              · exact e3 (.inl h)
              · exact e3 (.inr (.inl h))
              · exact e3 (.inr (.inr h))
              · exact e4 h)
            clear e1 e2 e3 e4
            have hR0 : R = none := by rw [HD.out.1, unqAt_other hkM1.out hb92.out hoth.out]; rfl
            subst hR0
            go_wp2_with fail
            go_ret2
            exact ⟨rfl, HST.out.bel⟩
          subst e4
          clear e1 e2 e3
          have hx120 := Lib.hid (show M[k + 1]'hkM1.out = 120 by rw [hMk1.out, byte_is s[k + 1] _ he]; rfl)
          by_cases hsh : k + 3 < E
          rotate_left 1
          · have t3 : decide ((k : Int) + 3 < E) = false := decide_eq_false (by omega)
            have t3' : decide (k + 3 < E) = false := decide_eq_false (by omega)
            have hR0 : R = none := by rw [HD.out.1, unqAt_short hkM1.out (by rw [HML.out]; omega) hb92.out hx120.out]; rfl
            subst hR0
            go_wp2_with fail
            go_ret2
            exact ⟨rfl, HST.out.bel⟩
          have t3 : decide ((k : Int) + 3 < E) = true := decide_eq_true (by omega)
          have t3' : decide (k + 3 < E) = true := decide_eq_true (by omega)
          have hks2 : k + 2 < s.size := by omega
          have hks3 : k + 3 < s.size := by omega
          obtain ⟨x, hx⟩ : ∃ x, s[k + 2] = x := ⟨_, rfl⟩
          obtain ⟨y, hy⟩ : ∃ y, s[k + 3] = y := ⟨_, rfl⟩
          obtain ⟨cx, hcx⟩ : ∃ c : Int, (x.toNat : Int) = c := ⟨_, rfl⟩
          obtain ⟨cy, hcy⟩ : ∃ c : Int, (y.toNat : Int) = c := ⟨_, rfl⟩
          have hx2 : (s[k + 2].toNat : Int) = cx := by rw [hx]; exact hcx
          have hy2 : (s[k + 3].toNat : Int) = cy := by rw [hy]; exact hcy
          have hkM3 := Lib.hid (show k + 3 < M.length by rw [HML.out]; exact hsh)
          have hm2 := Lib.hid (show M[k + 2]'(by have := hkM3.out; omega) = x by rw [HMA.out _ _ hks2, hx])
          have hm3 := Lib.hid (show M[k + 3]'hkM3.out = y by rw [HMA.out _ _ hks3, hy])
          have hhx := hexV_hi x
          have hhy := hexV_hi y
          have HX := Lib.hid (fun w => l4HexValue_any x cx hcx w)
          have HY := Lib.hid (fun w => l4HexValue_any y cy hcy w)
          have HB := Lib.hid (hexB_int x y)
          have HPX := Lib.hid (hexV_plain (c := x))
          have HPY := Lib.hid (hexV_plain (c := y))
          obtain ⟨vx, hvx⟩ : ∃ v, hexV x = v := ⟨_, rfl⟩
          obtain ⟨vy, hvy⟩ : ∃ v, hexV y = v := ⟨_, rfl⟩
          rw [hvx] at HX HB HPX hhx
          rw [hvy] at HY HB HPY hhy
          by_cases hnx : vx < 0
          · have hno := Lib.hid (unqAt_nohex (st := false) (q := 34) hkM3.out hb92.out hx120.out (by rw [hm2.out, hm3.out, hvx]; omega))
            have t4 : decide ((0 : Int) ≤ vx) = false := decide_eq_false (by omega)
            clear hx hy hvx hvy
            go_wp2_with fail
            refine (HX.out _).mono ?_
            rintro e w2 ⟨rfl, rfl⟩
            have hR0 : R = none := by rw [HD.out.1, hno.out]; rfl
            subst hR0
            go_wp2_with fail
            go_ret2
            exact ⟨rfl, HST.out.bel⟩
          have t4 : decide ((0 : Int) ≤ vx) = true := decide_eq_true (by omega)
          by_cases hny : vy < 0
          · have hno := Lib.hid (unqAt_nohex (st := false) (q := 34) hkM3.out hb92.out hx120.out (by rw [hm2.out, hm3.out, hvy]; omega))
            have t5 : decide ((0 : Int) ≤ vy) = false := decide_eq_false (by omega)
            clear hx hy hvx hvy
            go_wp2_with fail
            refine (HX.out _).mono ?_
            rintro e w2 ⟨rfl, rfl⟩
            go_wp2_with fail
            refine (HY.out _).mono ?_
            rintro e w2 ⟨rfl, rfl⟩
            have hR0 : R = none := by rw [HD.out.1, hno.out]; rfl
            subst hR0
            go_wp2_with fail
            go_ret2
            exact ⟨rfl, HST.out.bel⟩
          have t5 : decide ((0 : Int) ≤ vy) = true := decide_eq_true (by omega)
          have hsc4 := Lib.hid (show scanAt 34 s.data.toList (k + 4) = true from by
            have p3 := (scanAt_plain (k := k + 2) (by omega) hsc2.out (by rw [hx]; exact (HPX.out (by omega)).2.2.1)).2
            exact (scanAt_plain (k := k + 3) (by omega) p3 (by rw [hy]; exact (HPY.out (by omega)).2.2.1)).2)
          have heq := Lib.hid (unqAt_hex (st := false) (q := 34) hkM3.out hb92.out hx120.out (by rw [hm2.out, hm3.out, hvx, hvy]; omega))
          rw [hm2.out, hm3.out] at heq
          have hbi := HB.out (by omega) (by omega)
          clear hx hy hvx hvy
          go_wp2_with fail
          refine (HX.out _).mono ?_
          rintro e w2 ⟨rfl, rfl⟩
          go_wp2_with fail
          refine (HY.out _).mono ?_
          rintro e w2 ⟨rfl, rfl⟩
          go_wp2_with fail
          -- region 18: 17 operations, the last [15, 16]
          refine wpV_begin [15, 16] [] (fun x => UnSt w o v x) (by kernel_rfl) (fun w5 hw5 => ?_)
          have HS := Lib.hid (HST.out.later (later_drew hw5))
          clear hw5
          refine wpV_take 0 (some 97) (v := ?_) rfl rfl (by kernel_rfl) (fun _ _ _ h => h) rfl HS.out (fun x hx => ?_) ?_
          rotate_left 1
          · go_simp; first | done | with_reducible rfl | rw [if_neg (by omega)] | rw [if_pos (by omega)]
          simp only [Act.put, List.setIfInBounds_toArray, List.set_cons_zero, List.set_cons_succ]
          refine wpV_take 1 (some 98) (v := ?_) rfl rfl (by kernel_rfl) (fun _ _ _ h => h) rfl HS.out (fun x hx => ?_) ?_
          rotate_left 1
          · go_simp; first | done | with_reducible rfl | rw [if_neg (by omega)] | rw [if_pos (by omega)]
          simp only [Act.put, List.setIfInBounds_toArray, List.set_cons_zero, List.set_cons_succ]
          refine wpV_take 2 (some 99) (v := ?_) rfl rfl (by kernel_rfl) (fun _ _ _ h => h) rfl HS.out (fun x hx => ?_) ?_
          rotate_left 1
          · go_simp; first | done | with_reducible rfl | rw [if_neg (by omega)] | rw [if_pos (by omega)]
          simp only [Act.put, List.setIfInBounds_toArray, List.set_cons_zero, List.set_cons_succ]
          refine wpV_take 3 (some 100) (v := ?_) rfl rfl (by kernel_rfl) (fun _ _ _ h => h) rfl HS.out (fun x hx => ?_) ?_
          rotate_left 1
          · go_simp; rw [IntWalk.i64_in _ (by omega), show (k : Int) + 2 = ((k + 2 : Nat) : Int) by omega]; first | done | with_reducible rfl | rw [if_neg (by omega)] | rw [if_pos (by omega)]
          simp only [Act.put, List.setIfInBounds_toArray, List.set_cons_zero, List.set_cons_succ]
          refine wpV_take 4 (some 101) (v := ?_) rfl rfl (by kernel_rfl) (fun _ _ _ h => h) rfl HS.out (fun x hx => ?_) ?_
          rotate_left 1
          · go_simp; (try rw [dif_pos ⟨by omega, by omega⟩]); simp only [Result.andThen_ok, show ((k : Int) + 2).toNat = k + 2 from by omega, hx2]; first | done | with_reducible rfl | rw [if_neg (by omega)] | rw [if_pos (by omega)]
          simp only [Act.put, List.setIfInBounds_toArray, List.set_cons_zero, List.set_cons_succ]
          refine wpV_take 7 (some 104) (v := ?_) rfl rfl (by kernel_rfl) (fun _ _ _ h => h) rfl HS.out (fun x hx => ?_) ?_
          rotate_left 1
          · go_simp; first | done | with_reducible rfl | rw [if_neg (by omega)] | rw [if_pos (by omega)]
          simp only [Act.put, List.setIfInBounds_toArray, List.set_cons_zero, List.set_cons_succ]
          refine wpV_take 8 (some 105) (v := ?_) rfl rfl (by kernel_rfl) (fun _ _ _ h => h) rfl HS.out (fun x hx => ?_) ?_
          rotate_left 1
          · go_simp; first | done | with_reducible rfl | rw [if_neg (by omega)] | rw [if_pos (by omega)]
          simp only [Act.put, List.setIfInBounds_toArray, List.set_cons_zero, List.set_cons_succ]
          refine wpV_take 9 (some 106) (v := ?_) rfl rfl (by kernel_rfl) (fun _ _ _ h => h) rfl HS.out (fun x hx => ?_) ?_
          rotate_left 1
          · go_simp; rw [IntWalk.i64_in _ (by omega), show (k : Int) + 3 = ((k + 3 : Nat) : Int) by omega]; first | done | with_reducible rfl | rw [if_neg (by omega)] | rw [if_pos (by omega)]
          simp only [Act.put, List.setIfInBounds_toArray, List.set_cons_zero, List.set_cons_succ]
          refine wpV_take 10 (some 107) (v := ?_) rfl rfl (by kernel_rfl) (fun _ _ _ h => h) rfl HS.out (fun x hx => ?_) ?_
          rotate_left 1
          · go_simp; (try rw [dif_pos ⟨by omega, by omega⟩]); simp only [Result.andThen_ok, show ((k : Int) + 3).toNat = k + 3 from by omega, hy2]; first | done | with_reducible rfl | rw [if_neg (by omega)] | rw [if_pos (by omega)]
          simp only [Act.put, List.setIfInBounds_toArray, List.set_cons_zero, List.set_cons_succ]
          refine wpV_step 5 (by kernel_rfl) rfl rfl ?_
          go_wp2_with fail
          refine (HX.out _).mono ?_
          rintro e w2 ⟨rfl, rfl⟩
          go_wp2_with fail
          refine ⟨HS.out, ?_⟩
          refine wpV_take 6 (some 103) (v := ?_) rfl rfl (by kernel_rfl) (fun _ _ _ h => h) rfl HS.out (fun x hx => ?_) ?_
          rotate_left 1
          · go_simp; rw [IntWalk.i64_in _ (by omega)]; first | done | with_reducible rfl | rw [if_neg (by omega)] | rw [if_pos (by omega)]
          simp only [Act.put, List.setIfInBounds_toArray, List.set_cons_zero, List.set_cons_succ]
          refine wpV_step 11 (by kernel_rfl) rfl rfl ?_
          go_wp2_with fail
          refine (HY.out _).mono ?_
          rintro e w2 ⟨rfl, rfl⟩
          go_wp2_with fail
          refine ⟨HS.out, ?_⟩
          refine wpV_take 12 (some 109) (v := ?_) rfl rfl (by kernel_rfl) (fun _ _ _ h => h) rfl HS.out (fun x hx => ?_) ?_
          rotate_left 1
          · go_simp; rw [IntWalk.i64_in _ (by omega)]; first | done | with_reducible rfl | rw [if_neg (by omega)] | rw [if_pos (by omega)]
          simp only [Act.put, List.setIfInBounds_toArray, List.set_cons_zero, List.set_cons_succ]
          refine wpV_take 13 (some 110) (v := ?_) rfl rfl (by kernel_rfl) (fun _ _ _ h => h) rfl HS.out (fun x hx => ?_) ?_
          rotate_left 1
          · go_simp; rw [IntWalk.u8_in _ (by omega)]; first | done | with_reducible rfl | rw [if_neg (by omega)] | rw [if_pos (by omega)]
          simp only [Act.put, List.setIfInBounds_toArray, List.set_cons_zero, List.set_cons_succ]
          refine wpV_step 14 (by kernel_rfl) rfl rfl ?_
          go_wp2_with fail
          refine ⟨HS.out.alloc _, ?_⟩
          refine wpV_last [_, _] (by kernel_rfl) rfl rfl ?_
          simp only [List.getElem_toArray, List.getElem_cons_succ, List.getElem_cons_zero]
          refine wpList_append_own _ rfl _ _ 77 rfl w.heap.size 5 i0 (.int .u8 0) 1 1 Tryd.underlying77 hi0 hz0 hz1 hz2 rfl (by decide) _ _ _ rfl (HS.out.row.alloc _) ⟨_, 0, none⟩ 1 1 [.int .u8 (16 * vx + vy)] rfl rfl (cell_one_new _ _ _) (by simp [Value.oneCell']) (by unfold maxLen; omega) (by omega) (by simp; have := HS.out.bel.size; omega) ?_
          intro v' w1 hown' hgrow hnil
          have hst1 := HS.out.push (hexB x y) (16 * vx + vy) (by omega) hown' hgrow hnil
          go_wp2_with fail
          go_roundw
          case rel =>
            refine ⟨k + 4, o ++ [hexB x y], _, by go_num, rfl, by omega, by omega, by simp; omega, Lib.hid ⟨?_, hsc4.out⟩, hst1⟩
            rw [HD.out.1, heq.out]
            simp [Option.map_map, Function.comp_def, List.append_assoc]
          case measure => simp [intOf]; omega
        · have u5 : (c != 92) = true := by simpa using h92
          have hs92 := Lib.hid (show s[k] ≠ 92 by rw [ne_eq, byte_is s[k] _ hc]; exact h92)
          have hpl := Lib.hid (scanAt_plain (by omega) HD.out.2 hs92.out)
          have heq := Lib.hid (unqAt_plain (st := false) (q := 34) hkM.out (by rw [hMk.out]; exact hs92.out) (by simp))
          rw [hMk.out] at heq
          go_wp2_with (at_builtin; refine wpList_append_own _ rfl _ _ 77 rfl w.heap.size 5 i0 (.int .u8 0) 1 1 Tryd.underlying77 hi0 hz0 hz1 hz2 rfl (by decide) _ _ _ rfl (HST.out.row.alloc _) ⟨wr.heap.size, 0, none⟩ 1 1 [.int .u8 c] rfl rfl (cell_one_new _ _ _) (by simp [Value.oneCell']) (by unfold maxLen; omega) (by omega) (by simp; omega) ?_; intro v' w1 hown' hgrow hnil)
          have hst1 := HST.out.push (s[k]) c hc hown' hgrow hnil
          go_roundw
          case rel =>
            refine ⟨k + 1, o ++ [(s[k])], _, by go_num, rfl, by omega, by omega, by simp; omega, Lib.hid ⟨?_, hpl.out.2⟩, hst1⟩
            rw [HD.out.1, heq.out]
            simp [Option.map_map, Function.comp_def, List.append_assoc]
          case measure => simp [intOf]; omega
      · have hke : k = E := by omega
        have t1 : decide ((k : Int) < E) = false := decide_eq_false (by omega)
        have t1' : decide (k < E) = false := decide_eq_false (by omega)
        have hR2 : R = some o := by rw [HD.out.1, unqAt_end (by rw [HML.out]; omega)]; simp
        subst hR2
        obtain ⟨g, cap, rfl⟩ : ∃ g cap, v = .slice (some ⟨g, 0, none⟩) o.length cap := HST.out.form
        have hcv := HST.out.text
        clear hke
        go_wp2_with fail
        go_ret2
        exact ⟨rfl, HST.out.bel⟩
end Go.Proofs.YtopaeiogbijppaaDoor
