/- Part of the walks that the claim stands on. -/
import Derived.Test.YtndefbecoahfhaaZQ5
import Derived.Test.YtndefbecoahfhaaZQ7

/- impl's MatchPattern. Printed by gen_mp.py. -/
namespace Go.Proofs.Ytndefbecoahfhaa
open Go.RowKit

set_option maxRecDepth 100000 in
set_option maxHeartbeats 4000000 in
theorem matchPattern_play (defs : List Pat) (dA : Option Addr) (dc : Nat) (p : Pat) (kv : Value) (s : ByteArray) (fr fuel : Nat) (w : World) (hs : Smalls defs) (hp : Small p) (hd : RowIn w dA 0 defs) (hin : KidsIn w p kv) (hvd : validD defs p = true)
    (hss : s.size ≤ 120) (hfr : fr ≤ s.size) (hfu : fuel ≤ 4000) :
    Calls Try.prog 11 #[.slice dA defs.length dc, p.v kv, .string s, .int .i64 fr, .int .i64 fuel] w (MatchIs w (play defs s fuel 0 [⟨0, p, 0⟩] (.start fr)) (matchFrom (play defs s fuel 0 [⟨0, p, 0⟩] (.start fr)) fr)) := by
  obtain ⟨kA, kc, rfl, _, _⟩ := hin.form
  obtain ⟨hdok, hpv⟩ := validD_defs hvd hs
  have hlen := hdok.len
  have HD := Lib.hid hdok
  have HV := Lib.hid (ok_start hpv hp hfr)
  have HROW := Lib.hid hd
  have HIN := Lib.hid hin
  have HS := Lib.hid hs
  have HP := Lib.hid hp
  have HVD := Lib.hid hvd
  obtain ⟨RES, hR⟩ : ∃ R, play defs s fuel 0 [⟨0, p, 0⟩] (.start fr) = R := ⟨_, rfl⟩
  rw [hR]
  have HRES := Lib.hid hR
  clear hR hdok hpv hd hin hs hp hvd
  have i1 : (s.size : Int) ≤ 120 := by omega
  have i2 : (fr : Int) ≤ s.size := by omega
  have i3 : (fuel : Int) ≤ 4000 := by omega
  have t1 : decide ((120 : Int) < s.size) = false := by simp; omega
  have t2 : decide ((fr : Int) < 0) = false := by simp
  have t3 : decide (s.size < fr) = false := by simp; omega
  have t4 : decide ((fuel : Int) < 0) = false := by simp
  have t5 : decide ((4000 : Int) < fuel) = false := by simp; omega
  go_enter Try.func11, Try.ntmps11
  go_wp2_with fail
  have HLA := Lib.hid (((Later.refl w).alloc (Obj.cells #[.int .i64 p.op, .string p.text, .int .i64 p.num, .int .i64 p.lo, .int .i64 p.hi, .slice kA p.kids.length kc] TP)).alloc (Obj.cells zeroM TR))
  refine (validDefinitions_is true defs dA dc p _ _ HS.out HP.out (RowIn.later HLA.out _ _ _ HROW.out) (KidsIn.later HLA.out _ _ HIN.out) (by omega) HVD.out).mono ?_
  rintro e w2 ⟨rfl, hb2⟩
  have HL2 := Lib.hid (HLA.out.trans hb2)
  have HP2 := Lib.hid (Later.has hb2 (((Later.refl _).alloc _).has (heap_alloc_new w _)))
  have HR2 := Lib.hid (Later.has hb2 (heap_alloc_new _ _))
  simp only [World.size_alloc] at HR2
  have HIN2 := Lib.hid (KidsIn.later HL2.out _ _ HIN.out)
  have HROW2 := Lib.hid (RowIn.later HL2.out _ _ _ HROW.out)
  clear hb2 HLA
  obtain ⟨p0, p1, p2, p3, p4, p5⟩ := cells_p HP2.out
  have hz1 := has_lt HP2.out
  have hz2 := has_lt HR2.out
  go_wp2_with fail
  clear p0 p1 p2 p3 p4 p5
  obtain ⟨M, hM⟩ : ∃ M, w2.heap.size = M := ⟨_, rfl⟩
  obtain ⟨RB, hRBe⟩ : ∃ RB, w.heap.size + 1 = RB := ⟨_, rfl⟩
  have hwz : w.heap.size ≤ RB := by omega
  rw [hRBe] at HR2 hz2
  rw [hM, hRBe]
  have HME := Lib.hid hM
  clear hM hRBe hz1
  go_loopg [12] fuel (fun k gv wr => LoopRel w2 defs dA dc s M fuel RES k gv wr)
  case atStart =>
    obtain rfl := HME.out
    exact ⟨0, [⟨0, p, 0⟩], .start fr, .slice none 0 0, .slice none 0 0, .slice none 0 0, [], by omega, ⟨_, _, _, rfl, by rw [show w2.heap.size + 1 = (w2.alloc _).heap.size by simp]; exact heap_alloc_new _ _, HIN2.out, rfl⟩, implAt_start (Later.refl w2) _, HV.out, HRES.out⟩
  case round =>
    obtain ⟨n, gs, m, cv, ev, hv, hs, hnk, hg, hI, hok, hpl⟩ := hrel
    have hRB := (hI.below.block _ hz2).trans HR2.out
    obtain ⟨cA, cc, rfl, _, _⟩ := hI.caps.form
    obtain ⟨eA, ec, rfl, _, _⟩ := hI.evs.form
    obtain ⟨hA, hc, rfl, _, _⟩ := hI.chs.form
    have hRM : ¬ RB = M := ne_of_type hRB hI.blk (by decide)
    have hMR : ¬ M = RB := fun e => hRM e.symm
    have HI := Lib.hid hI
    have HB := Lib.hid hRB
    have HPL := Lib.hid hpl
    have HK := Lib.hid hok
    clear hI hRB hpl hok
    cases gs with
    | nil =>
      simp only [GoalsAt] at hg
      subst hg
      rw [play_nil] at HPL
      go_wp2_with fail
      -- region 23: 22 operations, the last [21]
      refine wpU_begin [21] [] (by kernel_rfl) (fun w3 hw3 => ?_)
      have hl3 := drew_later hw3
      have HI3 := Lib.hid (HI.out.later hl3)
      have HB3 := Lib.hid (hl3.has HB.out)
      clear hw3 hl3
      refine wpU_take 0 (some 180) (v := ?_) rfl rfl (by kernel_rfl) (fun _ _ _ h => h) rfl (fun x hx => ?_) ?_
      rotate_left 1
      · go_simp; first | done | with_reducible rfl | rw [if_neg (by omega)] | rw [if_pos (by omega)]
      simp only [Act.put, nA, nB, nC]
      refine wpU_take 1 (some 181) (v := ?_) rfl rfl (by kernel_rfl) (fun _ _ _ h => h) rfl (fun x hx => ?_) ?_
      rotate_left 1
      · go_simp; first | done | with_reducible rfl | rw [if_neg (by omega)] | rw [if_pos (by omega)]
      simp only [Act.put, nA, nB, nC]
      refine wpU_take 2 (some 182) (v := ?_) rfl rfl (by kernel_rfl) (fun _ _ _ h => h) rfl (fun x hx => ?_) ?_
      rotate_left 1
      · go_simp; first | done | with_reducible rfl | rw [if_neg (by omega)] | rw [if_pos (by omega)]
      simp only [Act.put, nA, nB, nC]
      refine wpU_take 3 (some 183) (v := ?_) rfl rfl (by kernel_rfl) (fun _ _ _ h => h) rfl (fun x hx => ?_) ?_
      rotate_left 1
      · go_simp; first | done | with_reducible rfl | rw [if_neg (by omega)] | rw [if_pos (by omega)]
      simp only [Act.put, nA, nB, nC]
      refine wpU_take 4 (some 184) (v := ?_) rfl rfl (by kernel_rfl) (fun _ _ _ h => h) rfl (fun x hx => ?_) ?_
      rotate_left 1
      · obtain ⟨m0, m1, m2, m8, m9, m10, m11⟩ := cells_m (hx.has HI3.out.blk); go_simp; first | done | with_reducible rfl | rw [if_neg (by omega)] | rw [if_pos (by omega)]
      simp only [Act.put, nA, nB, nC]
      refine wpU_take 5 (some 185) (v := ?_) rfl rfl (by kernel_rfl) (fun _ _ _ h => h) rfl (fun x hx => ?_) ?_
      rotate_left 1
      · go_simp; first | done | with_reducible rfl | rw [if_neg (by omega)] | rw [if_pos (by omega)]
      simp only [Act.put, nA, nB, nC]
      refine wpU_take 6 (some 186) (v := ?_) rfl rfl (by kernel_rfl) (fun _ _ _ h => h) rfl (fun x hx => ?_) ?_
      rotate_left 1
      · go_simp; first | done | with_reducible rfl | rw [if_neg (by omega)] | rw [if_pos (by omega)]
      simp only [Act.put, nA, nB, nC]
      refine wpU_take 7 (some 187) (v := ?_) rfl rfl (by kernel_rfl) (fun _ _ _ h => h) rfl (fun x hx => ?_) ?_
      rotate_left 1
      · go_simp; first | done | with_reducible rfl | rw [if_neg (by omega)] | rw [if_pos (by omega)]
      simp only [Act.put, nA, nB, nC]
      refine wpU_take 8 (some 188) (v := ?_) rfl rfl (by kernel_rfl) (fun _ _ _ h => h) rfl (fun x hx => ?_) ?_
      rotate_left 1
      · go_simp; first | done | with_reducible rfl | rw [if_neg (by omega)] | rw [if_pos (by omega)]
      simp only [Act.put, nA, nB, nC]
      refine wpU_take 9 (some 189) (v := ?_) rfl rfl (by kernel_rfl) (fun _ _ _ h => h) rfl (fun x hx => ?_) ?_
      rotate_left 1
      · obtain ⟨m0, m1, m2, m8, m9, m10, m11⟩ := cells_m (hx.has HI3.out.blk); go_simp; first | done | with_reducible rfl | rw [if_neg (by omega)] | rw [if_pos (by omega)]
      simp only [Act.put, nA, nB, nC]
      refine wpU_take 10 (some 190) (v := ?_) rfl rfl (by kernel_rfl) (fun _ _ _ h => h) rfl (fun x hx => ?_) ?_
      rotate_left 1
      · go_simp; first | done | with_reducible rfl | rw [if_neg (by omega)] | rw [if_pos (by omega)]
      simp only [Act.put, nA, nB, nC]
      refine wpU_take 11 (some 191) (v := ?_) rfl rfl (by kernel_rfl) (fun _ _ _ h => h) rfl (fun x hx => ?_) ?_
      rotate_left 1
      · go_simp; first | done | with_reducible rfl | rw [if_neg (by omega)] | rw [if_pos (by omega)]
      simp only [Act.put, nA, nB, nC]
      refine wpU_take 12 (some 192) (v := ?_) rfl rfl (by kernel_rfl) (fun _ _ _ h => h) rfl (fun x hx => ?_) ?_
      rotate_left 1
      · go_simp; first | done | with_reducible rfl | rw [if_neg (by omega)] | rw [if_pos (by omega)]
      simp only [Act.put, nA, nB, nC]
      refine wpU_take 13 (some 193) (v := ?_) rfl rfl (by kernel_rfl) (fun _ _ _ h => h) rfl (fun x hx => ?_) ?_
      rotate_left 1
      · go_simp; first | done | with_reducible rfl | rw [if_neg (by omega)] | rw [if_pos (by omega)]
      simp only [Act.put, nA, nB, nC]
      refine wpU_take 14 (some 194) (v := ?_) rfl rfl (by kernel_rfl) (fun _ _ _ h => h) rfl (fun x hx => ?_) ?_
      rotate_left 1
      · obtain ⟨m0, m1, m2, m8, m9, m10, m11⟩ := cells_m (hx.has HI3.out.blk); go_simp; first | done | with_reducible rfl | rw [if_neg (by omega)] | rw [if_pos (by omega)]
      simp only [Act.put, nA, nB, nC]
      refine wpU_take 15 (some 195) (v := ?_) rfl rfl (by kernel_rfl) (fun _ _ _ h => h) rfl (fun x hx => ?_) ?_
      rotate_left 1
      · go_simp; first | done | with_reducible rfl | rw [if_neg (by omega)] | rw [if_pos (by omega)]
      simp only [Act.put, nA, nB, nC]
      refine wpU_take 16 (some 196) (v := ?_) rfl rfl (by kernel_rfl) (fun _ _ _ h => h) rfl (fun x hx => ?_) ?_
      rotate_left 1
      · go_simp; first | done | with_reducible rfl | rw [if_neg (by omega)] | rw [if_pos (by omega)]
      simp only [Act.put, nA, nB, nC]
      refine wpU_take 17 (some 197) (v := ?_) rfl rfl (by kernel_rfl) (fun _ _ _ h => h) rfl (fun x hx => ?_) ?_
      rotate_left 1
      · go_simp; first | done | with_reducible rfl | rw [if_neg (by omega)] | rw [if_pos (by omega)]
      simp only [Act.put, nA, nB, nC]
      refine wpU_take 18 (some 198) (v := ?_) rfl rfl (by kernel_rfl) (fun _ _ _ h => h) rfl (fun x hx => ?_) ?_
      rotate_left 1
      · go_simp; first | done | with_reducible rfl | rw [if_neg (by omega)] | rw [if_pos (by omega)]
      simp only [Act.put, nA, nB, nC]
      refine wpU_take 19 (some 199) (v := ?_) rfl rfl (by kernel_rfl) (fun _ _ _ h => h) rfl (fun x hx => ?_) ?_
      rotate_left 1
      · obtain ⟨m0, m1, m2, m8, m9, m10, m11⟩ := cells_m (hx.has HI3.out.blk); go_simp; first | done | with_reducible rfl | rw [if_neg (by omega)] | rw [if_pos (by omega)]
      simp only [Act.put, nA, nB, nC]
      refine wpU_take 20 (some 200) (v := ?_) rfl rfl (by kernel_rfl) (fun _ _ _ h => h) rfl (fun x hx => ?_) ?_
      rotate_left 1
      · go_simp; first | done | with_reducible rfl | rw [if_neg (by omega)] | rw [if_pos (by omega)]
      simp only [Act.put, nA, nB, nC]
      refine wpU_last [_] (by kernel_rfl) rfl rfl ?_
      simp only [List.getElem_toArray, List.getElem_cons_succ, List.getElem_cons_zero]
      obtain ⟨r0, r1, r2, r3, r4, r5, r6, r7⟩ := cells_r HB3.out
      obtain ⟨f0, f1, f2, f3, f4, f5, f6, f7⟩ := frozen_r HB3.out
      go_wp2_with fail
      refine bodyPost_ret (v := matchV ⟨true, false, false, m.at_, n, m.caps, m.events⟩ fr (.slice cA m.caps.length cc) (.slice eA m.events.length ec)) (by simp [results, Try.results11, go_sem, r0, r1, r2, r3, r4, r5, r6, r7]) rfl ?_
      rw [← HPL.out]
      exact matchIs_mk (r := ⟨true, false, false, m.at_, n, m.caps, m.events⟩) (fr := fr) HL2.out HI3.out.caps HI3.out.evs HI3.out.apart HI3.out.below HB3.out hwz (((((((((OnlyAt.refl _ _).set _ _).set _ _).set _ _).set _ _).set _ _).set _ _).set _ _).set _ _)
    | cons g gs =>
      obtain ⟨b, rfl⟩ := hg.ptr_cons
      have HG := Lib.hid hg
      clear hg
      by_cases hk0 : gk = 0
      · subst hk0
        obtain rfl : n = fuel := by omega
        rw [play_zero] at HPL
        obtain ⟨m0, m1, m2, m8, m9, m10, m11⟩ := cells_m HI.out.blk
        go_wp2_with fail
        clear m0 m1 m2 m8 m9 m10 m11
        -- region 7: 12 operations, the last [11]
        refine wpU_begin [11] [] (by kernel_rfl) (fun w3 hw3 => ?_)
        have hl3 := drew_later hw3
        have HI3 := Lib.hid (HI.out.later hl3)
        have HB3 := Lib.hid (hl3.has HB.out)
        clear hw3 hl3
        refine wpU_take 0 (some 62) (v := ?_) rfl rfl (by kernel_rfl) (fun _ _ _ h => h) rfl (fun x hx => ?_) ?_
        rotate_left 1
        · go_simp; first | done | with_reducible rfl | rw [if_neg (by omega)] | rw [if_pos (by omega)]
        simp only [Act.put, nA, nB, nC]
        refine wpU_take 1 (some 63) (v := ?_) rfl rfl (by kernel_rfl) (fun _ _ _ h => h) rfl (fun x hx => ?_) ?_
        rotate_left 1
        · go_simp; first | done | with_reducible rfl | rw [if_neg (by omega)] | rw [if_pos (by omega)]
        simp only [Act.put, nA, nB, nC]
        refine wpU_take 2 (some 64) (v := ?_) rfl rfl (by kernel_rfl) (fun _ _ _ h => h) rfl (fun x hx => ?_) ?_
        rotate_left 1
        · go_simp; first | done | with_reducible rfl | rw [if_neg (by omega)] | rw [if_pos (by omega)]
        simp only [Act.put, nA, nB, nC]
        refine wpU_take 3 (some 65) (v := ?_) rfl rfl (by kernel_rfl) (fun _ _ _ h => h) rfl (fun x hx => ?_) ?_
        rotate_left 1
        · go_simp; first | done | with_reducible rfl | rw [if_neg (by omega)] | rw [if_pos (by omega)]
        simp only [Act.put, nA, nB, nC]
        refine wpU_take 4 (some 66) (v := ?_) rfl rfl (by kernel_rfl) (fun _ _ _ h => h) rfl (fun x hx => ?_) ?_
        rotate_left 1
        · obtain ⟨m0, m1, m2, m8, m9, m10, m11⟩ := cells_m (hx.has HI3.out.blk); go_simp; first | done | with_reducible rfl | rw [if_neg (by omega)] | rw [if_pos (by omega)]
        simp only [Act.put, nA, nB, nC]
        refine wpU_take 5 (some 67) (v := ?_) rfl rfl (by kernel_rfl) (fun _ _ _ h => h) rfl (fun x hx => ?_) ?_
        rotate_left 1
        · go_simp; first | done | with_reducible rfl | rw [if_neg (by omega)] | rw [if_pos (by omega)]
        simp only [Act.put, nA, nB, nC]
        refine wpU_take 6 (some 68) (v := ?_) rfl rfl (by kernel_rfl) (fun _ _ _ h => h) rfl (fun x hx => ?_) ?_
        rotate_left 1
        · go_simp; first | done | with_reducible rfl | rw [if_neg (by omega)] | rw [if_pos (by omega)]
        simp only [Act.put, nA, nB, nC]
        refine wpU_take 7 (some 69) (v := ?_) rfl rfl (by kernel_rfl) (fun _ _ _ h => h) rfl (fun x hx => ?_) ?_
        rotate_left 1
        · go_simp; first | done | with_reducible rfl | rw [if_neg (by omega)] | rw [if_pos (by omega)]
        simp only [Act.put, nA, nB, nC]
        refine wpU_take 8 (some 70) (v := ?_) rfl rfl (by kernel_rfl) (fun _ _ _ h => h) rfl (fun x hx => ?_) ?_
        rotate_left 1
        · go_simp; first | done | with_reducible rfl | rw [if_neg (by omega)] | rw [if_pos (by omega)]
        simp only [Act.put, nA, nB, nC]
        refine wpU_take 9 (some 71) (v := ?_) rfl rfl (by kernel_rfl) (fun _ _ _ h => h) rfl (fun x hx => ?_) ?_
        rotate_left 1
        · obtain ⟨m0, m1, m2, m8, m9, m10, m11⟩ := cells_m (hx.has HI3.out.blk); go_simp; first | done | with_reducible rfl | rw [if_neg (by omega)] | rw [if_pos (by omega)]
        simp only [Act.put, nA, nB, nC]
        refine wpU_take 10 (some 72) (v := ?_) rfl rfl (by kernel_rfl) (fun _ _ _ h => h) rfl (fun x hx => ?_) ?_
        rotate_left 1
        · go_simp; first | done | with_reducible rfl | rw [if_neg (by omega)] | rw [if_pos (by omega)]
        simp only [Act.put, nA, nB, nC]
        refine wpU_last [_] (by kernel_rfl) rfl rfl ?_
        simp only [List.getElem_toArray, List.getElem_cons_succ, List.getElem_cons_zero]
        obtain ⟨r0, r1, r2, r3, r4, r5, r6, r7⟩ := cells_r HB3.out
        obtain ⟨f0, f1, f2, f3, f4, f5, f6, f7⟩ := frozen_r HB3.out
        go_wp2_with fail
        refine bodyPost_ret (v := matchV ⟨false, false, true, 0, n, [], m.events⟩ 0 (.slice none 0 0) (.slice eA m.events.length ec)) (by simp [results, Try.results11, go_sem, r0, r1, r2, r3, r4, r5, r6, r7]) rfl ?_
        rw [← HPL.out]
        exact matchIs_mk (r := ⟨false, false, true, 0, n, [], m.events⟩) (fr := 0) HL2.out (HasRow.nil _ _ _ _) HI3.out.evs (.inl rfl) HI3.out.below HB3.out hwz (((((((((OnlyAt.refl _ _).set _ _).set _ _).set _ _).set _ _).set _ _).set _ _).set _ _).set _ _)
      · obtain ⟨k, rfl⟩ : ∃ k, gk = k + 1 := ⟨gk - 1, by omega⟩
        have hn1 : (n : Int) + 1 ≤ 4001 := by omega
        have hnf : ¬ n = fuel := by omega
        have hnf2 : (n == fuel) = false := by simpa using hnf
        have hnf3 : ((n : Int) == (fuel : Int)) = false := by simp; omega
        obtain ⟨m0, m1, m2, m8, m9, m10, m11⟩ := cells_m HI.out.blk
        have f8 := frozen_of_row wr M 8 _ _ HI.out.blk
        go_wp2_with fail
        clear m0 m1 m2 m8 m9 m10 m11 f8
        refine (execute_any (HI.out.tick ((n : Int) + 1) (by simp)) (HG.out.keep (HI.out.keepSet 8 _)) HK.out (by omega) HD.out HROW2.out hss).mono ?_
        intro e w4 hdid
        cases hst : step defs s g gs m with
        | go gs' m' =>
          rw [hst] at hdid
          obtain ⟨gv4, cv4, ev4, hv4, hs4, rfl, hG4, hI4⟩ := hdid
          obtain ⟨p4, rfl⟩ := hG4.ptr
          have HG4 := Lib.hid hG4
          have HI4 := Lib.hid hI4
          have HST := Lib.hid hst
          rw [play_go hst] at HPL
          clear hG4 hI4 hst
          go_wp2_with fail
          go_roundg k
          case measure => omega
          case rel => exact ⟨n + 1, gs', m', cv4, ev4, hv4, hs4, by omega, HG4.out, HI4.out, step_ok HD.out hss HK.out HST.out, HPL.out⟩
        | stop =>
          rw [hst] at hdid
          obtain ⟨cv4, ev4, hv4, hs4, rfl, hI4⟩ := hdid
          obtain ⟨cA4, cc4, rfl, _, _⟩ := hI4.caps.form
          obtain ⟨eA4, ec4, rfl, _, _⟩ := hI4.evs.form
          have HB4 := Lib.hid ((hI4.below.block _ hz2).trans HR2.out)
          have HI4 := Lib.hid hI4
          rw [play_stop hst] at HPL
          clear hI4 hst
          go_wp2_with fail
          -- region 11: 12 operations, the last [11]
          refine wpU_begin [11] [] (by kernel_rfl) (fun w5 hw5 => ?_)
          have hl5 := drew_later hw5
          have HI5 := Lib.hid (HI4.out.later hl5)
          have HB5 := Lib.hid (hl5.has HB4.out)
          clear hw5 hl5
          refine wpU_take 0 (some 90) (v := ?_) rfl rfl (by kernel_rfl) (fun _ _ _ h => h) rfl (fun x hx => ?_) ?_
          rotate_left 1
          · go_simp; first | done | with_reducible rfl | rw [if_neg (by omega)] | rw [if_pos (by omega)]
          simp only [Act.put, nA, nB, nC]
          refine wpU_take 1 (some 91) (v := ?_) rfl rfl (by kernel_rfl) (fun _ _ _ h => h) rfl (fun x hx => ?_) ?_
          rotate_left 1
          · go_simp; first | done | with_reducible rfl | rw [if_neg (by omega)] | rw [if_pos (by omega)]
          simp only [Act.put, nA, nB, nC]
          refine wpU_take 2 (some 92) (v := ?_) rfl rfl (by kernel_rfl) (fun _ _ _ h => h) rfl (fun x hx => ?_) ?_
          rotate_left 1
          · go_simp; first | done | with_reducible rfl | rw [if_neg (by omega)] | rw [if_pos (by omega)]
          simp only [Act.put, nA, nB, nC]
          refine wpU_take 3 (some 93) (v := ?_) rfl rfl (by kernel_rfl) (fun _ _ _ h => h) rfl (fun x hx => ?_) ?_
          rotate_left 1
          · go_simp; first | done | with_reducible rfl | rw [if_neg (by omega)] | rw [if_pos (by omega)]
          simp only [Act.put, nA, nB, nC]
          refine wpU_take 4 (some 94) (v := ?_) rfl rfl (by kernel_rfl) (fun _ _ _ h => h) rfl (fun x hx => ?_) ?_
          rotate_left 1
          · obtain ⟨m0, m1, m2, m8, m9, m10, m11⟩ := cells_m (hx.has HI5.out.blk); go_simp; first | done | with_reducible rfl | rw [if_neg (by omega)] | rw [if_pos (by omega)]
          simp only [Act.put, nA, nB, nC]
          refine wpU_take 5 (some 95) (v := ?_) rfl rfl (by kernel_rfl) (fun _ _ _ h => h) rfl (fun x hx => ?_) ?_
          rotate_left 1
          · go_simp; first | done | with_reducible rfl | rw [if_neg (by omega)] | rw [if_pos (by omega)]
          simp only [Act.put, nA, nB, nC]
          refine wpU_take 6 (some 96) (v := ?_) rfl rfl (by kernel_rfl) (fun _ _ _ h => h) rfl (fun x hx => ?_) ?_
          rotate_left 1
          · go_simp; first | done | with_reducible rfl | rw [if_neg (by omega)] | rw [if_pos (by omega)]
          simp only [Act.put, nA, nB, nC]
          refine wpU_take 7 (some 97) (v := ?_) rfl rfl (by kernel_rfl) (fun _ _ _ h => h) rfl (fun x hx => ?_) ?_
          rotate_left 1
          · go_simp; first | done | with_reducible rfl | rw [if_neg (by omega)] | rw [if_pos (by omega)]
          simp only [Act.put, nA, nB, nC]
          refine wpU_take 8 (some 98) (v := ?_) rfl rfl (by kernel_rfl) (fun _ _ _ h => h) rfl (fun x hx => ?_) ?_
          rotate_left 1
          · go_simp; first | done | with_reducible rfl | rw [if_neg (by omega)] | rw [if_pos (by omega)]
          simp only [Act.put, nA, nB, nC]
          refine wpU_take 9 (some 99) (v := ?_) rfl rfl (by kernel_rfl) (fun _ _ _ h => h) rfl (fun x hx => ?_) ?_
          rotate_left 1
          · obtain ⟨m0, m1, m2, m8, m9, m10, m11⟩ := cells_m (hx.has HI5.out.blk); go_simp; first | done | with_reducible rfl | rw [if_neg (by omega)] | rw [if_pos (by omega)]
          simp only [Act.put, nA, nB, nC]
          refine wpU_take 10 (some 100) (v := ?_) rfl rfl (by kernel_rfl) (fun _ _ _ h => h) rfl (fun x hx => ?_) ?_
          rotate_left 1
          · go_simp; first | done | with_reducible rfl | rw [if_neg (by omega)] | rw [if_pos (by omega)]
          simp only [Act.put, nA, nB, nC]
          refine wpU_last [_] (by kernel_rfl) rfl rfl ?_
          simp only [List.getElem_toArray, List.getElem_cons_succ, List.getElem_cons_zero]
          obtain ⟨r0, r1, r2, r3, r4, r5, r6, r7⟩ := cells_r HB5.out
          obtain ⟨f0, f1, f2, f3, f4, f5, f6, f7⟩ := frozen_r HB5.out
          go_wp2_with fail
          refine bodyPost_ret (v := matchV ⟨false, true, false, 0, n + 1, [], m.events⟩ 0 (.slice none 0 0) (.slice eA4 m.events.length ec4)) (by simp [results, Try.results11, go_sem, r0, r1, r2, r3, r4, r5, r6, r7]) rfl ?_
          rw [← HPL.out]
          exact matchIs_mk (r := ⟨false, true, false, 0, n + 1, [], m.events⟩) (fr := 0) HL2.out (HasRow.nil _ _ _ _) HI5.out.evs (.inl rfl) HI5.out.below HB5.out hwz (((((((((OnlyAt.refl _ _).set _ _).set _ _).set _ _).set _ _).set _ _).set _ _).set _ _).set _ _)
        | fail =>
          rw [hst] at hdid
          obtain ⟨p4, cv4, ev4, hv4, hs4, rfl, hI4⟩ := hdid
          obtain ⟨cA4, cc4, rfl, _, _⟩ := hI4.caps.form
          obtain ⟨eA4, ec4, rfl, _, _⟩ := hI4.evs.form
          have HB4 := Lib.hid ((hI4.below.block _ hz2).trans HR2.out)
          have HI4 := Lib.hid hI4
          have HST := Lib.hid hst
          clear hst
          rcases List.eq_nil_or_concat m.choices with hcs | ⟨cs, c, hcs⟩
          · have hl0 : m.choices.length = 0 := by rw [hcs]; rfl
            obtain ⟨hA4, hc4, rfl, _, _⟩ := hI4.chs.form
            rw [play_none HST.out hcs] at HPL
            clear hI4 hcs
            obtain ⟨m0, m1, m2, m8, m9, m10, m11⟩ := cells_m HI4.out.blk
            go_wp2_with fail
            clear m0 m1 m2 m8 m9 m10 m11
            -- region 15: 12 operations, the last [11]
            refine wpU_begin [11] [] (by kernel_rfl) (fun w5 hw5 => ?_)
            have hl5 := drew_later hw5
            have HI5 := Lib.hid (HI4.out.later hl5)
            have HB5 := Lib.hid (hl5.has HB4.out)
            clear hw5 hl5
            refine wpU_take 0 (some 109) (v := ?_) rfl rfl (by kernel_rfl) (fun _ _ _ h => h) rfl (fun x hx => ?_) ?_
            rotate_left 1
            · go_simp; first | done | with_reducible rfl | rw [if_neg (by omega)] | rw [if_pos (by omega)]
            simp only [Act.put, nA, nB, nC]
            refine wpU_take 1 (some 110) (v := ?_) rfl rfl (by kernel_rfl) (fun _ _ _ h => h) rfl (fun x hx => ?_) ?_
            rotate_left 1
            · go_simp; first | done | with_reducible rfl | rw [if_neg (by omega)] | rw [if_pos (by omega)]
            simp only [Act.put, nA, nB, nC]
            refine wpU_take 2 (some 111) (v := ?_) rfl rfl (by kernel_rfl) (fun _ _ _ h => h) rfl (fun x hx => ?_) ?_
            rotate_left 1
            · go_simp; first | done | with_reducible rfl | rw [if_neg (by omega)] | rw [if_pos (by omega)]
            simp only [Act.put, nA, nB, nC]
            refine wpU_take 3 (some 112) (v := ?_) rfl rfl (by kernel_rfl) (fun _ _ _ h => h) rfl (fun x hx => ?_) ?_
            rotate_left 1
            · go_simp; first | done | with_reducible rfl | rw [if_neg (by omega)] | rw [if_pos (by omega)]
            simp only [Act.put, nA, nB, nC]
            refine wpU_take 4 (some 113) (v := ?_) rfl rfl (by kernel_rfl) (fun _ _ _ h => h) rfl (fun x hx => ?_) ?_
            rotate_left 1
            · obtain ⟨m0, m1, m2, m8, m9, m10, m11⟩ := cells_m (hx.has HI5.out.blk); go_simp; first | done | with_reducible rfl | rw [if_neg (by omega)] | rw [if_pos (by omega)]
            simp only [Act.put, nA, nB, nC]
            refine wpU_take 5 (some 114) (v := ?_) rfl rfl (by kernel_rfl) (fun _ _ _ h => h) rfl (fun x hx => ?_) ?_
            rotate_left 1
            · go_simp; first | done | with_reducible rfl | rw [if_neg (by omega)] | rw [if_pos (by omega)]
            simp only [Act.put, nA, nB, nC]
            refine wpU_take 6 (some 115) (v := ?_) rfl rfl (by kernel_rfl) (fun _ _ _ h => h) rfl (fun x hx => ?_) ?_
            rotate_left 1
            · go_simp; first | done | with_reducible rfl | rw [if_neg (by omega)] | rw [if_pos (by omega)]
            simp only [Act.put, nA, nB, nC]
            refine wpU_take 7 (some 116) (v := ?_) rfl rfl (by kernel_rfl) (fun _ _ _ h => h) rfl (fun x hx => ?_) ?_
            rotate_left 1
            · go_simp; first | done | with_reducible rfl | rw [if_neg (by omega)] | rw [if_pos (by omega)]
            simp only [Act.put, nA, nB, nC]
            refine wpU_take 8 (some 117) (v := ?_) rfl rfl (by kernel_rfl) (fun _ _ _ h => h) rfl (fun x hx => ?_) ?_
            rotate_left 1
            · go_simp; first | done | with_reducible rfl | rw [if_neg (by omega)] | rw [if_pos (by omega)]
            simp only [Act.put, nA, nB, nC]
            refine wpU_take 9 (some 118) (v := ?_) rfl rfl (by kernel_rfl) (fun _ _ _ h => h) rfl (fun x hx => ?_) ?_
            rotate_left 1
            · obtain ⟨m0, m1, m2, m8, m9, m10, m11⟩ := cells_m (hx.has HI5.out.blk); go_simp; first | done | with_reducible rfl | rw [if_neg (by omega)] | rw [if_pos (by omega)]
            simp only [Act.put, nA, nB, nC]
            refine wpU_take 10 (some 119) (v := ?_) rfl rfl (by kernel_rfl) (fun _ _ _ h => h) rfl (fun x hx => ?_) ?_
            rotate_left 1
            · go_simp; first | done | with_reducible rfl | rw [if_neg (by omega)] | rw [if_pos (by omega)]
            simp only [Act.put, nA, nB, nC]
            refine wpU_last [_] (by kernel_rfl) rfl rfl ?_
            simp only [List.getElem_toArray, List.getElem_cons_succ, List.getElem_cons_zero]
            obtain ⟨r0, r1, r2, r3, r4, r5, r6, r7⟩ := cells_r HB5.out
            obtain ⟨f0, f1, f2, f3, f4, f5, f6, f7⟩ := frozen_r HB5.out
            go_wp2_with fail
            refine bodyPost_ret (v := matchV ⟨false, false, false, 0, n + 1, [], m.events⟩ 0 (.slice none 0 0) (.slice eA4 m.events.length ec4)) (by simp [results, Try.results11, go_sem, r0, r1, r2, r3, r4, r5, r6, r7]) rfl ?_
            rw [← HPL.out]
            exact matchIs_mk (r := ⟨false, false, false, 0, n + 1, [], m.events⟩) (fr := 0) HL2.out (HasRow.nil _ _ _ _) HI5.out.evs (.inl rfl) HI5.out.below HB5.out hwz (((((((((OnlyAt.refl _ _).set _ _).set _ _).set _ _).set _ _).set _ _).set _ _).set _ _).set _ _)
          · rw [List.concat_eq_append] at hcs
            have hl1 : m.choices.length = cs.length + 1 := by rw [hcs]; simp
            have hbig : cs.length + 1 ≤ 4000 := by have := HK.out.nch; omega
            obtain ⟨g4, hc4, hv, _, hcc, hcm⟩ := hI4.chs.block_ (by omega)
            rw [hl1] at hv
            subst hv
            have HCS := Lib.hid hcs
            have HI4 := Lib.hid hI4
            obtain ⟨a4, b4, hab, hch4, hla, _⟩ := hI4.pop hcs
            subst hab
            rw [play_last HST.out hcs] at HPL
            have hncap : c.ncap ≤ m.caps.length := HK.out.choices.le c (by rw [hcs]; simp)
            have hmc := HK.out.ncap
            have HLA := Lib.hid hla
            rw [hl1] at hcc
            have hsub : IntKind.i64.wrap (cs.length : Int) = (cs.length : Int) := IntWalk.i64_in _ (by omega)
            have hq : ((cs.length : Int) + 1 == 0) = false := by simp; omega
            clear hI4 hcs hla hl1
            obtain ⟨m0, m1, m2, m8, m9, m10, m11⟩ := cells_m HI4.out.blk
            go_wp2_with fail
            clear m0 m1 m2 m8 m9 m10 m11
            rcases hch4 with ⟨hst4, rfl⟩ | ⟨hst4, gv4, rfl, hG4⟩
            · rw [if_pos hst4] at HPL
              -- region 16: 14 operations, the last [13]
              refine wpU_begin [13] [] (by kernel_rfl) (fun w5 hw5 => ?_)
              have hl5 := drew_later hw5
              have HI5 := Lib.hid (HI4.out.later hl5)
              have HB5 := Lib.hid (hl5.has HB4.out)
              clear hw5 hl5
              refine wpU_take 0 (some 120) (v := ?_) rfl rfl (by kernel_rfl) (fun _ _ _ h => h) rfl (fun x hx => ?_) ?_
              rotate_left 1
              · go_simp; first | done | with_reducible rfl | rw [if_neg (by omega)] | rw [if_pos (by omega)]
              simp only [Act.put, nA, nB, nC]
              refine wpU_take 1 (some 121) (v := ?_) rfl rfl (by kernel_rfl) (fun _ _ _ h => h) rfl (fun x hx => ?_) ?_
              rotate_left 1
              · go_simp; first | done | with_reducible rfl | rw [if_neg (by omega)] | rw [if_pos (by omega)]
              simp only [Act.put, nA, nB, nC]
              refine wpU_take 2 (some 122) (v := ?_) rfl rfl (by kernel_rfl) (fun _ _ _ h => h) rfl (fun x hx => ?_) ?_
              rotate_left 1
              · go_simp; first | done | with_reducible rfl | rw [if_neg (by omega)] | rw [if_pos (by omega)]
              simp only [Act.put, nA, nB, nC]
              refine wpU_take 3 (some 123) (v := ?_) rfl rfl (by kernel_rfl) (fun _ _ _ h => h) rfl (fun x hx => ?_) ?_
              rotate_left 1
              · obtain ⟨m0, m1, m2, m8, m9, m10, m11⟩ := cells_m (hx.has HI5.out.blk); obtain ⟨c0, c1, c2, c3⟩ := top_cells HI5.out HLA.out hx; go_simp; first | done | with_reducible rfl | rw [if_neg (by omega)] | rw [if_pos (by omega)]
              simp only [Act.put, nA, nB, nC]
              refine wpU_take 4 (some 124) (v := ?_) rfl rfl (by kernel_rfl) (fun _ _ _ h => h) rfl (fun x hx => ?_) ?_
              rotate_left 1
              · go_simp; first | done | with_reducible rfl | rw [if_neg (by omega)] | rw [if_pos (by omega)]
              simp only [Act.put, nA, nB, nC]
              refine wpU_take 5 (some 125) (v := ?_) rfl rfl (by kernel_rfl) (fun _ _ _ h => h) rfl (fun x hx => ?_) ?_
              rotate_left 1
              · go_simp; first | done | with_reducible rfl | rw [if_neg (by omega)] | rw [if_pos (by omega)]
              simp only [Act.put, nA, nB, nC]
              refine wpU_take 6 (some 126) (v := ?_) rfl rfl (by kernel_rfl) (fun _ _ _ h => h) rfl (fun x hx => ?_) ?_
              rotate_left 1
              · go_simp; first | done | with_reducible rfl | rw [if_neg (by omega)] | rw [if_pos (by omega)]
              simp only [Act.put, nA, nB, nC]
              refine wpU_take 7 (some 127) (v := ?_) rfl rfl (by kernel_rfl) (fun _ _ _ h => h) rfl (fun x hx => ?_) ?_
              rotate_left 1
              · obtain ⟨m0, m1, m2, m8, m9, m10, m11⟩ := cells_m (hx.has HI5.out.blk); obtain ⟨c0, c1, c2, c3⟩ := top_cells HI5.out HLA.out hx; go_simp; first | done | with_reducible rfl | rw [if_neg (by omega)] | rw [if_pos (by omega)]
              simp only [Act.put, nA, nB, nC]
              refine wpU_take 8 (some 128) (v := ?_) rfl rfl (by kernel_rfl) (fun _ _ _ h => h) rfl (fun x hx => ?_) ?_
              rotate_left 1
              · go_simp; first | done | with_reducible rfl | rw [if_neg (by omega)] | rw [if_pos (by omega)]
              simp only [Act.put, nA, nB, nC]
              refine wpU_take 9 (some 129) (v := ?_) rfl rfl (by kernel_rfl) (fun _ _ _ h => h) rfl (fun x hx => ?_) ?_
              rotate_left 1
              · go_simp; first | done | with_reducible rfl | rw [if_neg (by omega)] | rw [if_pos (by omega)]
              simp only [Act.put, nA, nB, nC]
              refine wpU_take 10 (some 130) (v := ?_) rfl rfl (by kernel_rfl) (fun _ _ _ h => h) rfl (fun x hx => ?_) ?_
              rotate_left 1
              · go_simp; first | done | with_reducible rfl | rw [if_neg (by omega)] | rw [if_pos (by omega)]
              simp only [Act.put, nA, nB, nC]
              refine wpU_take 11 (some 131) (v := ?_) rfl rfl (by kernel_rfl) (fun _ _ _ h => h) rfl (fun x hx => ?_) ?_
              rotate_left 1
              · obtain ⟨m0, m1, m2, m8, m9, m10, m11⟩ := cells_m (hx.has HI5.out.blk); obtain ⟨c0, c1, c2, c3⟩ := top_cells HI5.out HLA.out hx; go_simp; first | done | with_reducible rfl | rw [if_neg (by omega)] | rw [if_pos (by omega)]
              simp only [Act.put, nA, nB, nC]
              refine wpU_step 12 (by kernel_rfl) rfl rfl ?_  -- alloc 
              go_wp2_with fail
              refine ⟨(Later.refl _).alloc _, ?_⟩
              refine wpU_last [_] (by kernel_rfl) rfl rfl ?_
              simp only [List.getElem_toArray, List.getElem_cons_succ, List.getElem_cons_zero]
              go_wp2_with fail
              -- region 17: 15 operations, the last [14]
              refine wpU_begin [14] [] (by kernel_rfl) (fun w7 hw7 => ?_)
              obtain ⟨hl7, hC7⟩ := drew_alloc hw7
              have HI7 := Lib.hid (HI5.out.later hl7)
              have HC7 := Lib.hid hC7
              have HB7 := Lib.hid (hl7.has HB5.out)
              clear hw7 hl7 hC7
              refine wpU_take 0 (some 132) (v := ?_) rfl rfl (by kernel_rfl) (fun _ _ _ h => h) rfl (fun x hx => ?_) ?_
              rotate_left 1
              · go_simp; first | done | with_reducible rfl | rw [if_neg (by omega)] | rw [if_pos (by omega)]
              simp only [Act.put, nA, nB, nC]
              refine wpU_take 1 (some 133) (v := ?_) rfl rfl (by kernel_rfl) (fun _ _ _ h => h) rfl (fun x hx => ?_) ?_
              rotate_left 1
              · go_simp; first | done | with_reducible rfl | rw [if_neg (by omega)] | rw [if_pos (by omega)]
              simp only [Act.put, nA, nB, nC]
              refine wpU_take 2 (some 134) (v := ?_) rfl rfl (by kernel_rfl) (fun _ _ _ h => h) rfl (fun x hx => ?_) ?_
              rotate_left 1
              · go_simp; first | done | with_reducible rfl | rw [if_neg (by omega)] | rw [if_pos (by omega)]
              simp only [Act.put, nA, nB, nC]
              refine wpU_take 3 (some 135) (v := ?_) rfl rfl (by kernel_rfl) (fun _ _ _ h => h) rfl (fun x hx => ?_) ?_
              rotate_left 1
              · go_simp; first | done | with_reducible rfl | rw [if_neg (by omega)] | rw [if_pos (by omega)]
              simp only [Act.put, nA, nB, nC]
              refine wpU_take 4 (some 136) (v := ?_) rfl rfl (by kernel_rfl) (fun _ _ _ h => h) rfl (fun x hx => ?_) ?_
              rotate_left 1
              · obtain ⟨m0, m1, m2, m8, m9, m10, m11⟩ := cells_m (hx.has HI7.out.blk); go_simp; first | done | with_reducible rfl | rw [if_neg (by omega)] | rw [if_pos (by omega)]
              simp only [Act.put, nA, nB, nC]
              refine wpU_take 5 (some 137) (v := ?_) rfl rfl (by kernel_rfl) (fun _ _ _ h => h) rfl (fun x hx => ?_) ?_
              rotate_left 1
              · go_simp; first | done | with_reducible rfl | rw [if_neg (by omega)] | rw [if_pos (by omega)]
              simp only [Act.put, nA, nB, nC]
              refine wpU_take 6 (some 138) (v := ?_) rfl rfl (by kernel_rfl) (fun _ _ _ h => h) rfl (fun x hx => ?_) ?_
              rotate_left 1
              · go_simp; first | done | with_reducible rfl | rw [if_neg (by omega)] | rw [if_pos (by omega)]
              simp only [Act.put, nA, nB, nC]
              refine wpU_take 7 (some 139) (v := ?_) rfl rfl (by kernel_rfl) (fun _ _ _ h => h) rfl (fun x hx => ?_) ?_
              rotate_left 1
              · go_simp; first | done | with_reducible rfl | rw [if_neg (by omega)] | rw [if_pos (by omega)]
              simp only [Act.put, nA, nB, nC]
              refine wpU_take 8 (some 140) (v := ?_) rfl rfl (by kernel_rfl) (fun _ _ _ h => h) rfl (fun x hx => ?_) ?_
              rotate_left 1
              · obtain ⟨m0, m1, m2, m8, m9, m10, m11⟩ := cells_m (hx.has HI7.out.blk); go_simp; first | done | with_reducible rfl | rw [if_neg (by omega)] | rw [if_pos (by omega)]
              simp only [Act.put, nA, nB, nC]
              refine wpU_take 9 (some 141) (v := ?_) rfl rfl (by kernel_rfl) (fun _ _ _ h => h) rfl (fun x hx => ?_) ?_
              rotate_left 1
              · go_simp; first | done | with_reducible rfl | rw [if_neg (by omega)] | rw [if_pos (by omega)]
              simp only [Act.put, nA, nB, nC]
              refine wpU_take 10 (some 142) (v := ?_) rfl rfl (by kernel_rfl) (fun _ _ _ h => h) rfl (fun x hx => ?_) ?_
              rotate_left 1
              · go_simp; first | done | with_reducible rfl | rw [if_neg (by omega)] | rw [if_pos (by omega)]
              simp only [Act.put, nA, nB, nC]
              refine wpU_take 11 (some 143) (v := ?_) rfl rfl (by kernel_rfl) (fun _ _ _ h => h) rfl (fun x hx => ?_) ?_
              rotate_left 1
              · go_simp; first | done | with_reducible rfl | rw [if_neg (by omega)] | rw [if_pos (by omega)]
              simp only [Act.put, nA, nB, nC]
              refine wpU_take 12 (some 144) (v := ?_) rfl rfl (by kernel_rfl) (fun _ _ _ h => h) rfl (fun x hx => ?_) ?_
              rotate_left 1
              · go_simp; first | done | with_reducible rfl | rw [if_neg (by omega)] | rw [if_pos (by omega)]
              simp only [Act.put, nA, nB, nC]
              refine wpU_take 13 (some 145) (v := ?_) rfl rfl (by kernel_rfl) (fun _ _ _ h => h) rfl (fun x hx => ?_) ?_
              rotate_left 1
              · go_simp; first | done | with_reducible rfl | rw [if_neg (by omega)] | rw [if_pos (by omega)]
              simp only [Act.put, nA, nB, nC]
              refine wpU_last [_] (by kernel_rfl) rfl rfl ?_
              simp only [List.getElem_toArray, List.getElem_cons_succ, List.getElem_cons_zero]
              obtain ⟨a8, b8, hab, _, _, hI8⟩ := HI7.out.pop HCS.out
              have HI8 := Lib.hid hI8
              have hCM : ¬ w5.heap.size = M := ne_of_type HC7.out HI7.out.blk (by decide)
              have hMC : ¬ M = w5.heap.size := fun e => hCM e.symm
              clear hab hI8
              obtain ⟨m0, m1, m2, m8, m9, m10, m11⟩ := cells_m HI7.out.blk
              obtain ⟨c0, c1, c2, c3⟩ := cells_c HC7.out
              have f11 := frozen_of_row w7 M 11 _ _ HI7.out.blk
              go_wp2_with fail
              clear m0 m1 m2 m8 m9 m10 m11 c0 c1 c2 c3 f11
              -- region 19: 12 operations, the last [11]
              refine wpU_begin [11] [] (by kernel_rfl) (fun w9 hw9 => ?_)
              have HI9 := Lib.hid (HI8.out.later (drew_later hw9))
              have HB9 := Lib.hid ((drew_later hw9).has (heap_set_other HB7.out hRM))
              clear hw9
              refine wpU_take 0 (some 148) (v := ?_) rfl rfl (by kernel_rfl) (fun _ _ _ h => h) rfl (fun x hx => ?_) ?_
              rotate_left 1
              · go_simp; first | done | with_reducible rfl | rw [if_neg (by omega)] | rw [if_pos (by omega)]
              simp only [Act.put, nA, nB, nC]
              refine wpU_take 1 (some 149) (v := ?_) rfl rfl (by kernel_rfl) (fun _ _ _ h => h) rfl (fun x hx => ?_) ?_
              rotate_left 1
              · go_simp; first | done | with_reducible rfl | rw [if_neg (by omega)] | rw [if_pos (by omega)]
              simp only [Act.put, nA, nB, nC]
              refine wpU_take 2 (some 150) (v := ?_) rfl rfl (by kernel_rfl) (fun _ _ _ h => h) rfl (fun x hx => ?_) ?_
              rotate_left 1
              · go_simp; first | done | with_reducible rfl | rw [if_neg (by omega)] | rw [if_pos (by omega)]
              simp only [Act.put, nA, nB, nC]
              refine wpU_take 3 (some 151) (v := ?_) rfl rfl (by kernel_rfl) (fun _ _ _ h => h) rfl (fun x hx => ?_) ?_
              rotate_left 1
              · go_simp; first | done | with_reducible rfl | rw [if_neg (by omega)] | rw [if_pos (by omega)]
              simp only [Act.put, nA, nB, nC]
              refine wpU_take 4 (some 152) (v := ?_) rfl rfl (by kernel_rfl) (fun _ _ _ h => h) rfl (fun x hx => ?_) ?_
              rotate_left 1
              · obtain ⟨m0, m1, m2, m8, m9, m10, m11⟩ := cells_m (hx.has HI9.out.blk); go_simp; first | done | with_reducible rfl | rw [if_neg (by omega)] | rw [if_pos (by omega)]
              simp only [Act.put, nA, nB, nC]
              refine wpU_take 5 (some 153) (v := ?_) rfl rfl (by kernel_rfl) (fun _ _ _ h => h) rfl (fun x hx => ?_) ?_
              rotate_left 1
              · go_simp; first | done | with_reducible rfl | rw [if_neg (by omega)] | rw [if_pos (by omega)]
              simp only [Act.put, nA, nB, nC]
              refine wpU_take 6 (some 154) (v := ?_) rfl rfl (by kernel_rfl) (fun _ _ _ h => h) rfl (fun x hx => ?_) ?_
              rotate_left 1
              · go_simp; first | done | with_reducible rfl | rw [if_neg (by omega)] | rw [if_pos (by omega)]
              simp only [Act.put, nA, nB, nC]
              refine wpU_take 7 (some 155) (v := ?_) rfl rfl (by kernel_rfl) (fun _ _ _ h => h) rfl (fun x hx => ?_) ?_
              rotate_left 1
              · go_simp; first | done | with_reducible rfl | rw [if_neg (by omega)] | rw [if_pos (by omega)]
              simp only [Act.put, nA, nB, nC]
              refine wpU_take 8 (some 156) (v := ?_) rfl rfl (by kernel_rfl) (fun _ _ _ h => h) rfl (fun x hx => ?_) ?_
              rotate_left 1
              · go_simp; first | done | with_reducible rfl | rw [if_neg (by omega)] | rw [if_pos (by omega)]
              simp only [Act.put, nA, nB, nC]
              refine wpU_take 9 (some 157) (v := ?_) rfl rfl (by kernel_rfl) (fun _ _ _ h => h) rfl (fun x hx => ?_) ?_
              rotate_left 1
              · obtain ⟨m0, m1, m2, m8, m9, m10, m11⟩ := cells_m (hx.has HI9.out.blk); go_simp; first | done | with_reducible rfl | rw [if_neg (by omega)] | rw [if_pos (by omega)]
              simp only [Act.put, nA, nB, nC]
              refine wpU_take 10 (some 158) (v := ?_) rfl rfl (by kernel_rfl) (fun _ _ _ h => h) rfl (fun x hx => ?_) ?_
              rotate_left 1
              · go_simp; first | done | with_reducible rfl | rw [if_neg (by omega)] | rw [if_pos (by omega)]
              simp only [Act.put, nA, nB, nC]
              refine wpU_last [_] (by kernel_rfl) rfl rfl ?_
              simp only [List.getElem_toArray, List.getElem_cons_succ, List.getElem_cons_zero]
              obtain ⟨r0, r1, r2, r3, r4, r5, r6, r7⟩ := cells_r HB9.out
              obtain ⟨f0, f1, f2, f3, f4, f5, f6, f7⟩ := frozen_r HB9.out
              go_wp2_with fail
              refine bodyPost_ret (v := matchV ⟨false, true, false, 0, n + 1, [], m.events⟩ 0 (.slice none 0 0) (.slice eA4 m.events.length ec4)) (by simp [results, Try.results11, go_sem, r0, r1, r2, r3, r4, r5, r6, r7]) rfl ?_
              rw [← HPL.out]
              exact matchIs_mk (r := ⟨false, true, false, 0, n + 1, [], m.events⟩) (fr := 0) HL2.out (HasRow.nil _ _ _ _) HI9.out.evs (.inl rfl) HI9.out.below HB9.out hwz (((((((((OnlyAt.refl _ _).set _ _).set _ _).set _ _).set _ _).set _ _).set _ _).set _ _).set _ _)
            · rw [if_neg (by simp [hst4])] at HPL
              obtain ⟨pp, rfl⟩ := hG4.ptr
              have HG4 := Lib.hid hG4
              clear hG4
              rcases HI4.out.caps.2 with ⟨hcv, hB⟩ | ⟨g9, cap9, cur9, hcv, _, _, hcl, _, _⟩
              · obtain ⟨hA, _, hC⟩ : cA4 = none ∧ m.caps.length = 0 ∧ cc4 = 0 := by simpa using hcv
                subst hA hC
                rw [hB] at HI4
                have hnc0 : c.ncap = 0 := by omega
                clear hcv
                -- region 16: 14 operations, the last [13]
                refine wpU_begin [13] [] (by kernel_rfl) (fun w5 hw5 => ?_)
                have hl5 := drew_later hw5
                have HI5 := Lib.hid (HI4.out.later hl5)
                have HB5 := Lib.hid (hl5.has HB4.out)
                have HG5 := Lib.hid (HG4.out.later hl5)
                clear hw5 hl5
                refine wpU_take 0 (some 120) (v := ?_) rfl rfl (by kernel_rfl) (fun _ _ _ h => h) rfl (fun x hx => ?_) ?_
                rotate_left 1
                · go_simp; first | done | with_reducible rfl | rw [if_neg (by omega)] | rw [if_pos (by omega)]
                simp only [Act.put, nA, nB, nC]
                refine wpU_take 1 (some 121) (v := ?_) rfl rfl (by kernel_rfl) (fun _ _ _ h => h) rfl (fun x hx => ?_) ?_
                rotate_left 1
                · go_simp; first | done | with_reducible rfl | rw [if_neg (by omega)] | rw [if_pos (by omega)]
                simp only [Act.put, nA, nB, nC]
                refine wpU_take 2 (some 122) (v := ?_) rfl rfl (by kernel_rfl) (fun _ _ _ h => h) rfl (fun x hx => ?_) ?_
                rotate_left 1
                · go_simp; first | done | with_reducible rfl | rw [if_neg (by omega)] | rw [if_pos (by omega)]
                simp only [Act.put, nA, nB, nC]
                refine wpU_take 3 (some 123) (v := ?_) rfl rfl (by kernel_rfl) (fun _ _ _ h => h) rfl (fun x hx => ?_) ?_
                rotate_left 1
                · obtain ⟨m0, m1, m2, m8, m9, m10, m11⟩ := cells_m (hx.has HI5.out.blk); obtain ⟨c0, c1, c2, c3⟩ := top_cells HI5.out HLA.out hx; go_simp; first | done | with_reducible rfl | rw [if_neg (by omega)] | rw [if_pos (by omega)]
                simp only [Act.put, nA, nB, nC]
                refine wpU_take 4 (some 124) (v := ?_) rfl rfl (by kernel_rfl) (fun _ _ _ h => h) rfl (fun x hx => ?_) ?_
                rotate_left 1
                · go_simp; first | done | with_reducible rfl | rw [if_neg (by omega)] | rw [if_pos (by omega)]
                simp only [Act.put, nA, nB, nC]
                refine wpU_take 5 (some 125) (v := ?_) rfl rfl (by kernel_rfl) (fun _ _ _ h => h) rfl (fun x hx => ?_) ?_
                rotate_left 1
                · go_simp; first | done | with_reducible rfl | rw [if_neg (by omega)] | rw [if_pos (by omega)]
                simp only [Act.put, nA, nB, nC]
                refine wpU_take 6 (some 126) (v := ?_) rfl rfl (by kernel_rfl) (fun _ _ _ h => h) rfl (fun x hx => ?_) ?_
                rotate_left 1
                · go_simp; first | done | with_reducible rfl | rw [if_neg (by omega)] | rw [if_pos (by omega)]
                simp only [Act.put, nA, nB, nC]
                refine wpU_take 7 (some 127) (v := ?_) rfl rfl (by kernel_rfl) (fun _ _ _ h => h) rfl (fun x hx => ?_) ?_
                rotate_left 1
                · obtain ⟨m0, m1, m2, m8, m9, m10, m11⟩ := cells_m (hx.has HI5.out.blk); obtain ⟨c0, c1, c2, c3⟩ := top_cells HI5.out HLA.out hx; go_simp; first | done | with_reducible rfl | rw [if_neg (by omega)] | rw [if_pos (by omega)]
                simp only [Act.put, nA, nB, nC]
                refine wpU_take 8 (some 128) (v := ?_) rfl rfl (by kernel_rfl) (fun _ _ _ h => h) rfl (fun x hx => ?_) ?_
                rotate_left 1
                · go_simp; first | done | with_reducible rfl | rw [if_neg (by omega)] | rw [if_pos (by omega)]
                simp only [Act.put, nA, nB, nC]
                refine wpU_take 9 (some 129) (v := ?_) rfl rfl (by kernel_rfl) (fun _ _ _ h => h) rfl (fun x hx => ?_) ?_
                rotate_left 1
                · go_simp; first | done | with_reducible rfl | rw [if_neg (by omega)] | rw [if_pos (by omega)]
                simp only [Act.put, nA, nB, nC]
                refine wpU_take 10 (some 130) (v := ?_) rfl rfl (by kernel_rfl) (fun _ _ _ h => h) rfl (fun x hx => ?_) ?_
                rotate_left 1
                · go_simp; first | done | with_reducible rfl | rw [if_neg (by omega)] | rw [if_pos (by omega)]
                simp only [Act.put, nA, nB, nC]
                refine wpU_take 11 (some 131) (v := ?_) rfl rfl (by kernel_rfl) (fun _ _ _ h => h) rfl (fun x hx => ?_) ?_
                rotate_left 1
                · obtain ⟨m0, m1, m2, m8, m9, m10, m11⟩ := cells_m (hx.has HI5.out.blk); obtain ⟨c0, c1, c2, c3⟩ := top_cells HI5.out HLA.out hx; go_simp; first | done | with_reducible rfl | rw [if_neg (by omega)] | rw [if_pos (by omega)]
                simp only [Act.put, nA, nB, nC]
                refine wpU_step 12 (by kernel_rfl) rfl rfl ?_  -- alloc 
                go_wp2_with fail
                refine ⟨(Later.refl _).alloc _, ?_⟩
                refine wpU_last [_] (by kernel_rfl) rfl rfl ?_
                simp only [List.getElem_toArray, List.getElem_cons_succ, List.getElem_cons_zero]
                go_wp2_with fail
                -- region 17: 15 operations, the last [14]
                refine wpU_begin [14] [] (by kernel_rfl) (fun w7 hw7 => ?_)
                obtain ⟨hl7, hC7⟩ := drew_alloc hw7
                have HI7 := Lib.hid (HI5.out.later hl7)
                have HC7 := Lib.hid hC7
                have HB7 := Lib.hid (hl7.has HB5.out)
                have HG7 := Lib.hid (HG5.out.later hl7)
                clear hw7 hl7 hC7
                refine wpU_take 0 (some 132) (v := ?_) rfl rfl (by kernel_rfl) (fun _ _ _ h => h) rfl (fun x hx => ?_) ?_
                rotate_left 1
                · go_simp; first | done | with_reducible rfl | rw [if_neg (by omega)] | rw [if_pos (by omega)]
                simp only [Act.put, nA, nB, nC]
                refine wpU_take 1 (some 133) (v := ?_) rfl rfl (by kernel_rfl) (fun _ _ _ h => h) rfl (fun x hx => ?_) ?_
                rotate_left 1
                · go_simp; first | done | with_reducible rfl | rw [if_neg (by omega)] | rw [if_pos (by omega)]
                simp only [Act.put, nA, nB, nC]
                refine wpU_take 2 (some 134) (v := ?_) rfl rfl (by kernel_rfl) (fun _ _ _ h => h) rfl (fun x hx => ?_) ?_
                rotate_left 1
                · go_simp; first | done | with_reducible rfl | rw [if_neg (by omega)] | rw [if_pos (by omega)]
                simp only [Act.put, nA, nB, nC]
                refine wpU_take 3 (some 135) (v := ?_) rfl rfl (by kernel_rfl) (fun _ _ _ h => h) rfl (fun x hx => ?_) ?_
                rotate_left 1
                · go_simp; first | done | with_reducible rfl | rw [if_neg (by omega)] | rw [if_pos (by omega)]
                simp only [Act.put, nA, nB, nC]
                refine wpU_take 4 (some 136) (v := ?_) rfl rfl (by kernel_rfl) (fun _ _ _ h => h) rfl (fun x hx => ?_) ?_
                rotate_left 1
                · obtain ⟨m0, m1, m2, m8, m9, m10, m11⟩ := cells_m (hx.has HI7.out.blk); go_simp; first | done | with_reducible rfl | rw [if_neg (by omega)] | rw [if_pos (by omega)]
                simp only [Act.put, nA, nB, nC]
                refine wpU_take 5 (some 137) (v := ?_) rfl rfl (by kernel_rfl) (fun _ _ _ h => h) rfl (fun x hx => ?_) ?_
                rotate_left 1
                · go_simp; first | done | with_reducible rfl | rw [if_neg (by omega)] | rw [if_pos (by omega)]
                simp only [Act.put, nA, nB, nC]
                refine wpU_take 6 (some 138) (v := ?_) rfl rfl (by kernel_rfl) (fun _ _ _ h => h) rfl (fun x hx => ?_) ?_
                rotate_left 1
                · go_simp; first | done | with_reducible rfl | rw [if_neg (by omega)] | rw [if_pos (by omega)]
                simp only [Act.put, nA, nB, nC]
                refine wpU_take 7 (some 139) (v := ?_) rfl rfl (by kernel_rfl) (fun _ _ _ h => h) rfl (fun x hx => ?_) ?_
                rotate_left 1
                · go_simp; first | done | with_reducible rfl | rw [if_neg (by omega)] | rw [if_pos (by omega)]
                simp only [Act.put, nA, nB, nC]
                refine wpU_take 8 (some 140) (v := ?_) rfl rfl (by kernel_rfl) (fun _ _ _ h => h) rfl (fun x hx => ?_) ?_
                rotate_left 1
                · obtain ⟨m0, m1, m2, m8, m9, m10, m11⟩ := cells_m (hx.has HI7.out.blk); go_simp; first | done | with_reducible rfl | rw [if_neg (by omega)] | rw [if_pos (by omega)]
                simp only [Act.put, nA, nB, nC]
                refine wpU_take 9 (some 141) (v := ?_) rfl rfl (by kernel_rfl) (fun _ _ _ h => h) rfl (fun x hx => ?_) ?_
                rotate_left 1
                · go_simp; first | done | with_reducible rfl | rw [if_neg (by omega)] | rw [if_pos (by omega)]
                simp only [Act.put, nA, nB, nC]
                refine wpU_take 10 (some 142) (v := ?_) rfl rfl (by kernel_rfl) (fun _ _ _ h => h) rfl (fun x hx => ?_) ?_
                rotate_left 1
                · go_simp; first | done | with_reducible rfl | rw [if_neg (by omega)] | rw [if_pos (by omega)]
                simp only [Act.put, nA, nB, nC]
                refine wpU_take 11 (some 143) (v := ?_) rfl rfl (by kernel_rfl) (fun _ _ _ h => h) rfl (fun x hx => ?_) ?_
                rotate_left 1
                · go_simp; first | done | with_reducible rfl | rw [if_neg (by omega)] | rw [if_pos (by omega)]
                simp only [Act.put, nA, nB, nC]
                refine wpU_take 12 (some 144) (v := ?_) rfl rfl (by kernel_rfl) (fun _ _ _ h => h) rfl (fun x hx => ?_) ?_
                rotate_left 1
                · go_simp; first | done | with_reducible rfl | rw [if_neg (by omega)] | rw [if_pos (by omega)]
                simp only [Act.put, nA, nB, nC]
                refine wpU_take 13 (some 145) (v := ?_) rfl rfl (by kernel_rfl) (fun _ _ _ h => h) rfl (fun x hx => ?_) ?_
                rotate_left 1
                · go_simp; first | done | with_reducible rfl | rw [if_neg (by omega)] | rw [if_pos (by omega)]
                simp only [Act.put, nA, nB, nC]
                refine wpU_last [_] (by kernel_rfl) rfl rfl ?_
                simp only [List.getElem_toArray, List.getElem_cons_succ, List.getElem_cons_zero]
                obtain ⟨a8, b8, hab, _, _, hI8⟩ := HI7.out.pop HCS.out
                have HI8 := Lib.hid hI8
                have hCM : ¬ w5.heap.size = M := ne_of_type HC7.out HI7.out.blk (by decide)
                have hMC : ¬ M = w5.heap.size := fun e => hCM e.symm
                clear hab hI8
                obtain ⟨m0, m1, m2, m8, m9, m10, m11⟩ := cells_m HI7.out.blk
                obtain ⟨c0, c1, c2, c3⟩ := cells_c HC7.out
                have f11 := frozen_of_row w7 M 11 _ _ HI7.out.blk
                have f2 := frozen_of_row w7 M 2 _ _ HI7.out.blk
                go_wp2_with fail
                clear m0 m1 m2 m8 m9 m10 m11 c0 c1 c2 c3 f11 f2
                -- region 22: 15 operations, the last [14]
                refine wpU_begin [14] [] (by kernel_rfl) (fun w9 hw9 => ?_)
                have HI9 := Lib.hid ((HI8.out.setAt c.at_).later (drew_later hw9))
                have HC9 := Lib.hid ((drew_later hw9).has (heap_set_other (k := 2) (heap_set_other (k := 11) HC7.out hCM) hCM))
                have HG9 := Lib.hid (((HG7.out.keep (HI7.out.keepSet 11 _) _ _).keep (HI8.out.keepSet 2 _) _ _).later (drew_later hw9))
                clear hw9
                refine wpU_take 0 (some 166) (v := ?_) rfl rfl (by kernel_rfl) (fun _ _ _ h => h) rfl (fun x hx => ?_) ?_
                rotate_left 1
                · go_simp; first | done | with_reducible rfl | rw [if_neg (by omega)] | rw [if_pos (by omega)]
                simp only [Act.put, nA, nB, nC]
                refine wpU_take 1 (some 167) (v := ?_) rfl rfl (by kernel_rfl) (fun _ _ _ h => h) rfl (fun x hx => ?_) ?_
                rotate_left 1
                · go_simp; first | done | with_reducible rfl | rw [if_neg (by omega)] | rw [if_pos (by omega)]
                simp only [Act.put, nA, nB, nC]
                refine wpU_take 2 (some 168) (v := ?_) rfl rfl (by kernel_rfl) (fun _ _ _ h => h) rfl (fun x hx => ?_) ?_
                rotate_left 1
                · go_simp; first | done | with_reducible rfl | rw [if_neg (by omega)] | rw [if_pos (by omega)]
                simp only [Act.put, nA, nB, nC]
                refine wpU_take 3 (some 169) (v := ?_) rfl rfl (by kernel_rfl) (fun _ _ _ h => h) rfl (fun x hx => ?_) ?_
                rotate_left 1
                · go_simp; first | done | with_reducible rfl | rw [if_neg (by omega)] | rw [if_pos (by omega)]
                simp only [Act.put, nA, nB, nC]
                refine wpU_take 4 (some 170) (v := ?_) rfl rfl (by kernel_rfl) (fun _ _ _ h => h) rfl (fun x hx => ?_) ?_
                rotate_left 1
                · go_simp; first | done | with_reducible rfl | rw [if_neg (by omega)] | rw [if_pos (by omega)]
                simp only [Act.put, nA, nB, nC]
                refine wpU_take 5 (some 171) (v := ?_) rfl rfl (by kernel_rfl) (fun _ _ _ h => h) rfl (fun x hx => ?_) ?_
                rotate_left 1
                · obtain ⟨m0, m1, m2, m8, m9, m10, m11⟩ := cells_m (hx.has HI9.out.blk); obtain ⟨c0, c1, c2, c3⟩ := cells_c (hx.has HC9.out); go_simp; first | done | with_reducible rfl | rw [if_neg (by omega)] | rw [if_pos (by omega)]
                simp only [Act.put, nA, nB, nC]
                refine wpU_take 6 (some 172) (v := ?_) rfl rfl (by kernel_rfl) (fun _ _ _ h => h) rfl (fun x hx => ?_) ?_
                rotate_left 1
                · go_simp; first | done | with_reducible rfl | rw [if_neg (by omega)] | rw [if_pos (by omega)]
                simp only [Act.put, nA, nB, nC]
                refine wpU_take 7 (some 173) (v := ?_) rfl rfl (by kernel_rfl) (fun _ _ _ h => h) rfl (fun x hx => ?_) ?_
                rotate_left 1
                · obtain ⟨m0, m1, m2, m8, m9, m10, m11⟩ := cells_m (hx.has HI9.out.blk); obtain ⟨c0, c1, c2, c3⟩ := cells_c (hx.has HC9.out); go_simp; first | done | with_reducible rfl | rw [if_neg (by omega)] | rw [if_pos (by omega)]
                simp only [Act.put, nA, nB, nC]
                refine wpU_take 8 (some 174) (v := ?_) rfl rfl (by kernel_rfl) (fun _ _ _ h => h) rfl (fun x hx => ?_) ?_
                rotate_left 1
                · go_simp; first | done | with_reducible rfl | rw [if_neg (by omega)] | rw [if_pos (by omega)]
                simp only [Act.put, nA, nB, nC]
                refine wpU_take 9 (some 175) (v := ?_) rfl rfl (by kernel_rfl) (fun _ _ _ h => h) rfl (fun x hx => ?_) ?_
                rotate_left 1
                · obtain ⟨m0, m1, m2, m8, m9, m10, m11⟩ := cells_m (hx.has HI9.out.blk); obtain ⟨c0, c1, c2, c3⟩ := cells_c (hx.has HC9.out); go_simp; first | done | with_reducible rfl | rw [if_neg (by omega)] | rw [if_pos (by omega)]
                simp only [Act.put, nA, nB, nC]
                refine wpU_take 10 (some 176) (v := ?_) rfl rfl (by kernel_rfl) (fun _ _ _ h => h) rfl (fun x hx => ?_) ?_
                rotate_left 1
                · go_simp; first | done | with_reducible rfl | rw [if_neg (by omega)] | rw [if_pos (by omega)]
                simp only [Act.put, nA, nB, nC]
                refine wpU_take 11 (some 177) (v := ?_) rfl rfl (by kernel_rfl) (fun _ _ _ h => h) rfl (fun x hx => ?_) ?_
                rotate_left 1
                · go_simp; first | done | with_reducible rfl | rw [if_neg (by omega)] | rw [if_pos (by omega)]
                simp only [Act.put, nA, nB, nC]
                refine wpU_take 12 (some 178) (v := ?_) rfl rfl (by kernel_rfl) (fun _ _ _ h => h) rfl (fun x hx => ?_) ?_
                rotate_left 1
                · go_simp; first | done | with_reducible rfl | rw [if_neg (by omega)] | rw [if_pos (by omega)]
                simp only [Act.put, nA, nB, nC]
                refine wpU_take 13 (some 179) (v := ?_) rfl rfl (by kernel_rfl) (fun _ _ _ h => h) rfl (fun x hx => ?_) ?_
                rotate_left 1
                · go_simp; first | done | with_reducible rfl | rw [if_neg (by omega)] | rw [if_pos (by omega)]
                simp only [Act.put, nA, nB, nC]
                refine wpU_last [_] (by kernel_rfl) rfl rfl ?_
                simp only [List.getElem_toArray, List.getElem_cons_succ, List.getElem_cons_zero]
                have f9 := frozen_of_row w9 M 9 _ _ HI9.out.blk
                obtain ⟨m0, m1, m2, m8, m9, m10, m11⟩ := cells_m HI9.out.blk
                have HI10 := Lib.hid (HI9.out.cut_nil (k := c.ncap) hB hnc0)
                go_wp2_with fail
                go_roundg k
                case measure => omega
                case rel => exact ⟨n + 1, c.goals, ⟨c.at_, m.caps.take c.ncap, m.events, cs⟩, _, _, _, _, by omega, HG9.out.keep (HI9.out.keepSet 9 _) _ _, HI10.out, HK.out.pop HCS.out, HPL.out⟩
              · obtain ⟨hA, hC⟩ : cA4 = some ⟨g9, 0, none⟩ ∧ cc4 = cap9 := by simpa using hcv
                subst hA hC
                have hx1 : c.ncap ≤ cc4 := by omega
                clear hcv
                -- region 16: 14 operations, the last [13]
                refine wpU_begin [13] [] (by kernel_rfl) (fun w5 hw5 => ?_)
                have hl5 := drew_later hw5
                have HI5 := Lib.hid (HI4.out.later hl5)
                have HB5 := Lib.hid (hl5.has HB4.out)
                have HG5 := Lib.hid (HG4.out.later hl5)
                clear hw5 hl5
                refine wpU_take 0 (some 120) (v := ?_) rfl rfl (by kernel_rfl) (fun _ _ _ h => h) rfl (fun x hx => ?_) ?_
                rotate_left 1
                · go_simp; first | done | with_reducible rfl | rw [if_neg (by omega)] | rw [if_pos (by omega)]
                simp only [Act.put, nA, nB, nC]
                refine wpU_take 1 (some 121) (v := ?_) rfl rfl (by kernel_rfl) (fun _ _ _ h => h) rfl (fun x hx => ?_) ?_
                rotate_left 1
                · go_simp; first | done | with_reducible rfl | rw [if_neg (by omega)] | rw [if_pos (by omega)]
                simp only [Act.put, nA, nB, nC]
                refine wpU_take 2 (some 122) (v := ?_) rfl rfl (by kernel_rfl) (fun _ _ _ h => h) rfl (fun x hx => ?_) ?_
                rotate_left 1
                · go_simp; first | done | with_reducible rfl | rw [if_neg (by omega)] | rw [if_pos (by omega)]
                simp only [Act.put, nA, nB, nC]
                refine wpU_take 3 (some 123) (v := ?_) rfl rfl (by kernel_rfl) (fun _ _ _ h => h) rfl (fun x hx => ?_) ?_
                rotate_left 1
                · obtain ⟨m0, m1, m2, m8, m9, m10, m11⟩ := cells_m (hx.has HI5.out.blk); obtain ⟨c0, c1, c2, c3⟩ := top_cells HI5.out HLA.out hx; go_simp; first | done | with_reducible rfl | rw [if_neg (by omega)] | rw [if_pos (by omega)]
                simp only [Act.put, nA, nB, nC]
                refine wpU_take 4 (some 124) (v := ?_) rfl rfl (by kernel_rfl) (fun _ _ _ h => h) rfl (fun x hx => ?_) ?_
                rotate_left 1
                · go_simp; first | done | with_reducible rfl | rw [if_neg (by omega)] | rw [if_pos (by omega)]
                simp only [Act.put, nA, nB, nC]
                refine wpU_take 5 (some 125) (v := ?_) rfl rfl (by kernel_rfl) (fun _ _ _ h => h) rfl (fun x hx => ?_) ?_
                rotate_left 1
                · go_simp; first | done | with_reducible rfl | rw [if_neg (by omega)] | rw [if_pos (by omega)]
                simp only [Act.put, nA, nB, nC]
                refine wpU_take 6 (some 126) (v := ?_) rfl rfl (by kernel_rfl) (fun _ _ _ h => h) rfl (fun x hx => ?_) ?_
                rotate_left 1
                · go_simp; first | done | with_reducible rfl | rw [if_neg (by omega)] | rw [if_pos (by omega)]
                simp only [Act.put, nA, nB, nC]
                refine wpU_take 7 (some 127) (v := ?_) rfl rfl (by kernel_rfl) (fun _ _ _ h => h) rfl (fun x hx => ?_) ?_
                rotate_left 1
                · obtain ⟨m0, m1, m2, m8, m9, m10, m11⟩ := cells_m (hx.has HI5.out.blk); obtain ⟨c0, c1, c2, c3⟩ := top_cells HI5.out HLA.out hx; go_simp; first | done | with_reducible rfl | rw [if_neg (by omega)] | rw [if_pos (by omega)]
                simp only [Act.put, nA, nB, nC]
                refine wpU_take 8 (some 128) (v := ?_) rfl rfl (by kernel_rfl) (fun _ _ _ h => h) rfl (fun x hx => ?_) ?_
                rotate_left 1
                · go_simp; first | done | with_reducible rfl | rw [if_neg (by omega)] | rw [if_pos (by omega)]
                simp only [Act.put, nA, nB, nC]
                refine wpU_take 9 (some 129) (v := ?_) rfl rfl (by kernel_rfl) (fun _ _ _ h => h) rfl (fun x hx => ?_) ?_
                rotate_left 1
                · go_simp; first | done | with_reducible rfl | rw [if_neg (by omega)] | rw [if_pos (by omega)]
                simp only [Act.put, nA, nB, nC]
                refine wpU_take 10 (some 130) (v := ?_) rfl rfl (by kernel_rfl) (fun _ _ _ h => h) rfl (fun x hx => ?_) ?_
                rotate_left 1
                · go_simp; first | done | with_reducible rfl | rw [if_neg (by omega)] | rw [if_pos (by omega)]
                simp only [Act.put, nA, nB, nC]
                refine wpU_take 11 (some 131) (v := ?_) rfl rfl (by kernel_rfl) (fun _ _ _ h => h) rfl (fun x hx => ?_) ?_
                rotate_left 1
                · obtain ⟨m0, m1, m2, m8, m9, m10, m11⟩ := cells_m (hx.has HI5.out.blk); obtain ⟨c0, c1, c2, c3⟩ := top_cells HI5.out HLA.out hx; go_simp; first | done | with_reducible rfl | rw [if_neg (by omega)] | rw [if_pos (by omega)]
                simp only [Act.put, nA, nB, nC]
                refine wpU_step 12 (by kernel_rfl) rfl rfl ?_  -- alloc 
                go_wp2_with fail
                refine ⟨(Later.refl _).alloc _, ?_⟩
                refine wpU_last [_] (by kernel_rfl) rfl rfl ?_
                simp only [List.getElem_toArray, List.getElem_cons_succ, List.getElem_cons_zero]
                go_wp2_with fail
                -- region 17: 15 operations, the last [14]
                refine wpU_begin [14] [] (by kernel_rfl) (fun w7 hw7 => ?_)
                obtain ⟨hl7, hC7⟩ := drew_alloc hw7
                have HI7 := Lib.hid (HI5.out.later hl7)
                have HC7 := Lib.hid hC7
                have HB7 := Lib.hid (hl7.has HB5.out)
                have HG7 := Lib.hid (HG5.out.later hl7)
                clear hw7 hl7 hC7
                refine wpU_take 0 (some 132) (v := ?_) rfl rfl (by kernel_rfl) (fun _ _ _ h => h) rfl (fun x hx => ?_) ?_
                rotate_left 1
                · go_simp; first | done | with_reducible rfl | rw [if_neg (by omega)] | rw [if_pos (by omega)]
                simp only [Act.put, nA, nB, nC]
                refine wpU_take 1 (some 133) (v := ?_) rfl rfl (by kernel_rfl) (fun _ _ _ h => h) rfl (fun x hx => ?_) ?_
                rotate_left 1
                · go_simp; first | done | with_reducible rfl | rw [if_neg (by omega)] | rw [if_pos (by omega)]
                simp only [Act.put, nA, nB, nC]
                refine wpU_take 2 (some 134) (v := ?_) rfl rfl (by kernel_rfl) (fun _ _ _ h => h) rfl (fun x hx => ?_) ?_
                rotate_left 1
                · go_simp; first | done | with_reducible rfl | rw [if_neg (by omega)] | rw [if_pos (by omega)]
                simp only [Act.put, nA, nB, nC]
                refine wpU_take 3 (some 135) (v := ?_) rfl rfl (by kernel_rfl) (fun _ _ _ h => h) rfl (fun x hx => ?_) ?_
                rotate_left 1
                · go_simp; first | done | with_reducible rfl | rw [if_neg (by omega)] | rw [if_pos (by omega)]
                simp only [Act.put, nA, nB, nC]
                refine wpU_take 4 (some 136) (v := ?_) rfl rfl (by kernel_rfl) (fun _ _ _ h => h) rfl (fun x hx => ?_) ?_
                rotate_left 1
                · obtain ⟨m0, m1, m2, m8, m9, m10, m11⟩ := cells_m (hx.has HI7.out.blk); go_simp; first | done | with_reducible rfl | rw [if_neg (by omega)] | rw [if_pos (by omega)]
                simp only [Act.put, nA, nB, nC]
                refine wpU_take 5 (some 137) (v := ?_) rfl rfl (by kernel_rfl) (fun _ _ _ h => h) rfl (fun x hx => ?_) ?_
                rotate_left 1
                · go_simp; first | done | with_reducible rfl | rw [if_neg (by omega)] | rw [if_pos (by omega)]
                simp only [Act.put, nA, nB, nC]
                refine wpU_take 6 (some 138) (v := ?_) rfl rfl (by kernel_rfl) (fun _ _ _ h => h) rfl (fun x hx => ?_) ?_
                rotate_left 1
                · go_simp; first | done | with_reducible rfl | rw [if_neg (by omega)] | rw [if_pos (by omega)]
                simp only [Act.put, nA, nB, nC]
                refine wpU_take 7 (some 139) (v := ?_) rfl rfl (by kernel_rfl) (fun _ _ _ h => h) rfl (fun x hx => ?_) ?_
                rotate_left 1
                · go_simp; first | done | with_reducible rfl | rw [if_neg (by omega)] | rw [if_pos (by omega)]
                simp only [Act.put, nA, nB, nC]
                refine wpU_take 8 (some 140) (v := ?_) rfl rfl (by kernel_rfl) (fun _ _ _ h => h) rfl (fun x hx => ?_) ?_
                rotate_left 1
                · obtain ⟨m0, m1, m2, m8, m9, m10, m11⟩ := cells_m (hx.has HI7.out.blk); go_simp; first | done | with_reducible rfl | rw [if_neg (by omega)] | rw [if_pos (by omega)]
                simp only [Act.put, nA, nB, nC]
                refine wpU_take 9 (some 141) (v := ?_) rfl rfl (by kernel_rfl) (fun _ _ _ h => h) rfl (fun x hx => ?_) ?_
                rotate_left 1
                · go_simp; first | done | with_reducible rfl | rw [if_neg (by omega)] | rw [if_pos (by omega)]
                simp only [Act.put, nA, nB, nC]
                refine wpU_take 10 (some 142) (v := ?_) rfl rfl (by kernel_rfl) (fun _ _ _ h => h) rfl (fun x hx => ?_) ?_
                rotate_left 1
                · go_simp; first | done | with_reducible rfl | rw [if_neg (by omega)] | rw [if_pos (by omega)]
                simp only [Act.put, nA, nB, nC]
                refine wpU_take 11 (some 143) (v := ?_) rfl rfl (by kernel_rfl) (fun _ _ _ h => h) rfl (fun x hx => ?_) ?_
                rotate_left 1
                · go_simp; first | done | with_reducible rfl | rw [if_neg (by omega)] | rw [if_pos (by omega)]
                simp only [Act.put, nA, nB, nC]
                refine wpU_take 12 (some 144) (v := ?_) rfl rfl (by kernel_rfl) (fun _ _ _ h => h) rfl (fun x hx => ?_) ?_
                rotate_left 1
                · go_simp; first | done | with_reducible rfl | rw [if_neg (by omega)] | rw [if_pos (by omega)]
                simp only [Act.put, nA, nB, nC]
                refine wpU_take 13 (some 145) (v := ?_) rfl rfl (by kernel_rfl) (fun _ _ _ h => h) rfl (fun x hx => ?_) ?_
                rotate_left 1
                · go_simp; first | done | with_reducible rfl | rw [if_neg (by omega)] | rw [if_pos (by omega)]
                simp only [Act.put, nA, nB, nC]
                refine wpU_last [_] (by kernel_rfl) rfl rfl ?_
                simp only [List.getElem_toArray, List.getElem_cons_succ, List.getElem_cons_zero]
                obtain ⟨a8, b8, hab, _, _, hI8⟩ := HI7.out.pop HCS.out
                have HI8 := Lib.hid hI8
                have hCM : ¬ w5.heap.size = M := ne_of_type HC7.out HI7.out.blk (by decide)
                have hMC : ¬ M = w5.heap.size := fun e => hCM e.symm
                clear hab hI8
                obtain ⟨m0, m1, m2, m8, m9, m10, m11⟩ := cells_m HI7.out.blk
                obtain ⟨c0, c1, c2, c3⟩ := cells_c HC7.out
                have f11 := frozen_of_row w7 M 11 _ _ HI7.out.blk
                have f2 := frozen_of_row w7 M 2 _ _ HI7.out.blk
                go_wp2_with fail
                clear m0 m1 m2 m8 m9 m10 m11 c0 c1 c2 c3 f11 f2
                -- region 22: 15 operations, the last [14]
                refine wpU_begin [14] [] (by kernel_rfl) (fun w9 hw9 => ?_)
                have HI9 := Lib.hid ((HI8.out.setAt c.at_).later (drew_later hw9))
                have HC9 := Lib.hid ((drew_later hw9).has (heap_set_other (k := 2) (heap_set_other (k := 11) HC7.out hCM) hCM))
                have HG9 := Lib.hid (((HG7.out.keep (HI7.out.keepSet 11 _) _ _).keep (HI8.out.keepSet 2 _) _ _).later (drew_later hw9))
                clear hw9
                refine wpU_take 0 (some 166) (v := ?_) rfl rfl (by kernel_rfl) (fun _ _ _ h => h) rfl (fun x hx => ?_) ?_
                rotate_left 1
                · go_simp; first | done | with_reducible rfl | rw [if_neg (by omega)] | rw [if_pos (by omega)]
                simp only [Act.put, nA, nB, nC]
                refine wpU_take 1 (some 167) (v := ?_) rfl rfl (by kernel_rfl) (fun _ _ _ h => h) rfl (fun x hx => ?_) ?_
                rotate_left 1
                · go_simp; first | done | with_reducible rfl | rw [if_neg (by omega)] | rw [if_pos (by omega)]
                simp only [Act.put, nA, nB, nC]
                refine wpU_take 2 (some 168) (v := ?_) rfl rfl (by kernel_rfl) (fun _ _ _ h => h) rfl (fun x hx => ?_) ?_
                rotate_left 1
                · go_simp; first | done | with_reducible rfl | rw [if_neg (by omega)] | rw [if_pos (by omega)]
                simp only [Act.put, nA, nB, nC]
                refine wpU_take 3 (some 169) (v := ?_) rfl rfl (by kernel_rfl) (fun _ _ _ h => h) rfl (fun x hx => ?_) ?_
                rotate_left 1
                · go_simp; first | done | with_reducible rfl | rw [if_neg (by omega)] | rw [if_pos (by omega)]
                simp only [Act.put, nA, nB, nC]
                refine wpU_take 4 (some 170) (v := ?_) rfl rfl (by kernel_rfl) (fun _ _ _ h => h) rfl (fun x hx => ?_) ?_
                rotate_left 1
                · go_simp; first | done | with_reducible rfl | rw [if_neg (by omega)] | rw [if_pos (by omega)]
                simp only [Act.put, nA, nB, nC]
                refine wpU_take 5 (some 171) (v := ?_) rfl rfl (by kernel_rfl) (fun _ _ _ h => h) rfl (fun x hx => ?_) ?_
                rotate_left 1
                · obtain ⟨m0, m1, m2, m8, m9, m10, m11⟩ := cells_m (hx.has HI9.out.blk); obtain ⟨c0, c1, c2, c3⟩ := cells_c (hx.has HC9.out); go_simp; first | done | with_reducible rfl | rw [if_neg (by omega)] | rw [if_pos (by omega)]
                simp only [Act.put, nA, nB, nC]
                refine wpU_take 6 (some 172) (v := ?_) rfl rfl (by kernel_rfl) (fun _ _ _ h => h) rfl (fun x hx => ?_) ?_
                rotate_left 1
                · go_simp; first | done | with_reducible rfl | rw [if_neg (by omega)] | rw [if_pos (by omega)]
                simp only [Act.put, nA, nB, nC]
                refine wpU_take 7 (some 173) (v := ?_) rfl rfl (by kernel_rfl) (fun _ _ _ h => h) rfl (fun x hx => ?_) ?_
                rotate_left 1
                · obtain ⟨m0, m1, m2, m8, m9, m10, m11⟩ := cells_m (hx.has HI9.out.blk); obtain ⟨c0, c1, c2, c3⟩ := cells_c (hx.has HC9.out); go_simp; first | done | with_reducible rfl | rw [if_neg (by omega)] | rw [if_pos (by omega)]
                simp only [Act.put, nA, nB, nC]
                refine wpU_take 8 (some 174) (v := ?_) rfl rfl (by kernel_rfl) (fun _ _ _ h => h) rfl (fun x hx => ?_) ?_
                rotate_left 1
                · go_simp; first | done | with_reducible rfl | rw [if_neg (by omega)] | rw [if_pos (by omega)]
                simp only [Act.put, nA, nB, nC]
                refine wpU_take 9 (some 175) (v := ?_) rfl rfl (by kernel_rfl) (fun _ _ _ h => h) rfl (fun x hx => ?_) ?_
                rotate_left 1
                · obtain ⟨m0, m1, m2, m8, m9, m10, m11⟩ := cells_m (hx.has HI9.out.blk); obtain ⟨c0, c1, c2, c3⟩ := cells_c (hx.has HC9.out); go_simp; first | done | with_reducible rfl | rw [if_neg (by omega)] | rw [if_pos (by omega)]
                simp only [Act.put, nA, nB, nC]
                refine wpU_take 10 (some 176) (v := ?_) rfl rfl (by kernel_rfl) (fun _ _ _ h => h) rfl (fun x hx => ?_) ?_
                rotate_left 1
                · go_simp; first | done | with_reducible rfl | rw [if_neg (by omega)] | rw [if_pos (by omega)]
                simp only [Act.put, nA, nB, nC]
                refine wpU_take 11 (some 177) (v := ?_) rfl rfl (by kernel_rfl) (fun _ _ _ h => h) rfl (fun x hx => ?_) ?_
                rotate_left 1
                · go_simp; first | done | with_reducible rfl | rw [if_neg (by omega)] | rw [if_pos (by omega)]
                simp only [Act.put, nA, nB, nC]
                refine wpU_take 12 (some 178) (v := ?_) rfl rfl (by kernel_rfl) (fun _ _ _ h => h) rfl (fun x hx => ?_) ?_
                rotate_left 1
                · go_simp; first | done | with_reducible rfl | rw [if_neg (by omega)] | rw [if_pos (by omega)]
                simp only [Act.put, nA, nB, nC]
                refine wpU_take 13 (some 179) (v := ?_) rfl rfl (by kernel_rfl) (fun _ _ _ h => h) rfl (fun x hx => ?_) ?_
                rotate_left 1
                · go_simp; first | done | with_reducible rfl | rw [if_neg (by omega)] | rw [if_pos (by omega)]
                simp only [Act.put, nA, nB, nC]
                refine wpU_last [_] (by kernel_rfl) rfl rfl ?_
                simp only [List.getElem_toArray, List.getElem_cons_succ, List.getElem_cons_zero]
                have f9 := frozen_of_row w9 M 9 _ _ HI9.out.blk
                obtain ⟨m0, m1, m2, m8, m9, m10, m11⟩ := cells_m HI9.out.blk
                have HI10 := Lib.hid (HI9.out.cut (k := c.ncap) hncap)
                go_wp2_with fail
                go_roundg k
                case measure => omega
                case rel => exact ⟨n + 1, c.goals, ⟨c.at_, m.caps.take c.ncap, m.events, cs⟩, _, _, _, _, by omega, HG9.out.keep (HI9.out.keepSet 9 _) _ _, HI10.out, HK.out.pop HCS.out, HPL.out⟩

end Go.Proofs.Ytndefbecoahfhaa

/- spec's l20Match. Printed by gen_sm.py. -/
namespace Go.Proofs.Ytndefbecoahfhaa
open Go.RowKit

set_option maxRecDepth 100000 in
set_option maxHeartbeats 4000000 in
theorem l20Match_play (defs : List Pat) (dA : Option Addr) (dc : Nat) (p : Pat) (kv : Value) (s : ByteArray) (fr fuel : Nat) (w : World) (hs : Smalls defs) (hp : Small p) (hd : RowIn w dA 0 defs) (hin : KidsIn w p kv) (hvd : validD defs p = true)
    (hss : s.size ≤ 120) (hfr : fr ≤ s.size) (hfu : fuel ≤ 4000) :
    Calls Try.prog 41 #[.slice dA defs.length dc, p.v kv, .string s, .int .i64 fr, .int .i64 fuel] w (MatchIs w (play defs s fuel 0 [⟨0, p, 0⟩] (.start fr)) (matchFrom (play defs s fuel 0 [⟨0, p, 0⟩] (.start fr)) fr)) := by
  obtain ⟨kA, kc, rfl, _, _⟩ := hin.form
  obtain ⟨hdok, hpv⟩ := validD_defs hvd hs
  have hlen := hdok.len
  have HD := Lib.hid hdok
  have HV := Lib.hid (ok_start hpv hp hfr)
  have HROW := Lib.hid hd
  have HIN := Lib.hid hin
  obtain ⟨RES, hR⟩ : ∃ R, play defs s fuel 0 [⟨0, p, 0⟩] (.start fr) = R := ⟨_, rfl⟩
  rw [hR]
  have HRES := Lib.hid hR
  clear hR hdok hpv hd hin hs hp hvd
  have i3 : (fuel : Int) ≤ 4000 := by omega
  go_enter Try.func41, Try.ntmps41
  go_wp2_with fail
  obtain ⟨wA, hwA⟩ : ∃ wA, wA = (w.alloc (Obj.cells #[.int .i64 p.op, .string p.text, .int .i64 p.num, .int .i64 p.lo, .int .i64 p.hi, .slice kA p.kids.length kc] TP)).alloc (Obj.cells zeroM TR) := ⟨_, rfl⟩
  rw [← hwA]
  have hlA : Later w wA := by rw [hwA]; exact ((Later.refl w).alloc _).alloc _
  have hRA : wA.heap[w.heap.size + 1]? = some (.cells zeroM TR (0, 0)) := by rw [hwA, show w.heap.size + 1 = (w.alloc (Obj.cells #[.int .i64 p.op, .string p.text, .int .i64 p.num, .int .i64 p.lo, .int .i64 p.hi, .slice kA p.kids.length kc] TP)).heap.size by simp]; exact heap_alloc_new _ _
  have hzA : wA.heap.size = w.heap.size + 2 := by rw [hwA]; simp
  rw [← hzA]
  have HLA := Lib.hid hlA
  have HRA := Lib.hid hRA
  have HINA := Lib.hid (KidsIn.later hlA _ _ HIN.out)
  have HROWA := Lib.hid (RowIn.later hlA _ _ _ HROW.out)
  obtain ⟨RB, hRBe⟩ : ∃ RB, w.heap.size + 1 = RB := ⟨_, rfl⟩
  rw [hRBe] at HRA
  rw [hRBe]
  have hwz : w.heap.size ≤ RB := by omega
  have hz2 : RB < wA.heap.size := by omega
  clear hwA hlA hRA hzA hRBe
  refine (push_at (specAt_start (fr := fr)) 0 p kA kc (-1) 0 HINA.out (by simp) _ rfl).mono ?_
  rintro e w2 ⟨rfl, gv2, hI2⟩
  obtain ⟨M, hM⟩ : ∃ M, wA.heap.size = M := ⟨_, rfl⟩
  rw [hM] at hI2
  rw [hM]
  clear hM
  have HI2 := Lib.hid hI2
  obtain ⟨s0, s1, s2, s3, s4, s5⟩ := cells_s hI2.blk
  have f2 := frozen_of_row w2 M 2 _ _ hI2.blk
  clear hI2
  go_wp2_with fail
  clear s0 s1 s2 s3 s4 s5 f2
  go_loopg [12] fuel (fun k st wr => LoopS wA defs s M fuel RES k st wr)
  case atStart => exact ⟨0, .start fr, [⟨0, p, .slice kA p.kids.length kc, -1, 0⟩], 0, fr, _, _, _, _, _, rfl, by omega, HI2.out.setGoal 0, .inr ⟨[⟨0, p, 0⟩], by omega, rfl, ⟨0, _, rfl, rfl, rfl, rfl, rfl, rfl⟩, HV.out, by simp, HRES.out⟩⟩
  case round =>
    obtain ⟨n, m, gl, gi, ai, gv, hv, cv, ev, hs, rfl, hn, hI, hd⟩ := hrel
    obtain ⟨cA, cc, rfl, _, _⟩ := hI.caps.form
    obtain ⟨eA, ec, rfl, _, _⟩ := hI.evs.form
    obtain ⟨hA, hc, rfl, _, _⟩ := hI.chs.form
    have hRB := (hI.below.block _ hz2).trans HRA.out
    have hRM : ¬ RB = M := ne_of_type hRB hI.blk (by decide)
    have hMR : ¬ M = RB := fun e => hRM e.symm
    have HI := Lib.hid hI
    have HB := Lib.hid hRB
    clear hI hRB HRES HV HI2
    rcases hd with hd | ⟨gs, hnk, rfl, hch, hok, hgl, hpl⟩
    · have HPL := Lib.hid hd.2
      obtain rfl := hd.1
      clear hd
      obtain ⟨s0, s1, s2, s3, s4, s5⟩ := cells_s HI.out.blk
      obtain ⟨r0, r1, r2, r3, r4, r5, r6, r7⟩ := cells_r HB.out
      obtain ⟨f0, f1, f2, f3, f4, f5, f6, f7⟩ := frozen_r HB.out
      go_wp2_with fail
      refine bodyPost_ret (v := matchV ⟨false, true, false, 0, n, [], m.events⟩ 0 (.slice none 0 0) (.slice eA m.events.length ec)) (by simp [results, Try.results41, go_sem, r0, r1, r2, r3, r4, r5, r6, r7]) rfl ?_
      rw [HPL.out]
      exact matchIs_mk (r := ⟨false, true, false, 0, n, [], m.events⟩) (fr := 0) HLA.out (HasRow.nil _ _ _ _) HI.out.evs (.inl rfl) HI.out.below HB.out hwz (((((((((OnlyAt.refl _ _).set _ _).set _ _).set _ _).set _ _).set _ _).set _ _).set _ _).set _ _)
    · have HPL := Lib.hid hpl
      clear hpl
      cases gs with
      | nil =>
        obtain rfl : gi = -1 := hch
        rw [play_nil] at HPL
        have hncap := hok.ncap
        clear hok hgl
        obtain ⟨s0, s1, s2, s3, s4, s5⟩ := cells_s HI.out.blk
        go_wp2_with fail
        clear s0 s1 s2 s3 s4 s5
        -- region 19: 12 operations, the last [11]
        refine wpU_begin [11] [] (by kernel_rfl) (fun w3 hw3 => ?_)
        have HI3 := Lib.hid (HI.out.later (drew_later hw3))
        have HB3 := Lib.hid ((drew_later hw3).has HB.out)
        clear hw3
        refine wpU_take 0 (some 77) (v := ?_) rfl rfl (by kernel_rfl) (fun _ _ _ h => h) rfl (fun x hx => ?_) ?_
        rotate_left 1
        · go_simp; first | done | with_reducible rfl | rw [if_neg (by omega)] | rw [if_pos (by omega)]
        simp only [Act.put, nA, nB, nC]
        refine wpU_take 1 (some 78) (v := ?_) rfl rfl (by kernel_rfl) (fun _ _ _ h => h) rfl (fun x hx => ?_) ?_
        rotate_left 1
        · go_simp; first | done | with_reducible rfl | rw [if_neg (by omega)] | rw [if_pos (by omega)]
        simp only [Act.put, nA, nB, nC]
        refine wpU_take 2 (some 79) (v := ?_) rfl rfl (by kernel_rfl) (fun _ _ _ h => h) rfl (fun x hx => ?_) ?_
        rotate_left 1
        · obtain ⟨s0, s1, s2, s3, s4, s5⟩ := cells_s (hx.has HI3.out.blk); go_simp; first | done | with_reducible rfl | rw [if_neg (by omega)] | rw [if_pos (by omega)]
        simp only [Act.put, nA, nB, nC]
        refine wpU_take 3 (some 80) (v := ?_) rfl rfl (by kernel_rfl) (fun _ _ _ h => h) rfl (fun x hx => ?_) ?_
        rotate_left 1
        · go_simp; first | done | with_reducible rfl | rw [if_neg (by omega)] | rw [if_pos (by omega)]
        simp only [Act.put, nA, nB, nC]
        refine wpU_take 5 (some 82) (v := ?_) rfl rfl (by kernel_rfl) (fun _ _ _ h => h) rfl (fun x hx => ?_) ?_
        rotate_left 1
        · go_simp; first | done | with_reducible rfl | rw [if_neg (by omega)] | rw [if_pos (by omega)]
        simp only [Act.put, nA, nB, nC]
        refine wpU_take 6 (some 83) (v := ?_) rfl rfl (by kernel_rfl) (fun _ _ _ h => h) rfl (fun x hx => ?_) ?_
        rotate_left 1
        · obtain ⟨s0, s1, s2, s3, s4, s5⟩ := cells_s (hx.has HI3.out.blk); go_simp; first | done | with_reducible rfl | rw [if_neg (by omega)] | rw [if_pos (by omega)]
        simp only [Act.put, nA, nB, nC]
        refine wpU_take 8 (some 85) (v := ?_) rfl rfl (by kernel_rfl) (fun _ _ _ h => h) rfl (fun x hx => ?_) ?_
        rotate_left 1
        · go_simp; first | done | with_reducible rfl | rw [if_neg (by omega)] | rw [if_pos (by omega)]
        simp only [Act.put, nA, nB, nC]
        refine wpU_take 9 (some 86) (v := ?_) rfl rfl (by kernel_rfl) (fun _ _ _ h => h) rfl (fun x hx => ?_) ?_
        rotate_left 1
        · obtain ⟨s0, s1, s2, s3, s4, s5⟩ := cells_s (hx.has HI3.out.blk); go_simp; first | done | with_reducible rfl | rw [if_neg (by omega)] | rw [if_pos (by omega)]
        simp only [Act.put, nA, nB, nC]
        refine wpU_step 4 (by kernel_rfl) rfl rfl ?_  -- buildSlice 
        go_wp2_with fail
        refine ⟨(Later.refl _).alloc _, ?_⟩
        refine wpU_step 7 (by kernel_rfl) rfl rfl ?_  -- call builtin Go.Builtin.append
        obtain ⟨i, hi, hz0, hz1, hz2'⟩ := info_parts infoK
        refine wpList_append_fresh _ rfl _ _ _ rfl wA.heap.size wA.heap.size TK i _ 3 24 Try.underlying31 hi hz0 hz1 hz2' rfl rfl (heap_alloc_new w3 _) HI3.out.below.size rfl ((HI3.out.later ((Later.refl w3).alloc _)).caps) (by omega) (by omega) ?_
        intro v' w5 hrow hl5 hown
        obtain ⟨vA, vc, rfl, _, _⟩ := hrow.form
        have HI5 := Lib.hid (HI3.out.later (((Later.refl w3).alloc _).trans hl5))
        have HB5 := Lib.hid ((((Later.refl w3).alloc _).trans hl5).has HB3.out)
        have HROW5 := Lib.hid hrow
        have HAP5 : Hid ((Value.slice vA m.caps.length vc).ownBlock = none ∨ (Value.slice vA m.caps.length vc).ownBlock ≠ (Value.slice eA m.events.length ec).ownBlock) := Lib.hid (.inr fun e => by
          rcases hown with h1 | h1
          · rw [h1] at e; have := (HI3.out.evs.lt _ e.symm).2.1; omega
          · rw [h1] at e; have := (HI3.out.evs.lt _ e.symm).2.1; simp at this; omega)
        refine wpList_nil ⟨hl5, ?_⟩
        clear hrow hl5 hown hi hz0 hz1 hz2'
        refine wpU_take 10 (some 87) (v := ?_) rfl rfl (by kernel_rfl) (fun _ _ _ h => h) rfl (fun x hx => ?_) ?_
        rotate_left 1
        · go_simp; first | done | with_reducible rfl | rw [if_neg (by omega)] | rw [if_pos (by omega)]
        simp only [Act.put, nA, nB, nC]
        refine wpU_last [_] (by kernel_rfl) rfl rfl ?_
        simp only [List.getElem_toArray, List.getElem_cons_succ, List.getElem_cons_zero]
        obtain ⟨s0, s1, s2, s3, s4, s5⟩ := cells_s HI5.out.blk
        obtain ⟨r0, r1, r2, r3, r4, r5, r6, r7⟩ := cells_r HB5.out
        obtain ⟨f0, f1, f2, f3, f4, f5, f6, f7⟩ := frozen_r HB5.out
        go_wp2_with fail
        refine bodyPost_ret (v := matchV ⟨true, false, false, m.at_, n, m.caps, m.events⟩ fr (.slice vA m.caps.length vc) (.slice eA m.events.length ec)) (by simp [results, Try.results41, go_sem, r0, r1, r2, r3, r4, r5, r6, r7]) rfl ?_
        rw [← HPL.out]
        exact matchIs_mk (r := ⟨true, false, false, m.at_, n, m.caps, m.events⟩) (fr := fr) HLA.out HROW5.out HI5.out.evs HAP5.out HI5.out.below HB5.out hwz (((((((((OnlyAt.refl _ _).set _ _).set _ _).set _ _).set _ _).set _ _).set _ _).set _ _).set _ _)
      | cons g gs =>
        obtain ⟨j, hj⟩ : ∃ j : Nat, gi = (j : Int) := by obtain ⟨j, _, e, _⟩ := hch; exact ⟨j, e⟩
        subst hj
        have HCH := Lib.hid hch
        have HK := Lib.hid hok
        have hgl' : gl.length ≤ 8001 := by omega
        clear hch hok
        by_cases hk0 : gk = 0
        · subst hk0
          obtain rfl : n = fuel := by omega
          rw [play_zero] at HPL
          obtain ⟨s0, s1, s2, s3, s4, s5⟩ := cells_s HI.out.blk
          obtain ⟨r0, r1, r2, r3, r4, r5, r6, r7⟩ := cells_r HB.out
          obtain ⟨f0, f1, f2, f3, f4, f5, f6, f7⟩ := frozen_r HB.out
          go_wp2_with fail
          refine bodyPost_ret (v := matchV ⟨false, false, true, 0, n, [], m.events⟩ 0 (.slice none 0 0) (.slice eA m.events.length ec)) (by simp [results, Try.results41, go_sem, r0, r1, r2, r3, r4, r5, r6, r7]) rfl ?_
          rw [← HPL.out]
          exact matchIs_mk (r := ⟨false, false, true, 0, n, [], m.events⟩) (fr := 0) HLA.out (HasRow.nil _ _ _ _) HI.out.evs (.inl rfl) HI.out.below HB.out hwz (((((((((OnlyAt.refl _ _).set _ _).set _ _).set _ _).set _ _).set _ _).set _ _).set _ _).set _ _)
        · obtain ⟨k, rfl⟩ : ∃ k, gk = k + 1 := ⟨gk - 1, by omega⟩
          have hn1 : (n : Int) + 1 ≤ 4001 := by omega
          have hnf : ¬ fuel ≤ n := by omega
          have hnf2 : decide (fuel ≤ n) = false := by simpa using hnf
          obtain ⟨s0, s1, s2, s3, s4, s5⟩ := cells_s HI.out.blk
          go_wp2_with fail
          clear s0 s1 s2 s3 s4 s5
          refine (sstep_any HI.out HCH.out HK.out (by omega) HD.out HROWA.out hss (by omega)).mono ?_
          intro e w4 hdid
          cases hst : step defs s g gs m with
          | go gs' m' =>
            rw [hst] at hdid
            obtain ⟨gl4, gi4, gv4, hv4, cv4, ev4, hs4, rfl, hI4, hc4, hl4⟩ := hdid
            have HI4 := Lib.hid hI4
            have HC4 := Lib.hid hc4
            have HST := Lib.hid hst
            rw [play_go hst] at HPL
            clear hI4 hc4 hst
            go_wp2_with fail
            go_roundg k
            case measure => omega
            case rel => exact ⟨n + 1, m', gl4, gi4, m'.at_, _, _, _, _, _, by go_num, by omega, HI4.out, .inr ⟨gs', by omega, rfl, HC4.out, step_ok HD.out hss HK.out HST.out, by omega, HPL.out⟩⟩
          | stop =>
            rw [hst] at hdid
            obtain ⟨gl4, gi4, ai4, gv4, hv4, cv4, ev4, hs4, rfl, hI4, hl4⟩ := hdid
            rw [play_stop hst] at HPL
            clear hst
            obtain ⟨cA4, cc4, rfl, _, _⟩ := hI4.caps.form
            obtain ⟨g4, hc4, rfl, _, hcc, hcm⟩ := hI4.chs.block_ (by simp)
            obtain ⟨cs, hcs⟩ : ∃ cs : List Choice, cs = [] := ⟨_, rfl⟩
            obtain ⟨c, hcd⟩ : ∃ c : Choice, c = ⟨true, [], m.at_, m.caps.length⟩ := ⟨_, rfl⟩
            rw [show ([⟨true, [], m.at_, m.caps.length⟩] : List Choice) = cs ++ [c] by rw [hcs, hcd]; rfl] at hI4
            have hl1 : (cs ++ [c]).length = cs.length + 1 := by simp
            simp only [hl1] at hI4
            have hbig : (cs.length : Int) + 1 ≤ 4001 := by rw [hcs]; simp
            have hcap : cs.length ≤ hc4 := by rw [hcs]; exact Nat.zero_le _
            have hq : ((cs.length : Int) + 1 == 0) = false := by simp; omega
            have hncap : c.ncap ≤ m.caps.length := by rw [hcd]; exact Nat.le_refl _
            have HI4 := Lib.hid hI4
            obtain ⟨a4, i4, hab, hi4, hla, hI5⟩ := spec_pop hI4 rfl
            subst hab
            have hi5 : i4 = -2 := by rcases hi4 with ⟨_, h⟩ | ⟨h, _⟩; exact h; rw [hcd] at h; cases h
            subst hi5
            have HI5 := Lib.hid hI5
            have HLA4 := Lib.hid hla
            clear hI4 hI5 hla hi4 hcs hcd hl1
            rcases HI4.out.caps.2 with ⟨hcv, hB⟩ | ⟨g9, cap9, cur9, hcv, _, _, hcl, _, _⟩
            · obtain ⟨hA9, _, hC9⟩ : cA4 = none ∧ m.caps.length = 0 ∧ cc4 = 0 := by simpa using hcv
              subst hA9 hC9
              rw [show (m.caps.length) = 0 from hB] at HI4 HI5
              have hnc0 : c.ncap = 0 := by omega
              clear hcv
              have HI6 := Lib.hid (spec_cut_nil (k := c.ncap) ((HI5.out.setGoal (-2)).setAt c.at_) hnc0)
              obtain ⟨s0, s1, s2, s3, s4, s5⟩ := cells_s HI4.out.blk
              have f1 := frozen_of_row w4 M 1 _ _ HI4.out.blk
              have f2 := frozen_of_row w4 M 2 _ _ HI4.out.blk
              have f3 := frozen_of_row w4 M 3 _ _ HI4.out.blk
              have f4 := frozen_of_row w4 M 4 _ _ HI4.out.blk
              have hMlt := has_lt HI4.out.blk
              obtain ⟨c0, c1, c2⟩ := stop_cells (j := cs.length) HI4.out HLA4.out
              go_wp2_with fail
              go_roundg k
              case measure => omega
              case rel => exact ⟨n + 1, ⟨c.at_, m.caps.take c.ncap, m.events, cs⟩, gl4, _, c.at_, _, _, _, _, _, by go_num, by omega, (HI6.out.with_at c.at_).later ((Later.refl _).alloc _), .inl ⟨rfl, HPL.out.symm⟩⟩
            · obtain ⟨hA9, hC9⟩ : cA4 = some ⟨g9, 0, none⟩ ∧ cc4 = cap9 := by simpa using hcv
              subst hA9 hC9
              have hx1 : c.ncap ≤ cc4 := Nat.le_trans hncap hcl
              clear hcv
              have HI6 := Lib.hid (spec_cut (k := c.ncap) ((HI5.out.setGoal (-2)).setAt c.at_) hncap)
              obtain ⟨s0, s1, s2, s3, s4, s5⟩ := cells_s HI4.out.blk
              have f1 := frozen_of_row w4 M 1 _ _ HI4.out.blk
              have f2 := frozen_of_row w4 M 2 _ _ HI4.out.blk
              have f3 := frozen_of_row w4 M 3 _ _ HI4.out.blk
              have f4 := frozen_of_row w4 M 4 _ _ HI4.out.blk
              have hMlt := has_lt HI4.out.blk
              obtain ⟨c0, c1, c2⟩ := stop_cells (j := cs.length) HI4.out HLA4.out
              go_wp2_with fail
              go_roundg k
              case measure => omega
              case rel => exact ⟨n + 1, ⟨c.at_, m.caps.take c.ncap, m.events, cs⟩, gl4, _, c.at_, _, _, _, _, _, by go_num, by omega, (HI6.out.with_at c.at_).later ((Later.refl _).alloc _), .inl ⟨rfl, HPL.out.symm⟩⟩
          | fail =>
            rw [hst] at hdid
            obtain ⟨gl4, gi4, ai4, gv4, hv4, cv4, ev4, hs4, rfl, hI4, hl4⟩ := hdid
            have HST := Lib.hid hst
            clear hst
            obtain ⟨cA4, cc4, rfl, _, _⟩ := hI4.caps.form
            obtain ⟨eA4, ec4, rfl, _, _⟩ := hI4.evs.form
            have HB4 := Lib.hid ((hI4.below.block _ hz2).trans HRA.out)
            rcases List.eq_nil_or_concat m.choices with hcs | ⟨cs, c, hcs⟩
            · have hl0 : m.choices.length = 0 := by rw [hcs]; rfl
              obtain ⟨hA4, hc4, rfl, _, _⟩ := hI4.chs.form
              rw [play_none HST.out hcs] at HPL
              have HI4 := Lib.hid hI4
              clear hI4 hcs
              obtain ⟨s0, s1, s2, s3, s4, s5⟩ := cells_s HI4.out.blk
              obtain ⟨r0, r1, r2, r3, r4, r5, r6, r7⟩ := cells_r HB4.out
              obtain ⟨f0, f1, f2, f3, f4, f5, f6, f7⟩ := frozen_r HB4.out
              go_wp2_with fail
              refine bodyPost_ret (v := matchV ⟨false, false, false, 0, n + 1, [], m.events⟩ 0 (.slice none 0 0) (.slice eA4 m.events.length ec4)) (by simp [results, Try.results41, go_sem, r0, r1, r2, r3, r4, r5, r6, r7]) rfl ?_
              rw [← HPL.out]
              exact matchIs_mk (r := ⟨false, false, false, 0, n + 1, [], m.events⟩) (fr := 0) HLA.out (HasRow.nil _ _ _ _) HI4.out.evs (.inl rfl) HI4.out.below HB4.out hwz (((((((((OnlyAt.refl _ _).set _ _).set _ _).set _ _).set _ _).set _ _).set _ _).set _ _).set _ _)
            · rw [List.concat_eq_append] at hcs
              have hl1 : m.choices.length = cs.length + 1 := by rw [hcs]; simp
              have hbig : (cs.length : Int) + 1 ≤ 4001 := by have := HK.out.nch; omega
              obtain ⟨g4, hc4, hv, _, hcc, hcm⟩ := hI4.chs.block_ (by omega)
              rw [hl1] at hv
              subst hv
              have HCS := Lib.hid hcs
              have hcap : cs.length ≤ hc4 := by omega
              have HI4 := Lib.hid hI4
              obtain ⟨a4, i4, hab, hi4, hla, hI5⟩ := spec_pop hI4 hcs
              subst hab
              rw [play_last HST.out hcs] at HPL
              have hncap : c.ncap ≤ m.caps.length := HK.out.choices.le c (by rw [hcs]; simp)
              have HI5 := Lib.hid hI5
              have HLA4 := Lib.hid hla
              have hq : ((cs.length : Int) + 1 == 0) = false := by simp; omega
              clear hI4 hI5 hcs hla hl1
              rcases hi4 with ⟨hst4, hi5⟩ | ⟨hst4, hch4⟩
              · subst hi5
                rw [if_pos hst4] at HPL
                rcases HI4.out.caps.2 with ⟨hcv, hB⟩ | ⟨g9, cap9, cur9, hcv, _, _, hcl, _, _⟩
                · obtain ⟨hA9, _, hC9⟩ : cA4 = none ∧ m.caps.length = 0 ∧ cc4 = 0 := by simpa using hcv
                  subst hA9 hC9
                  rw [show (m.caps.length) = 0 from hB] at HI4 HI5
                  have hnc0 : c.ncap = 0 := by omega
                  clear hcv
                  have HI6 := Lib.hid (spec_cut_nil (k := c.ncap) ((HI5.out.setGoal (-2)).setAt c.at_) hnc0)
                  obtain ⟨s0, s1, s2, s3, s4, s5⟩ := cells_s HI4.out.blk
                  have f1 := frozen_of_row w4 M 1 _ _ HI4.out.blk
                  have f2 := frozen_of_row w4 M 2 _ _ HI4.out.blk
                  have f3 := frozen_of_row w4 M 3 _ _ HI4.out.blk
                  have f4 := frozen_of_row w4 M 4 _ _ HI4.out.blk
                  have hMlt := has_lt HI4.out.blk
                  obtain ⟨c0, c1, c2⟩ := stop_cells (j := cs.length) HI4.out HLA4.out
                  go_wp2_with fail
                  go_roundg k
                  case measure => omega
                  case rel => exact ⟨n + 1, ⟨c.at_, m.caps.take c.ncap, m.events, cs⟩, gl4, _, c.at_, _, _, _, _, _, by go_num, by omega, (HI6.out.with_at c.at_).later ((Later.refl _).alloc _), .inl ⟨rfl, HPL.out.symm⟩⟩
                · obtain ⟨hA9, hC9⟩ : cA4 = some ⟨g9, 0, none⟩ ∧ cc4 = cap9 := by simpa using hcv
                  subst hA9 hC9
                  have hx1 : c.ncap ≤ cc4 := Nat.le_trans hncap hcl
                  clear hcv
                  have HI6 := Lib.hid (spec_cut (k := c.ncap) ((HI5.out.setGoal (-2)).setAt c.at_) hncap)
                  obtain ⟨s0, s1, s2, s3, s4, s5⟩ := cells_s HI4.out.blk
                  have f1 := frozen_of_row w4 M 1 _ _ HI4.out.blk
                  have f2 := frozen_of_row w4 M 2 _ _ HI4.out.blk
                  have f3 := frozen_of_row w4 M 3 _ _ HI4.out.blk
                  have f4 := frozen_of_row w4 M 4 _ _ HI4.out.blk
                  have hMlt := has_lt HI4.out.blk
                  obtain ⟨c0, c1, c2⟩ := stop_cells (j := cs.length) HI4.out HLA4.out
                  go_wp2_with fail
                  go_roundg k
                  case measure => omega
                  case rel => exact ⟨n + 1, ⟨c.at_, m.caps.take c.ncap, m.events, cs⟩, gl4, _, c.at_, _, _, _, _, _, by go_num, by omega, (HI6.out.with_at c.at_).later ((Later.refl _).alloc _), .inl ⟨rfl, HPL.out.symm⟩⟩
              · rw [if_neg (by simp [hst4])] at HPL
                have HCH4 := Lib.hid hch4
                clear hch4
                rcases HI4.out.caps.2 with ⟨hcv, hB⟩ | ⟨g9, cap9, cur9, hcv, _, _, hcl, _, _⟩
                · obtain ⟨hA9, _, hC9⟩ : cA4 = none ∧ m.caps.length = 0 ∧ cc4 = 0 := by simpa using hcv
                  subst hA9 hC9
                  rw [show (m.caps.length) = 0 from hB] at HI4 HI5
                  have hnc0 : c.ncap = 0 := by omega
                  clear hcv
                  have HI6 := Lib.hid (spec_cut_nil (k := c.ncap) ((HI5.out.setGoal i4).setAt c.at_) hnc0)
                  obtain ⟨s0, s1, s2, s3, s4, s5⟩ := cells_s HI4.out.blk
                  have f1 := frozen_of_row w4 M 1 _ _ HI4.out.blk
                  have f2 := frozen_of_row w4 M 2 _ _ HI4.out.blk
                  have f3 := frozen_of_row w4 M 3 _ _ HI4.out.blk
                  have f4 := frozen_of_row w4 M 4 _ _ HI4.out.blk
                  have hMlt := has_lt HI4.out.blk
                  obtain ⟨c0, c1, c2⟩ := stop_cells (j := cs.length) HI4.out HLA4.out
                  go_wp2_with fail
                  go_roundg k
                  case measure => omega
                  case rel => exact ⟨n + 1, ⟨c.at_, m.caps.take c.ncap, m.events, cs⟩, gl4, _, c.at_, _, _, _, _, _, by go_num, by omega, (HI6.out.with_at c.at_).later ((Later.refl _).alloc _), .inr ⟨c.goals, by omega, rfl, HCH4.out, HK.out.pop HCS.out, by omega, HPL.out⟩⟩
                · obtain ⟨hA9, hC9⟩ : cA4 = some ⟨g9, 0, none⟩ ∧ cc4 = cap9 := by simpa using hcv
                  subst hA9 hC9
                  have hx1 : c.ncap ≤ cc4 := Nat.le_trans hncap hcl
                  clear hcv
                  have HI6 := Lib.hid (spec_cut (k := c.ncap) ((HI5.out.setGoal i4).setAt c.at_) hncap)
                  obtain ⟨s0, s1, s2, s3, s4, s5⟩ := cells_s HI4.out.blk
                  have f1 := frozen_of_row w4 M 1 _ _ HI4.out.blk
                  have f2 := frozen_of_row w4 M 2 _ _ HI4.out.blk
                  have f3 := frozen_of_row w4 M 3 _ _ HI4.out.blk
                  have f4 := frozen_of_row w4 M 4 _ _ HI4.out.blk
                  have hMlt := has_lt HI4.out.blk
                  obtain ⟨c0, c1, c2⟩ := stop_cells (j := cs.length) HI4.out HLA4.out
                  go_wp2_with fail
                  go_roundg k
                  case measure => omega
                  case rel => exact ⟨n + 1, ⟨c.at_, m.caps.take c.ncap, m.events, cs⟩, gl4, _, c.at_, _, _, _, _, _, by go_num, by omega, (HI6.out.with_at c.at_).later ((Later.refl _).alloc _), .inr ⟨c.goals, by omega, rfl, HCH4.out, HK.out.pop HCS.out, by omega, HPL.out⟩⟩

end Go.Proofs.Ytndefbecoahfhaa

/- MatchPattern of both sides, where they do not match; spec's, where it does. Printed by gen_mpno.py. -/
namespace Go.Proofs.Ytndefbecoahfhaa
open Go.RowKit

theorem l18Defs_is (b : Bool) (defs : List Pat) (A : Option Addr) (c : Nat) (p : Pat) (kv : Value) (w : World) (hs : Smalls defs) (hp : Small p) (hd : RowIn w A 0 defs) (hin : KidsIn w p kv) (hdl : defs.length ≤ 1099511627776) (hb : validD defs p = b) :
    Calls Try.prog 39 #[.slice A defs.length c, p.v kv] w fun e w' => e = .returned (.bool b) ∧ Below w.heap.size w w' := by
  subst hb
  exact l18Defs_any defs A c p kv w hs hp hd hin hdl

set_option maxRecDepth 100000 in
set_option maxHeartbeats 4000000 in
theorem implMatch_no (defs : List Pat) (dA : Option Addr) (dc : Nat) (p : Pat) (kv : Value) (s : ByteArray) (fr fuel : Int) (w : World) (hs : Smalls defs) (hp : Small p) (hd : RowIn w dA 0 defs) (hin : KidsIn w p kv) (hdl : defs.length ≤ 1099511627776) (hsl : s.size ≤ 1099511627776) (hno : answers defs p s fr fuel = false) :
    Calls Try.prog 11 #[.slice dA defs.length dc, p.v kv, .string s, .int .i64 fr, .int .i64 fuel] w (MatchIs w .none 0) := by
  obtain ⟨kA, kc, rfl, _, _⟩ := hin.form
  have HS := Lib.hid hs
  have HP := Lib.hid hp
  have HD := Lib.hid hd
  have HIN := Lib.hid hin
  clear hs hp hd hin
  by_cases hv : validD defs p = true
  · by_cases c1 : s.size ≤ 120
    · have c1 : ¬ ((120 : Int) < s.size) := by omega
      by_cases c2 : fr < 0
      · have HV := Lib.hid hv
        clear hv hno
        have t1 : decide ((120 : Int) < s.size) = false := by simpa using c1
        have t2 : decide (fr < 0) = true := by simpa using c2
        go_enter Try.func11, Try.ntmps11
        go_wp2_with fail
        have HLA := Lib.hid (((Later.refl w).alloc (Obj.cells #[.int .i64 p.op, .string p.text, .int .i64 p.num, .int .i64 p.lo, .int .i64 p.hi, .slice kA p.kids.length kc] TP)).alloc (Obj.cells zeroM TR))
        refine (validDefinitions_is true defs dA dc p _ _ HS.out HP.out (RowIn.later HLA.out _ _ _ HD.out) (KidsIn.later HLA.out _ _ HIN.out) hdl HV.out).mono ?_
        rintro e w2 ⟨rfl, hb2⟩
        have HR2 := Lib.hid (Later.has hb2 (heap_alloc_new _ _))
        simp only [World.size_alloc] at HR2
        have HL2 := Lib.hid (HLA.out.trans hb2)
        clear hb2 HLA
        obtain ⟨r0, r1, r2, r3, r4, r5, r6, r7⟩ := cells_r HR2.out
        obtain ⟨f0, f1, f2, f3, f4, f5, f6, f7⟩ := frozen_r HR2.out
        go_wp2_with fail
        refine bodyPost_ret (v := matchV .none 0 (.slice none 0 0) (.slice none 0 0)) (by simp [results, Try.results11, go_sem, r0, r1, r2, r3, r4, r5, r6, r7, Res.none]) rfl ?_
        exact ⟨_, _, rfl, HasRow.nil _ _ _ _, HasRow.nil _ _ _ _, .inl rfl, Below.trans HL2.out ((((((((((OnlyAt.refl _ _).set _ _).set _ _).set _ _).set _ _).set _ _).set _ _).set _ _).set _ _).1.mono (by omega))⟩
      · by_cases c3 : (s.size : Int) < fr
        · have HV := Lib.hid hv
          clear hv hno
          have t1 : decide ((120 : Int) < s.size) = false := by simpa using c1
          have t2 : decide (fr < 0) = false := by simpa using c2
          have t3 : decide ((s.size : Int) < fr) = true := by simpa using c3
          go_enter Try.func11, Try.ntmps11
          go_wp2_with fail
          have HLA := Lib.hid (((Later.refl w).alloc (Obj.cells #[.int .i64 p.op, .string p.text, .int .i64 p.num, .int .i64 p.lo, .int .i64 p.hi, .slice kA p.kids.length kc] TP)).alloc (Obj.cells zeroM TR))
          refine (validDefinitions_is true defs dA dc p _ _ HS.out HP.out (RowIn.later HLA.out _ _ _ HD.out) (KidsIn.later HLA.out _ _ HIN.out) hdl HV.out).mono ?_
          rintro e w2 ⟨rfl, hb2⟩
          have HR2 := Lib.hid (Later.has hb2 (heap_alloc_new _ _))
          simp only [World.size_alloc] at HR2
          have HL2 := Lib.hid (HLA.out.trans hb2)
          clear hb2 HLA
          obtain ⟨r0, r1, r2, r3, r4, r5, r6, r7⟩ := cells_r HR2.out
          obtain ⟨f0, f1, f2, f3, f4, f5, f6, f7⟩ := frozen_r HR2.out
          go_wp2_with fail
          refine bodyPost_ret (v := matchV .none 0 (.slice none 0 0) (.slice none 0 0)) (by simp [results, Try.results11, go_sem, r0, r1, r2, r3, r4, r5, r6, r7, Res.none]) rfl ?_
          exact ⟨_, _, rfl, HasRow.nil _ _ _ _, HasRow.nil _ _ _ _, .inl rfl, Below.trans HL2.out ((((((((((OnlyAt.refl _ _).set _ _).set _ _).set _ _).set _ _).set _ _).set _ _).set _ _).set _ _).1.mono (by omega))⟩
        · by_cases c4 : fuel < 0
          · have HV := Lib.hid hv
            clear hv hno
            have t1 : decide ((120 : Int) < s.size) = false := by simpa using c1
            have t2 : decide (fr < 0) = false := by simpa using c2
            have t3 : decide ((s.size : Int) < fr) = false := by simpa using c3
            have t4 : decide (fuel < 0) = true := by simpa using c4
            go_enter Try.func11, Try.ntmps11
            go_wp2_with fail
            have HLA := Lib.hid (((Later.refl w).alloc (Obj.cells #[.int .i64 p.op, .string p.text, .int .i64 p.num, .int .i64 p.lo, .int .i64 p.hi, .slice kA p.kids.length kc] TP)).alloc (Obj.cells zeroM TR))
            refine (validDefinitions_is true defs dA dc p _ _ HS.out HP.out (RowIn.later HLA.out _ _ _ HD.out) (KidsIn.later HLA.out _ _ HIN.out) hdl HV.out).mono ?_
            rintro e w2 ⟨rfl, hb2⟩
            have HR2 := Lib.hid (Later.has hb2 (heap_alloc_new _ _))
            simp only [World.size_alloc] at HR2
            have HL2 := Lib.hid (HLA.out.trans hb2)
            clear hb2 HLA
            obtain ⟨r0, r1, r2, r3, r4, r5, r6, r7⟩ := cells_r HR2.out
            obtain ⟨f0, f1, f2, f3, f4, f5, f6, f7⟩ := frozen_r HR2.out
            go_wp2_with fail
            refine bodyPost_ret (v := matchV .none 0 (.slice none 0 0) (.slice none 0 0)) (by simp [results, Try.results11, go_sem, r0, r1, r2, r3, r4, r5, r6, r7, Res.none]) rfl ?_
            exact ⟨_, _, rfl, HasRow.nil _ _ _ _, HasRow.nil _ _ _ _, .inl rfl, Below.trans HL2.out ((((((((((OnlyAt.refl _ _).set _ _).set _ _).set _ _).set _ _).set _ _).set _ _).set _ _).set _ _).1.mono (by omega))⟩
          · by_cases c5 : (4000 : Int) < fuel
            · have HV := Lib.hid hv
              clear hv hno
              have t1 : decide ((120 : Int) < s.size) = false := by simpa using c1
              have t2 : decide (fr < 0) = false := by simpa using c2
              have t3 : decide ((s.size : Int) < fr) = false := by simpa using c3
              have t4 : decide (fuel < 0) = false := by simpa using c4
              have t5 : decide ((4000 : Int) < fuel) = true := by simpa using c5
              go_enter Try.func11, Try.ntmps11
              go_wp2_with fail
              have HLA := Lib.hid (((Later.refl w).alloc (Obj.cells #[.int .i64 p.op, .string p.text, .int .i64 p.num, .int .i64 p.lo, .int .i64 p.hi, .slice kA p.kids.length kc] TP)).alloc (Obj.cells zeroM TR))
              refine (validDefinitions_is true defs dA dc p _ _ HS.out HP.out (RowIn.later HLA.out _ _ _ HD.out) (KidsIn.later HLA.out _ _ HIN.out) hdl HV.out).mono ?_
              rintro e w2 ⟨rfl, hb2⟩
              have HR2 := Lib.hid (Later.has hb2 (heap_alloc_new _ _))
              simp only [World.size_alloc] at HR2
              have HL2 := Lib.hid (HLA.out.trans hb2)
              clear hb2 HLA
              obtain ⟨r0, r1, r2, r3, r4, r5, r6, r7⟩ := cells_r HR2.out
              obtain ⟨f0, f1, f2, f3, f4, f5, f6, f7⟩ := frozen_r HR2.out
              go_wp2_with fail
              refine bodyPost_ret (v := matchV .none 0 (.slice none 0 0) (.slice none 0 0)) (by simp [results, Try.results11, go_sem, r0, r1, r2, r3, r4, r5, r6, r7, Res.none]) rfl ?_
              exact ⟨_, _, rfl, HasRow.nil _ _ _ _, HasRow.nil _ _ _ _, .inl rfl, Below.trans HL2.out ((((((((((OnlyAt.refl _ _).set _ _).set _ _).set _ _).set _ _).set _ _).set _ _).set _ _).set _ _).1.mono (by omega))⟩
            · exfalso
              simp [answers, hv] at hno
              omega
    · have c1 : (120 : Int) < s.size := by omega
      have HV := Lib.hid hv
      clear hv hno
      have t1 : decide ((120 : Int) < s.size) = true := by simpa using c1
      go_enter Try.func11, Try.ntmps11
      go_wp2_with fail
      have HLA := Lib.hid (((Later.refl w).alloc (Obj.cells #[.int .i64 p.op, .string p.text, .int .i64 p.num, .int .i64 p.lo, .int .i64 p.hi, .slice kA p.kids.length kc] TP)).alloc (Obj.cells zeroM TR))
      refine (validDefinitions_is true defs dA dc p _ _ HS.out HP.out (RowIn.later HLA.out _ _ _ HD.out) (KidsIn.later HLA.out _ _ HIN.out) hdl HV.out).mono ?_
      rintro e w2 ⟨rfl, hb2⟩
      have HR2 := Lib.hid (Later.has hb2 (heap_alloc_new _ _))
      simp only [World.size_alloc] at HR2
      have HL2 := Lib.hid (HLA.out.trans hb2)
      clear hb2 HLA
      obtain ⟨r0, r1, r2, r3, r4, r5, r6, r7⟩ := cells_r HR2.out
      obtain ⟨f0, f1, f2, f3, f4, f5, f6, f7⟩ := frozen_r HR2.out
      go_wp2_with fail
      refine bodyPost_ret (v := matchV .none 0 (.slice none 0 0) (.slice none 0 0)) (by simp [results, Try.results11, go_sem, r0, r1, r2, r3, r4, r5, r6, r7, Res.none]) rfl ?_
      exact ⟨_, _, rfl, HasRow.nil _ _ _ _, HasRow.nil _ _ _ _, .inl rfl, Below.trans HL2.out ((((((((((OnlyAt.refl _ _).set _ _).set _ _).set _ _).set _ _).set _ _).set _ _).set _ _).set _ _).1.mono (by omega))⟩
  · have hv : validD defs p = false := by simpa using hv
    have HV := Lib.hid hv
    clear hv hno
    go_enter Try.func11, Try.ntmps11
    go_wp2_with fail
    have HLA := Lib.hid (((Later.refl w).alloc (Obj.cells #[.int .i64 p.op, .string p.text, .int .i64 p.num, .int .i64 p.lo, .int .i64 p.hi, .slice kA p.kids.length kc] TP)).alloc (Obj.cells zeroM TR))
    refine (validDefinitions_is false defs dA dc p _ _ HS.out HP.out (RowIn.later HLA.out _ _ _ HD.out) (KidsIn.later HLA.out _ _ HIN.out) hdl HV.out).mono ?_
    rintro e w2 ⟨rfl, hb2⟩
    have HR2 := Lib.hid (Later.has hb2 (heap_alloc_new _ _))
    simp only [World.size_alloc] at HR2
    have HL2 := Lib.hid (HLA.out.trans hb2)
    clear hb2 HLA
    obtain ⟨r0, r1, r2, r3, r4, r5, r6, r7⟩ := cells_r HR2.out
    obtain ⟨f0, f1, f2, f3, f4, f5, f6, f7⟩ := frozen_r HR2.out
    go_wp2_with fail
    refine bodyPost_ret (v := matchV .none 0 (.slice none 0 0) (.slice none 0 0)) (by simp [results, Try.results11, go_sem, r0, r1, r2, r3, r4, r5, r6, r7, Res.none]) rfl ?_
    exact ⟨_, _, rfl, HasRow.nil _ _ _ _, HasRow.nil _ _ _ _, .inl rfl, Below.trans HL2.out ((((((((((OnlyAt.refl _ _).set _ _).set _ _).set _ _).set _ _).set _ _).set _ _).set _ _).set _ _).1.mono (by omega))⟩

set_option maxRecDepth 100000 in
set_option maxHeartbeats 4000000 in
theorem specMatch_no (defs : List Pat) (dA : Option Addr) (dc : Nat) (p : Pat) (kv : Value) (s : ByteArray) (fr fuel : Int) (w : World) (hs : Smalls defs) (hp : Small p) (hd : RowIn w dA 0 defs) (hin : KidsIn w p kv) (hdl : defs.length ≤ 1099511627776) (hsl : s.size ≤ 1099511627776) (hno : answers defs p s fr fuel = false) :
    Calls Try.prog 12 #[.slice dA defs.length dc, p.v kv, .string s, .int .i64 fr, .int .i64 fuel] w (MatchIs w .none 0) := by
  obtain ⟨kA, kc, rfl, _, _⟩ := hin.form
  have HS := Lib.hid hs
  have HP := Lib.hid hp
  have HD := Lib.hid hd
  have HIN := Lib.hid hin
  clear hs hp hd hin
  by_cases hv : validD defs p = true
  · by_cases c1 : s.size ≤ 120
    · have c1 : ¬ ((120 : Int) < s.size) := by omega
      cases hf : (decide (0 ≤ fr) && decide (fr ≤ (s.size : Int))) with
      | false =>
        have HV := Lib.hid hv
        have HF := Lib.hid hf
        clear hv hno hf
        have t1 : decide ((120 : Int) < s.size) = false := by simpa using c1
        go_enter Try.func12, Try.ntmps12
        go_wp2_with fail
        have HLA := Lib.hid (((Later.refl w).alloc (Obj.cells #[.int .i64 p.op, .string p.text, .int .i64 p.num, .int .i64 p.lo, .int .i64 p.hi, .slice kA p.kids.length kc] TP)).alloc (Obj.cells zeroM TR))
        refine (l18Defs_is true defs dA dc p _ _ HS.out HP.out (RowIn.later HLA.out _ _ _ HD.out) (KidsIn.later HLA.out _ _ HIN.out) hdl HV.out).mono ?_
        rintro e w2 ⟨rfl, hb2⟩
        have HR2 := Lib.hid (Later.has hb2 (heap_alloc_new _ _))
        simp only [World.size_alloc] at HR2
        have HL2 := Lib.hid (HLA.out.trans hb2)
        clear hb2 HLA
        go_wp2_with fail
        refine (l1In_is false _ _ _ _ HF.out).mono ?_
        rintro e w3 ⟨rfl, rfl⟩
        obtain ⟨r0, r1, r2, r3, r4, r5, r6, r7⟩ := cells_r HR2.out
        obtain ⟨f0, f1, f2, f3, f4, f5, f6, f7⟩ := frozen_r HR2.out
        go_wp2_with fail
        refine bodyPost_ret (v := matchV .none 0 (.slice none 0 0) (.slice none 0 0)) (by simp [results, Try.results12, go_sem, r0, r1, r2, r3, r4, r5, r6, r7, Res.none]) rfl ?_
        exact ⟨_, _, rfl, HasRow.nil _ _ _ _, HasRow.nil _ _ _ _, .inl rfl, Below.trans HL2.out ((((((((((OnlyAt.refl _ _).set _ _).set _ _).set _ _).set _ _).set _ _).set _ _).set _ _).set _ _).1.mono (by omega))⟩
      | true =>
        cases hu : (decide (0 ≤ fuel) && decide (fuel ≤ (4000 : Int))) with
        | false =>
          have HV := Lib.hid hv
          have HF := Lib.hid hf
          have HU := Lib.hid hu
          clear hv hno hf hu
          have t1 : decide ((120 : Int) < s.size) = false := by simpa using c1
          go_enter Try.func12, Try.ntmps12
          go_wp2_with fail
          have HLA := Lib.hid (((Later.refl w).alloc (Obj.cells #[.int .i64 p.op, .string p.text, .int .i64 p.num, .int .i64 p.lo, .int .i64 p.hi, .slice kA p.kids.length kc] TP)).alloc (Obj.cells zeroM TR))
          refine (l18Defs_is true defs dA dc p _ _ HS.out HP.out (RowIn.later HLA.out _ _ _ HD.out) (KidsIn.later HLA.out _ _ HIN.out) hdl HV.out).mono ?_
          rintro e w2 ⟨rfl, hb2⟩
          have HR2 := Lib.hid (Later.has hb2 (heap_alloc_new _ _))
          simp only [World.size_alloc] at HR2
          have HL2 := Lib.hid (HLA.out.trans hb2)
          clear hb2 HLA
          go_wp2_with fail
          refine (l1In_is true _ _ _ _ HF.out).mono ?_
          rintro e w3 ⟨rfl, rfl⟩
          go_wp2_with fail
          refine (l1In_is false _ _ _ _ HU.out).mono ?_
          rintro e w3 ⟨rfl, rfl⟩
          obtain ⟨r0, r1, r2, r3, r4, r5, r6, r7⟩ := cells_r HR2.out
          obtain ⟨f0, f1, f2, f3, f4, f5, f6, f7⟩ := frozen_r HR2.out
          go_wp2_with fail
          refine bodyPost_ret (v := matchV .none 0 (.slice none 0 0) (.slice none 0 0)) (by simp [results, Try.results12, go_sem, r0, r1, r2, r3, r4, r5, r6, r7, Res.none]) rfl ?_
          exact ⟨_, _, rfl, HasRow.nil _ _ _ _, HasRow.nil _ _ _ _, .inl rfl, Below.trans HL2.out ((((((((((OnlyAt.refl _ _).set _ _).set _ _).set _ _).set _ _).set _ _).set _ _).set _ _).set _ _).1.mono (by omega))⟩
        | true =>
          exfalso
          simp only [Bool.and_eq_true, decide_eq_true_eq] at hf hu
          simp [answers, hv] at hno
          omega
    · have c1 : (120 : Int) < s.size := by omega
      have HV := Lib.hid hv
      clear hv hno
      have t1 : decide ((120 : Int) < s.size) = true := by simpa using c1
      go_enter Try.func12, Try.ntmps12
      go_wp2_with fail
      have HLA := Lib.hid (((Later.refl w).alloc (Obj.cells #[.int .i64 p.op, .string p.text, .int .i64 p.num, .int .i64 p.lo, .int .i64 p.hi, .slice kA p.kids.length kc] TP)).alloc (Obj.cells zeroM TR))
      refine (l18Defs_is true defs dA dc p _ _ HS.out HP.out (RowIn.later HLA.out _ _ _ HD.out) (KidsIn.later HLA.out _ _ HIN.out) hdl HV.out).mono ?_
      rintro e w2 ⟨rfl, hb2⟩
      have HR2 := Lib.hid (Later.has hb2 (heap_alloc_new _ _))
      simp only [World.size_alloc] at HR2
      have HL2 := Lib.hid (HLA.out.trans hb2)
      clear hb2 HLA
      obtain ⟨r0, r1, r2, r3, r4, r5, r6, r7⟩ := cells_r HR2.out
      obtain ⟨f0, f1, f2, f3, f4, f5, f6, f7⟩ := frozen_r HR2.out
      go_wp2_with fail
      refine bodyPost_ret (v := matchV .none 0 (.slice none 0 0) (.slice none 0 0)) (by simp [results, Try.results12, go_sem, r0, r1, r2, r3, r4, r5, r6, r7, Res.none]) rfl ?_
      exact ⟨_, _, rfl, HasRow.nil _ _ _ _, HasRow.nil _ _ _ _, .inl rfl, Below.trans HL2.out ((((((((((OnlyAt.refl _ _).set _ _).set _ _).set _ _).set _ _).set _ _).set _ _).set _ _).set _ _).1.mono (by omega))⟩
  · have hv : validD defs p = false := by simpa using hv
    have HV := Lib.hid hv
    clear hv hno
    go_enter Try.func12, Try.ntmps12
    go_wp2_with fail
    have HLA := Lib.hid (((Later.refl w).alloc (Obj.cells #[.int .i64 p.op, .string p.text, .int .i64 p.num, .int .i64 p.lo, .int .i64 p.hi, .slice kA p.kids.length kc] TP)).alloc (Obj.cells zeroM TR))
    refine (l18Defs_is false defs dA dc p _ _ HS.out HP.out (RowIn.later HLA.out _ _ _ HD.out) (KidsIn.later HLA.out _ _ HIN.out) hdl HV.out).mono ?_
    rintro e w2 ⟨rfl, hb2⟩
    have HR2 := Lib.hid (Later.has hb2 (heap_alloc_new _ _))
    simp only [World.size_alloc] at HR2
    have HL2 := Lib.hid (HLA.out.trans hb2)
    clear hb2 HLA
    obtain ⟨r0, r1, r2, r3, r4, r5, r6, r7⟩ := cells_r HR2.out
    obtain ⟨f0, f1, f2, f3, f4, f5, f6, f7⟩ := frozen_r HR2.out
    go_wp2_with fail
    refine bodyPost_ret (v := matchV .none 0 (.slice none 0 0) (.slice none 0 0)) (by simp [results, Try.results12, go_sem, r0, r1, r2, r3, r4, r5, r6, r7, Res.none]) rfl ?_
    exact ⟨_, _, rfl, HasRow.nil _ _ _ _, HasRow.nil _ _ _ _, .inl rfl, Below.trans HL2.out ((((((((((OnlyAt.refl _ _).set _ _).set _ _).set _ _).set _ _).set _ _).set _ _).set _ _).set _ _).1.mono (by omega))⟩

set_option maxRecDepth 100000 in
set_option maxHeartbeats 4000000 in
theorem specMatch_play (defs : List Pat) (dA : Option Addr) (dc : Nat) (p : Pat) (kv : Value) (s : ByteArray) (fr fuel : Nat) (w : World) (hs : Smalls defs) (hp : Small p) (hd : RowIn w dA 0 defs) (hin : KidsIn w p kv) (hvd : validD defs p = true)
    (hss : s.size ≤ 120) (hfr : fr ≤ s.size) (hfu : fuel ≤ 4000) :
    Calls Try.prog 12 #[.slice dA defs.length dc, p.v kv, .string s, .int .i64 fr, .int .i64 fuel] w (MatchIs w (play defs s fuel 0 [⟨0, p, 0⟩] (.start fr)) (matchFrom (play defs s fuel 0 [⟨0, p, 0⟩] (.start fr)) fr)) := by
  obtain ⟨kA, kc, rfl, _, _⟩ := hin.form
  have hlen : defs.length ≤ 24 := (validD_defs hvd hs).1.len
  have HS := Lib.hid hs
  have HP := Lib.hid hp
  have HD := Lib.hid hd
  have HIN := Lib.hid hin
  clear hs hp hd hin
  have HV := Lib.hid hvd
  obtain ⟨R, hR⟩ : ∃ R, play defs s fuel 0 [⟨0, p, 0⟩] (.start fr) = R := ⟨_, rfl⟩
  rw [hR]
  have HRES := Lib.hid hR
  clear hR
  have t1 : decide ((120 : Int) < s.size) = false := by simp; omega
  have HF : Hid ((decide (0 ≤ (fr : Int)) && decide ((fr : Int) ≤ (s.size : Int))) = true) := Lib.hid (by simp; omega)
  have HU : Hid ((decide (0 ≤ (fuel : Int)) && decide ((fuel : Int) ≤ (4000 : Int))) = true) := Lib.hid (by simp; omega)
  clear hvd
  go_enter Try.func12, Try.ntmps12
  go_wp2_with fail
  have HLA := Lib.hid (((Later.refl w).alloc (Obj.cells #[.int .i64 p.op, .string p.text, .int .i64 p.num, .int .i64 p.lo, .int .i64 p.hi, .slice kA p.kids.length kc] TP)).alloc (Obj.cells zeroM TR))
  refine (l18Defs_is true defs dA dc p _ _ HS.out HP.out (RowIn.later HLA.out _ _ _ HD.out) (KidsIn.later HLA.out _ _ HIN.out) (by omega) HV.out).mono ?_
  rintro e w2 ⟨rfl, hb2⟩
  have HR2 := Lib.hid (Later.has hb2 (heap_alloc_new _ _))
  have HP2 := Lib.hid (Later.has hb2 (((Later.refl _).alloc _).has (heap_alloc_new w _)))
  simp only [World.size_alloc] at HR2
  have HL2 := Lib.hid (HLA.out.trans hb2)
  clear hb2 HLA
  obtain ⟨p0, p1, p2, p3, p4, p5⟩ := cells_p HP2.out
  go_wp2_with fail
  refine (l1In_is true _ _ _ _ HF.out).mono ?_
  rintro e w3 ⟨rfl, rfl⟩
  go_wp2_with fail
  refine (l1In_is true _ _ _ _ HU.out).mono ?_
  rintro e w3 ⟨rfl, rfl⟩
  go_wp2_with fail
  refine (l20Match_play defs dA dc p _ s fr fuel _ HS.out HP.out (RowIn.later HL2.out _ _ _ HD.out) (KidsIn.later HL2.out _ _ HIN.out) HV.out hss hfr hfu).mono ?_
  rw [HRES.out]
  rintro e w4 ⟨cv, ev, rfl, h1, h2, h3, h4⟩
  obtain ⟨cA, cc, rfl, _, _⟩ := h1.form
  obtain ⟨eA, ec, rfl, _, _⟩ := h2.form
  have H1 := Lib.hid h1
  have H2 := Lib.hid h2
  have H3 := Lib.hid h3
  have H4 := Lib.hid h4
  have HR4 := Lib.hid (Later.has h4 HR2.out)
  clear h1 h2 h3 h4 p0 p1 p2 p3 p4 p5
  obtain ⟨r0, r1, r2, r3, r4, r5, r6, r7⟩ := cells_r HR4.out
  obtain ⟨f0, f1, f2, f3, f4, f5, f6, f7⟩ := frozen_r HR4.out
  go_wp2_with fail
  refine bodyPost_ret (v := matchV R (matchFrom R fr) (.slice cA R.caps.length cc) (.slice eA R.events.length ec)) (by simp [results, Try.results12, go_sem, r0, r1, r2, r3, r4, r5, r6, r7]) rfl ?_
  exact matchIs_mk HL2.out H1.out H2.out H3.out H4.out HR4.out (by omega) (((((((((OnlyAt.refl _ _).set _ _).set _ _).set _ _).set _ _).set _ _).set _ _).set _ _).set _ _)

end Go.Proofs.Ytndefbecoahfhaa

/- MatchPattern of both sides at every argument: one answer. -/
namespace Go.Proofs.Ytndefbecoahfhaa
open Go.RowKit

theorem answers_parts {defs : List Pat} {p : Pat} {s : ByteArray} {fr fuel : Int} (h : answers defs p s fr fuel = true) : validD defs p = true ∧ s.size ≤ 120 ∧ 0 ≤ fr ∧ fr ≤ s.size ∧ 0 ≤ fuel ∧ fuel ≤ 4000 := by
  simp only [answers, Bool.and_eq_true, decide_eq_true_eq] at h
  exact ⟨h.1.1.1.1.1, h.1.1.1.1.2, h.1.1.1.2, h.1.1.2, h.1.2, h.2⟩

section
variable (defs : List Pat) (dA : Option Addr) (dc : Nat) (p : Pat) (kv : Value) (s : ByteArray) (fr fuel : Int) (w : World) (hs : Smalls defs) (hp : Small p) (hd : RowIn w dA 0 defs) (hin : KidsIn w p kv) (hdl : defs.length ≤ 1099511627776) (hsl : s.size ≤ 1099511627776)
include hs hp hd hin hdl hsl
theorem implMatch_any : Calls Try.prog 11 #[.slice dA defs.length dc, p.v kv, .string s, .int .i64 fr, .int .i64 fuel] w (MatchIs w (matchRes defs p s fr fuel) (matchFrom (matchRes defs p s fr fuel) fr)) := by
  cases ha : answers defs p s fr fuel with
  | false =>
    rw [show matchRes defs p s fr fuel = .none by simp [matchRes, ha]]
    exact implMatch_no defs dA dc p kv s fr fuel w hs hp hd hin hdl hsl ha
  | true =>
    obtain ⟨h1, h2, h3, h4, h5, h6⟩ := answers_parts ha
    rw [show matchRes defs p s fr fuel = play defs s fuel.toNat 0 [⟨0, p, 0⟩] (.start fr.toNat) by simp [matchRes, ha]]
    have := matchPattern_play defs dA dc p kv s fr.toNat fuel.toNat w hs hp hd hin h1 h2 (by omega) (by omega)
    rw [Int.toNat_of_nonneg h3, Int.toNat_of_nonneg h5] at this
    exact this
theorem specMatch_any : Calls Try.prog 12 #[.slice dA defs.length dc, p.v kv, .string s, .int .i64 fr, .int .i64 fuel] w (MatchIs w (matchRes defs p s fr fuel) (matchFrom (matchRes defs p s fr fuel) fr)) := by
  cases ha : answers defs p s fr fuel with
  | false =>
    rw [show matchRes defs p s fr fuel = .none by simp [matchRes, ha]]
    exact specMatch_no defs dA dc p kv s fr fuel w hs hp hd hin hdl hsl ha
  | true =>
    obtain ⟨h1, h2, h3, h4, h5, h6⟩ := answers_parts ha
    rw [show matchRes defs p s fr fuel = play defs s fuel.toNat 0 [⟨0, p, 0⟩] (.start fr.toNat) by simp [matchRes, ha]]
    have := specMatch_play defs dA dc p kv s fr.toNat fuel.toNat w hs hp hd hin h1 h2 (by omega) (by omega)
    rw [Int.toNat_of_nonneg h3, Int.toNat_of_nonneg h5] at this
    exact this
end
end Go.Proofs.Ytndefbecoahfhaa

/- What is wanted of the texts on the laws over rows. -/
namespace Go.Proofs.Ytndefbecoahfhaa
open Go.RowKit
section
variable {P : Program} (w : World)
/-- append(xs, ys...): both rows known. -/
theorem run_append_row (base base2 : Nat) (t ty e : TypeId) (i : TypeInfo) (z : Value) (size bytes : Nat) (ht : P.underlying t = some (.slice e)) (hi : P.info? e = some i) (hz : i.zero = some z)
    (hsize : i.size = size) (hby : i.bytes = bytes) (hzs : z.cells.size = size) {v : Value} {n : Nat} {xs : List Value} (hown : HasRow w base e size v n xs)
    {v2 : Value} {m : Nat} {ys : List Value} (hsrc : HasRow w base2 e size v2 m ys) (h1 : ∀ u ∈ ys, u.oneCell' = true) (hn : n ≤ 10000000) (hm : m ≤ 10000000) (hbytes : bytes ≤ 1000) (hbase : base ≤ w.heap.size) :
    ∃ v' w', (Builtin.append_ #[t, t] ty #[v, v2]).run P w = .ok v' w' ∧ HasRow w' base e size v' (n + m) (xs ++ ys) ∧ w.grownBy w' v.ownBlock ∧ (v'.ownBlock = v.ownBlock ∨ v'.ownBlock = some w.heap.size) := by
  by_cases h0 : m = 0
  · subst h0
    have hy : ys = [] := List.eq_nil_of_length_eq_zero (by simpa using hsrc.1)
    subst hy
    refine ⟨v, w, ?_, by simpa using hown, World.grownBy.refl w _, .inl rfl⟩
    obtain ⟨A, c, rfl, _, _⟩ := hsrc.form
    obtain ⟨B, d, rfl, hd, _⟩ := hown.form
    cases A <;> cases B <;> simp [Builtin.append_, run_underlying ht, sizeOf, typeInfo, hi, Builtin.lenOf, Builtin.firstCells, loadCells, loadCellsFrom, storeCells, hd]
  · obtain ⟨g, c, rfl, _, _, _⟩ := hsrc.block_ (by omega)
    have hcells := hsrc.cells (g := g) rfl
    have hnews : ∀ j u, ys[j]? = some u → w.cell? ((⟨g, 0, none⟩ : Addr).add j) = some u := fun j u hu => by
      have hadd : (⟨g, 0, none⟩ : Addr).add j = ⟨g, j, none⟩ := by unfold Addr.add; split <;> simp_all
      rw [hadd]
      exact hcells j u hu
    exact run_append_has w base t ty e i z size bytes ht hi hz hsize hby hzs v n xs hown ⟨g, 0, none⟩ m c ys hsrc.1 hnews h1 (by omega) (by simp only [maxLen]; omega)
      (by have := Nat.mul_le_mul (show n + m ≤ 20000000 by omega) hbytes; omega) hbase

theorem wpList_append_row {ops : Array Oper} {rest : List Oper} {o : Oper} {a : Act} {Q : Exit → Act → World → Prop} (hgd : o.guard = none) (s x : Operand) (t : TypeId)
    (ho : o.op = .call { callee := .builtin .append, args := #[s, x], argTypes := #[t, t] })
    (base base2 : Nat) (e : TypeId) (i : TypeInfo) (z : Value) (size bytes : Nat) (ht : P.underlying t = some (.slice e)) (hi : P.info? e = some i) (hz : i.zero = some z)
    (hsize : i.size = size) (hby : i.bytes = bytes) (hzs : z.cells.size = size) {v : Value} {n : Nat} {xs : List Value} (hs : a.eval s = v) (hown : HasRow w base e size v n xs)
    {v2 : Value} {m : Nat} {ys : List Value} (hx : a.eval x = v2) (hsrc : HasRow w base2 e size v2 m ys) (h1 : ∀ u ∈ ys, u.oneCell' = true) (hn : n ≤ 10000000) (hm : m ≤ 10000000) (hbytes : bytes ≤ 1000) (hbase : base ≤ w.heap.size)
    (h : ∀ v' w', HasRow w' base e size v' (n + m) (xs ++ ys) → w.grownBy w' v.ownBlock → (v'.ownBlock = v.ownBlock ∨ v'.ownBlock = some w.heap.size) → wpList P ops Q rest (a.put o.dst v') w') : wpList P ops Q (o :: rest) a w := by
  refine wpList_plain hgd fun _ hK => ?_
  obtain ⟨v', w', hr, h2, h3, h4⟩ := run_append_row (P := P) w base base2 t o.type e i z size bytes ht hi hz hsize hby hzs hown hsrc h1 hn hm hbytes hbase
  unfold Oper.wp execOp
  simp only [ho, resolve, invoke, builtin, Sem.run_bind, Sem.run_pure, Result.andThen_ok, List.map_toArray, List.map_cons, List.map_nil, hs, hx, hr]
  exact hK _ _ (h v' w' h2 h3 h4)
end

theorem capCells_one : ∀ (l : List Cap), ∀ u ∈ capCells l, u.oneCell' = true
  | [], u, h => by simp [capCells] at h
  | c :: l, u, h => by
    simp only [capCells, List.mem_append, List.mem_cons, List.not_mem_nil, or_false] at h
    rcases h with (rfl | rfl | rfl) | h
    · rfl
    · rfl
    · rfl
    · exact capCells_one l u h

/-! ### How long an answer can be -/
theorem play_len {defs : List Pat} {s : ByteArray} (hd : DefsOk defs) (hs : s.size ≤ 120) : ∀ (k n : Nat) (gs : List Goal) (m : Mst), Ok defs s n gs m → (play defs s k n gs m).caps.length ≤ n + k ∧ (play defs s k n gs m).events.length ≤ n + k
  | k, n, [], m, h => by
    rw [play_nil]
    have h1 := h.ncap
    have h2 := h.nev
    exact ⟨by show m.caps.length ≤ _; omega, by show m.events.length ≤ _; omega⟩
  | 0, n, g :: gs, m, h => by
    rw [play_zero]
    have h2 := h.nev
    exact ⟨Nat.zero_le _, by show m.events.length ≤ _; omega⟩
  | k + 1, n, g :: gs, m, h => by
    have h2 := h.nev
    cases hst : step defs s g gs m with
    | go gs' m' =>
      rw [play_go hst]
      have := play_len hd hs k (n + 1) gs' m' (step_ok hd hs h hst)
      omega
    | stop =>
      rw [play_stop hst]
      exact ⟨Nat.zero_le _, by show m.events.length ≤ _; omega⟩
    | fail =>
      rcases List.eq_nil_or_concat m.choices with hc | ⟨cs, c, hc⟩
      · rw [play_none hst hc]
        exact ⟨Nat.zero_le _, by show m.events.length ≤ _; omega⟩
      · rw [List.concat_eq_append] at hc
        rw [play_last hst hc]
        by_cases hst' : c.stop = true
        · rw [if_pos hst']
          exact ⟨Nat.zero_le _, by show m.events.length ≤ _; omega⟩
        · rw [if_neg hst']
          have := play_len hd hs k (n + 1) c.goals _ (h.pop hc)
          omega
theorem matchRes_len {defs : List Pat} {p : Pat} {s : ByteArray} {fr fuel : Int} (hs : Smalls defs) (hp : Small p) : (matchRes defs p s fr fuel).caps.length ≤ 4000 ∧ (matchRes defs p s fr fuel).events.length ≤ 4000 := by
  unfold matchRes
  cases ha : answers defs p s fr fuel with
  | false => exact ⟨Nat.zero_le _, Nat.zero_le _⟩
  | true =>
    obtain ⟨h1, h2, h3, h4, h5, h6⟩ := answers_parts ha
    obtain ⟨hd, hv⟩ := validD_defs h1 hs
    have := play_len hd h2 fuel.toNat 0 [⟨0, p, 0⟩] (.start fr.toNat) (ok_start hv hp (by omega))
    exact ⟨by show (play _ _ _ _ _ _).caps.length ≤ _; omega, by show (play _ _ _ _ _ _).events.length ≤ _; omega⟩

theorem capCells_at : ∀ (l : List Cap) (j : Nat) (h : j < l.length), (capCells l)[j * 3]? = some (.int .i64 l[j].var) ∧ (capCells l)[j * 3 + 1]? = some (.int .i64 l[j].fr) ∧ (capCells l)[j * 3 + 2]? = some (.int .i64 l[j].to)
  | [], j, h => by simp at h
  | c :: l, 0, _ => by simp [capCells]
  | c :: l, j + 1, h => by
    have := capCells_at l j (by simpa using h)
    simpa [capCells, show (j + 1) * 3 = j * 3 + 3 by omega, show (j + 1) * 3 + 1 = j * 3 + 1 + 3 by omega, show (j + 1) * 3 + 2 = j * 3 + 2 + 3 by omega] using this
theorem cap_cells {w x : World} {b : Nat} {v : Value} {l : List Cap} (h : HasRow w b TK 3 v l.length (capCells l)) {j : Nat} (hj : j < l.length) (hl : Below w.heap.size w x) :
    ∃ g c, v = .slice (some ⟨g, 0, none⟩) l.length c ∧ x.cell? ⟨g, j * 3, none⟩ = some (.int .i64 l[j].var) ∧ x.cell? ⟨g, j * 3 + 1, none⟩ = some (.int .i64 l[j].fr) ∧ x.cell? ⟨g, j * 3 + 2, none⟩ = some (.int .i64 l[j].to) := by
  obtain ⟨g, c, rfl, _, _, _⟩ := h.block_ (by omega)
  have hc := h.cells (g := g) rfl
  have hg := (h.lt g rfl).2.1
  obtain ⟨c0, c1, c2⟩ := capCells_at l j hj
  exact ⟨g, c, rfl, (Later.cell hl _ hg).trans (hc _ _ c0), (Later.cell hl _ hg).trans (hc _ _ c1), (Later.cell hl _ hg).trans (hc _ _ c2)⟩

theorem HasRow.base0 {w : World} {base : Nat} {e : TypeId} {size : Nat} {v : Value} {n : Nat} {xs : List Value} (h : HasRow w base e size v n xs) : HasRow w 0 e size v n xs := by
  refine ⟨h.1, ?_⟩
  rcases h.2 with hn | ⟨g, cap, cur, rfl, hb, rest⟩
  · exact .inl hn
  · exact .inr ⟨g, cap, cur, rfl, Nat.zero_le _, rest⟩
structure MAt (w : World) (b lo : Nat) (r : Res) (fr : Int) (cv ev : Value) : Prop where
  blk : w.heap[b]? = some (.cells #[.bool r.found, .bool r.stopped, .bool r.exhausted, .int .i64 fr, .int .i64 r.at_, .int .i64 r.steps, cv, ev] TR (0, 0))
  caps : HasRow w lo TK 3 cv r.caps.length (capCells r.caps)
  evs : HasRow w lo TK 3 ev r.events.length (capCells r.events)
  apart : cv.ownBlock = none ∨ cv.ownBlock ≠ ev.ownBlock
section
variable {w x : World} {b lo : Nat} {r : Res} {fr : Int} {cv ev : Value}
theorem row_keep {w x : World} {base : Nat} {e : TypeId} {size : Nat} {v : Value} {n : Nat} {xs : List Value} (h : HasRow w base e size v n xs) (hk : KeepT e w x) : HasRow x base e size v n xs :=
  h.same fun k hb => by obtain ⟨_, _, c, hc⟩ := h.lt k hb; rw [hk k c hc, hc]
theorem MAt.keep (h : MAt w b lo r fr cv ev) (h1 : KeepT TR w x) (h2 : KeepT TK w x) : MAt x b lo r fr cv ev := ⟨h1 b _ h.blk, row_keep h.caps h2, row_keep h.evs h2, h.apart⟩
theorem MAt.later (h : MAt w b lo r fr cv ev) (hl : Later w x) : MAt x b lo r fr cv ev := h.keep (KeepT.later hl) (KeepT.later hl)
end
end Go.Proofs.Ytndefbecoahfhaa
