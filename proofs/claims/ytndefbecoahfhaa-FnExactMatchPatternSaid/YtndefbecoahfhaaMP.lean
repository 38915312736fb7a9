/- impl's MatchPattern. Printed by gen_mp.py. -/
import Derived.Test.YtndefbecoahfhaaMPBase
import Derived.Outline
namespace Go.Proofs.Ytndefbecoahfhaa
open Go.RowKit

set_option maxRecDepth 100000 in
set_option maxHeartbeats 4000000 in
theorem matchPattern_play (defs : List Pat) (dA : Option Addr) (dc : Nat) (p : Pat) (kv : Value) (s : ByteArray) (fr fuel : Nat) (w : World) (hs : Smalls defs) (hp : Small p) (hd : RowIn w dA 0 defs) (hin : KidsIn w p kv) (hvd : validD defs p = true)
    (hss : s.size ≤ 120) (hfr : fr ≤ s.size) (hfu : fuel ≤ 4000) :
    Calls Try.prog 11 #[.slice dA defs.length dc, p.v kv, .string s, .int .i64 fr, .int .i64 fuel] w (MatchIs w (play defs s fuel 0 [⟨0, p, 0⟩] (.start fr)) (matchFrom (play defs s fuel 0 [⟨0, p, 0⟩] (.start fr)) fr)) := by
  obtain ⟨kA, kc, rfl, _, _⟩ := hin.form
  obtain ⟨hdok, hpv⟩ := validD_defs hvd hs
  have hlen := hdok.len
  have HD := Lib.hid hdok
  have HV := Lib.hid (ok_start hpv hp hfr)
  have HROW := Lib.hid hd
  have HIN := Lib.hid hin
  have HS := Lib.hid hs
  have HP := Lib.hid hp
  have HVD := Lib.hid hvd
  obtain ⟨RES, hR⟩ : ∃ R, play defs s fuel 0 [⟨0, p, 0⟩] (.start fr) = R := ⟨_, rfl⟩
  rw [hR]
  have HRES := Lib.hid hR
  clear hR hdok hpv hd hin hs hp hvd
  have i1 : (s.size : Int) ≤ 120 := by omega
  have i2 : (fr : Int) ≤ s.size := by omega
  have i3 : (fuel : Int) ≤ 4000 := by omega
  have t1 : decide ((120 : Int) < s.size) = false := by simp; omega
  have t2 : decide ((fr : Int) < 0) = false := by simp
  have t3 : decide (s.size < fr) = false := by simp; omega
  have t4 : decide ((fuel : Int) < 0) = false := by simp
  have t5 : decide ((4000 : Int) < fuel) = false := by simp; omega
  go_enter Try.func11, Try.ntmps11
  go_wp2_with fail
  have HLA := Lib.hid (((Later.refl w).alloc (Obj.cells #[.int .i64 p.op, .string p.text, .int .i64 p.num, .int .i64 p.lo, .int .i64 p.hi, .slice kA p.kids.length kc] TP)).alloc (Obj.cells zeroM TR))
  refine (validDefinitions_is true defs dA dc p _ _ HS.out HP.out (RowIn.later HLA.out _ _ _ HROW.out) (KidsIn.later HLA.out _ _ HIN.out) (by omega) HVD.out).mono ?_
  rintro e w2 ⟨rfl, hb2⟩
  have HL2 := Lib.hid (HLA.out.trans hb2)
  have HP2 := Lib.hid (Later.has hb2 (((Later.refl _).alloc _).has (heap_alloc_new w _)))
  have HR2 := Lib.hid (Later.has hb2 (heap_alloc_new _ _))
  simp only [World.size_alloc] at HR2
  have HIN2 := Lib.hid (KidsIn.later HL2.out _ _ HIN.out)
  have HROW2 := Lib.hid (RowIn.later HL2.out _ _ _ HROW.out)
  clear hb2 HLA
  obtain ⟨p0, p1, p2, p3, p4, p5⟩ := cells_p HP2.out
  have hz1 := has_lt HP2.out
  have hz2 := has_lt HR2.out
  go_wp2_with fail
  clear p0 p1 p2 p3 p4 p5
  obtain ⟨M, hM⟩ : ∃ M, w2.heap.size = M := ⟨_, rfl⟩
  obtain ⟨RB, hRBe⟩ : ∃ RB, w.heap.size + 1 = RB := ⟨_, rfl⟩
  have hwz : w.heap.size ≤ RB := by omega
  rw [hRBe] at HR2 hz2
  rw [hM, hRBe]
  have HME := Lib.hid hM
  clear hM hRBe hz1
  go_loopg [12] fuel (fun k gv wr => LoopRel w2 defs dA dc s M fuel RES k gv wr)
  case atStart =>
    obtain rfl := HME.out
    exact ⟨0, [⟨0, p, 0⟩], .start fr, .slice none 0 0, .slice none 0 0, .slice none 0 0, [], by omega, ⟨_, _, _, rfl, by rw [show w2.heap.size + 1 = (w2.alloc _).heap.size by simp]; exact heap_alloc_new _ _, HIN2.out, rfl⟩, implAt_start (Later.refl w2) _, HV.out, HRES.out⟩
  case round =>
    obtain ⟨n, gs, m, cv, ev, hv, hs, hnk, hg, hI, hok, hpl⟩ := hrel
    have hRB := (hI.below.block _ hz2).trans HR2.out
    obtain ⟨cA, cc, rfl, _, _⟩ := hI.caps.form
    obtain ⟨eA, ec, rfl, _, _⟩ := hI.evs.form
    obtain ⟨hA, hc, rfl, _, _⟩ := hI.chs.form
    have hRM : ¬ RB = M := ne_of_type hRB hI.blk (by decide)
    have hMR : ¬ M = RB := fun e => hRM e.symm
    have HI := Lib.hid hI
    have HB := Lib.hid hRB
    have HPL := Lib.hid hpl
    have HK := Lib.hid hok
    clear hI hRB hpl hok
    cases gs with
    | nil =>
      simp only [GoalsAt] at hg
      subst hg
      rw [play_nil] at HPL
      go_wp2_with fail
      -- region 23: 22 operations, the last [21]
      refine wpU_begin [21] [] (by kernel_rfl) (fun w3 hw3 => ?_)
      have hl3 := drew_later hw3
      have HI3 := Lib.hid (HI.out.later hl3)
      have HB3 := Lib.hid (hl3.has HB.out)
      clear hw3 hl3
      refine wpU_take 0 (some 180) (v := ?_) rfl rfl (by kernel_rfl) (fun _ _ _ h => h) rfl (fun x hx => ?_) ?_
      rotate_left 1
      · go_simp; first | done | with_reducible rfl | rw [if_neg (by omega)] | rw [if_pos (by omega)]
      simp only [Act.put, List.setIfInBounds_toArray, List.set_cons_zero, List.set_cons_succ]
      refine wpU_take 1 (some 181) (v := ?_) rfl rfl (by kernel_rfl) (fun _ _ _ h => h) rfl (fun x hx => ?_) ?_
      rotate_left 1
      · go_simp; first | done | with_reducible rfl | rw [if_neg (by omega)] | rw [if_pos (by omega)]
      simp only [Act.put, List.setIfInBounds_toArray, List.set_cons_zero, List.set_cons_succ]
      refine wpU_take 2 (some 182) (v := ?_) rfl rfl (by kernel_rfl) (fun _ _ _ h => h) rfl (fun x hx => ?_) ?_
      rotate_left 1
      · go_simp; first | done | with_reducible rfl | rw [if_neg (by omega)] | rw [if_pos (by omega)]
      simp only [Act.put, List.setIfInBounds_toArray, List.set_cons_zero, List.set_cons_succ]
      refine wpU_take 3 (some 183) (v := ?_) rfl rfl (by kernel_rfl) (fun _ _ _ h => h) rfl (fun x hx => ?_) ?_
      rotate_left 1
      · go_simp; first | done | with_reducible rfl | rw [if_neg (by omega)] | rw [if_pos (by omega)]
      simp only [Act.put, List.setIfInBounds_toArray, List.set_cons_zero, List.set_cons_succ]
      refine wpU_take 4 (some 184) (v := ?_) rfl rfl (by kernel_rfl) (fun _ _ _ h => h) rfl (fun x hx => ?_) ?_
      rotate_left 1
      · obtain ⟨m0, m1, m2, m8, m9, m10, m11⟩ := cells_m (hx.has HI3.out.blk); go_simp; first | done | with_reducible rfl | rw [if_neg (by omega)] | rw [if_pos (by omega)]
      simp only [Act.put, List.setIfInBounds_toArray, List.set_cons_zero, List.set_cons_succ]
      refine wpU_take 5 (some 185) (v := ?_) rfl rfl (by kernel_rfl) (fun _ _ _ h => h) rfl (fun x hx => ?_) ?_
      rotate_left 1
      · go_simp; first | done | with_reducible rfl | rw [if_neg (by omega)] | rw [if_pos (by omega)]
      simp only [Act.put, List.setIfInBounds_toArray, List.set_cons_zero, List.set_cons_succ]
      refine wpU_take 6 (some 186) (v := ?_) rfl rfl (by kernel_rfl) (fun _ _ _ h => h) rfl (fun x hx => ?_) ?_
      rotate_left 1
      · go_simp; first | done | with_reducible rfl | rw [if_neg (by omega)] | rw [if_pos (by omega)]
      simp only [Act.put, List.setIfInBounds_toArray, List.set_cons_zero, List.set_cons_succ]
      refine wpU_take 7 (some 187) (v := ?_) rfl rfl (by kernel_rfl) (fun _ _ _ h => h) rfl (fun x hx => ?_) ?_
      rotate_left 1
      · go_simp; first | done | with_reducible rfl | rw [if_neg (by omega)] | rw [if_pos (by omega)]
      simp only [Act.put, List.setIfInBounds_toArray, List.set_cons_zero, List.set_cons_succ]
      refine wpU_take 8 (some 188) (v := ?_) rfl rfl (by kernel_rfl) (fun _ _ _ h => h) rfl (fun x hx => ?_) ?_
      rotate_left 1
      · go_simp; first | done | with_reducible rfl | rw [if_neg (by omega)] | rw [if_pos (by omega)]
      simp only [Act.put, List.setIfInBounds_toArray, List.set_cons_zero, List.set_cons_succ]
      refine wpU_take 9 (some 189) (v := ?_) rfl rfl (by kernel_rfl) (fun _ _ _ h => h) rfl (fun x hx => ?_) ?_
      rotate_left 1
      · obtain ⟨m0, m1, m2, m8, m9, m10, m11⟩ := cells_m (hx.has HI3.out.blk); go_simp; first | done | with_reducible rfl | rw [if_neg (by omega)] | rw [if_pos (by omega)]
      simp only [Act.put, List.setIfInBounds_toArray, List.set_cons_zero, List.set_cons_succ]
      refine wpU_take 10 (some 190) (v := ?_) rfl rfl (by kernel_rfl) (fun _ _ _ h => h) rfl (fun x hx => ?_) ?_
      rotate_left 1
      · go_simp; first | done | with_reducible rfl | rw [if_neg (by omega)] | rw [if_pos (by omega)]
      simp only [Act.put, List.setIfInBounds_toArray, List.set_cons_zero, List.set_cons_succ]
      refine wpU_take 11 (some 191) (v := ?_) rfl rfl (by kernel_rfl) (fun _ _ _ h => h) rfl (fun x hx => ?_) ?_
      rotate_left 1
      · go_simp; first | done | with_reducible rfl | rw [if_neg (by omega)] | rw [if_pos (by omega)]
      simp only [Act.put, List.setIfInBounds_toArray, List.set_cons_zero, List.set_cons_succ]
      refine wpU_take 12 (some 192) (v := ?_) rfl rfl (by kernel_rfl) (fun _ _ _ h => h) rfl (fun x hx => ?_) ?_
      rotate_left 1
      · go_simp; first | done | with_reducible rfl | rw [if_neg (by omega)] | rw [if_pos (by omega)]
      simp only [Act.put, List.setIfInBounds_toArray, List.set_cons_zero, List.set_cons_succ]
      refine wpU_take 13 (some 193) (v := ?_) rfl rfl (by kernel_rfl) (fun _ _ _ h => h) rfl (fun x hx => ?_) ?_
      rotate_left 1
      · go_simp; first | done | with_reducible rfl | rw [if_neg (by omega)] | rw [if_pos (by omega)]
      simp only [Act.put, List.setIfInBounds_toArray, List.set_cons_zero, List.set_cons_succ]
      refine wpU_take 14 (some 194) (v := ?_) rfl rfl (by kernel_rfl) (fun _ _ _ h => h) rfl (fun x hx => ?_) ?_
      rotate_left 1
      · obtain ⟨m0, m1, m2, m8, m9, m10, m11⟩ := cells_m (hx.has HI3.out.blk); go_simp; first | done | with_reducible rfl | rw [if_neg (by omega)] | rw [if_pos (by omega)]
      simp only [Act.put, List.setIfInBounds_toArray, List.set_cons_zero, List.set_cons_succ]
      refine wpU_take 15 (some 195) (v := ?_) rfl rfl (by kernel_rfl) (fun _ _ _ h => h) rfl (fun x hx => ?_) ?_
      rotate_left 1
      · go_simp; first | done | with_reducible rfl | rw [if_neg (by omega)] | rw [if_pos (by omega)]
      simp only [Act.put, List.setIfInBounds_toArray, List.set_cons_zero, List.set_cons_succ]
      refine wpU_take 16 (some 196) (v := ?_) rfl rfl (by kernel_rfl) (fun _ _ _ h => h) rfl (fun x hx => ?_) ?_
      rotate_left 1
      · go_simp; first | done | with_reducible rfl | rw [if_neg (by omega)] | rw [if_pos (by omega)]
      simp only [Act.put, List.setIfInBounds_toArray, List.set_cons_zero, List.set_cons_succ]
      refine wpU_take 17 (some 197) (v := ?_) rfl rfl (by kernel_rfl) (fun _ _ _ h => h) rfl (fun x hx => ?_) ?_
      rotate_left 1
      · go_simp; first | done | with_reducible rfl | rw [if_neg (by omega)] | rw [if_pos (by omega)]
      simp only [Act.put, List.setIfInBounds_toArray, List.set_cons_zero, List.set_cons_succ]
      refine wpU_take 18 (some 198) (v := ?_) rfl rfl (by kernel_rfl) (fun _ _ _ h => h) rfl (fun x hx => ?_) ?_
      rotate_left 1
      · go_simp; first | done | with_reducible rfl | rw [if_neg (by omega)] | rw [if_pos (by omega)]
      simp only [Act.put, List.setIfInBounds_toArray, List.set_cons_zero, List.set_cons_succ]
      refine wpU_take 19 (some 199) (v := ?_) rfl rfl (by kernel_rfl) (fun _ _ _ h => h) rfl (fun x hx => ?_) ?_
      rotate_left 1
      · obtain ⟨m0, m1, m2, m8, m9, m10, m11⟩ := cells_m (hx.has HI3.out.blk); go_simp; first | done | with_reducible rfl | rw [if_neg (by omega)] | rw [if_pos (by omega)]
      simp only [Act.put, List.setIfInBounds_toArray, List.set_cons_zero, List.set_cons_succ]
      refine wpU_take 20 (some 200) (v := ?_) rfl rfl (by kernel_rfl) (fun _ _ _ h => h) rfl (fun x hx => ?_) ?_
      rotate_left 1
      · go_simp; first | done | with_reducible rfl | rw [if_neg (by omega)] | rw [if_pos (by omega)]
      simp only [Act.put, List.setIfInBounds_toArray, List.set_cons_zero, List.set_cons_succ]
      refine wpU_last [_] (by kernel_rfl) rfl rfl ?_
      simp only [List.getElem_toArray, List.getElem_cons_succ, List.getElem_cons_zero]
      obtain ⟨r0, r1, r2, r3, r4, r5, r6, r7⟩ := cells_r HB3.out
      obtain ⟨f0, f1, f2, f3, f4, f5, f6, f7⟩ := frozen_r HB3.out
      go_wp2_with fail
      refine bodyPost_ret (v := matchV ⟨true, false, false, m.at_, n, m.caps, m.events⟩ fr (.slice cA m.caps.length cc) (.slice eA m.events.length ec)) (by simp [results, Try.results11, go_sem, r0, r1, r2, r3, r4, r5, r6, r7]) rfl ?_
      rw [← HPL.out]
      exact matchIs_mk (r := ⟨true, false, false, m.at_, n, m.caps, m.events⟩) (fr := fr) HL2.out HI3.out.caps HI3.out.evs HI3.out.apart HI3.out.below HB3.out hwz (((((((((OnlyAt.refl _ _).set _ _).set _ _).set _ _).set _ _).set _ _).set _ _).set _ _).set _ _)
    | cons g gs =>
      obtain ⟨b, rfl⟩ := hg.ptr_cons
      have HG := Lib.hid hg
      clear hg
      by_cases hk0 : gk = 0
      · subst hk0
        obtain rfl : n = fuel := by omega
        rw [play_zero] at HPL
        obtain ⟨m0, m1, m2, m8, m9, m10, m11⟩ := cells_m HI.out.blk
        go_wp2_with fail
        clear m0 m1 m2 m8 m9 m10 m11
        -- region 7: 12 operations, the last [11]
        refine wpU_begin [11] [] (by kernel_rfl) (fun w3 hw3 => ?_)
        have hl3 := drew_later hw3
        have HI3 := Lib.hid (HI.out.later hl3)
        have HB3 := Lib.hid (hl3.has HB.out)
        clear hw3 hl3
        refine wpU_take 0 (some 62) (v := ?_) rfl rfl (by kernel_rfl) (fun _ _ _ h => h) rfl (fun x hx => ?_) ?_
        rotate_left 1
        · go_simp; first | done | with_reducible rfl | rw [if_neg (by omega)] | rw [if_pos (by omega)]
        simp only [Act.put, List.setIfInBounds_toArray, List.set_cons_zero, List.set_cons_succ]
        refine wpU_take 1 (some 63) (v := ?_) rfl rfl (by kernel_rfl) (fun _ _ _ h => h) rfl (fun x hx => ?_) ?_
        rotate_left 1
        · go_simp; first | done | with_reducible rfl | rw [if_neg (by omega)] | rw [if_pos (by omega)]
        simp only [Act.put, List.setIfInBounds_toArray, List.set_cons_zero, List.set_cons_succ]
        refine wpU_take 2 (some 64) (v := ?_) rfl rfl (by kernel_rfl) (fun _ _ _ h => h) rfl (fun x hx => ?_) ?_
        rotate_left 1
        · go_simp; first | done | with_reducible rfl | rw [if_neg (by omega)] | rw [if_pos (by omega)]
        simp only [Act.put, List.setIfInBounds_toArray, List.set_cons_zero, List.set_cons_succ]
        refine wpU_take 3 (some 65) (v := ?_) rfl rfl (by kernel_rfl) (fun _ _ _ h => h) rfl (fun x hx => ?_) ?_
        rotate_left 1
        · go_simp; first | done | with_reducible rfl | rw [if_neg (by omega)] | rw [if_pos (by omega)]
        simp only [Act.put, List.setIfInBounds_toArray, List.set_cons_zero, List.set_cons_succ]
        refine wpU_take 4 (some 66) (v := ?_) rfl rfl (by kernel_rfl) (fun _ _ _ h => h) rfl (fun x hx => ?_) ?_
        rotate_left 1
        · obtain ⟨m0, m1, m2, m8, m9, m10, m11⟩ := cells_m (hx.has HI3.out.blk); go_simp; first | done | with_reducible rfl | rw [if_neg (by omega)] | rw [if_pos (by omega)]
        simp only [Act.put, List.setIfInBounds_toArray, List.set_cons_zero, List.set_cons_succ]
        refine wpU_take 5 (some 67) (v := ?_) rfl rfl (by kernel_rfl) (fun _ _ _ h => h) rfl (fun x hx => ?_) ?_
        rotate_left 1
        · go_simp; first | done | with_reducible rfl | rw [if_neg (by omega)] | rw [if_pos (by omega)]
        simp only [Act.put, List.setIfInBounds_toArray, List.set_cons_zero, List.set_cons_succ]
        refine wpU_take 6 (some 68) (v := ?_) rfl rfl (by kernel_rfl) (fun _ _ _ h => h) rfl (fun x hx => ?_) ?_
        rotate_left 1
        · go_simp; first | done | with_reducible rfl | rw [if_neg (by omega)] | rw [if_pos (by omega)]
        simp only [Act.put, List.setIfInBounds_toArray, List.set_cons_zero, List.set_cons_succ]
        refine wpU_take 7 (some 69) (v := ?_) rfl rfl (by kernel_rfl) (fun _ _ _ h => h) rfl (fun x hx => ?_) ?_
        rotate_left 1
        · go_simp; first | done | with_reducible rfl | rw [if_neg (by omega)] | rw [if_pos (by omega)]
        simp only [Act.put, List.setIfInBounds_toArray, List.set_cons_zero, List.set_cons_succ]
        refine wpU_take 8 (some 70) (v := ?_) rfl rfl (by kernel_rfl) (fun _ _ _ h => h) rfl (fun x hx => ?_) ?_
        rotate_left 1
        · go_simp; first | done | with_reducible rfl | rw [if_neg (by omega)] | rw [if_pos (by omega)]
        simp only [Act.put, List.setIfInBounds_toArray, List.set_cons_zero, List.set_cons_succ]
        refine wpU_take 9 (some 71) (v := ?_) rfl rfl (by kernel_rfl) (fun _ _ _ h => h) rfl (fun x hx => ?_) ?_
        rotate_left 1
        · obtain ⟨m0, m1, m2, m8, m9, m10, m11⟩ := cells_m (hx.has HI3.out.blk); go_simp; first | done | with_reducible rfl | rw [if_neg (by omega)] | rw [if_pos (by omega)]
        simp only [Act.put, List.setIfInBounds_toArray, List.set_cons_zero, List.set_cons_succ]
        refine wpU_take 10 (some 72) (v := ?_) rfl rfl (by kernel_rfl) (fun _ _ _ h => h) rfl (fun x hx => ?_) ?_
        rotate_left 1
        · go_simp; first | done | with_reducible rfl | rw [if_neg (by omega)] | rw [if_pos (by omega)]
        simp only [Act.put, List.setIfInBounds_toArray, List.set_cons_zero, List.set_cons_succ]
        refine wpU_last [_] (by kernel_rfl) rfl rfl ?_
        simp only [List.getElem_toArray, List.getElem_cons_succ, List.getElem_cons_zero]
        obtain ⟨r0, r1, r2, r3, r4, r5, r6, r7⟩ := cells_r HB3.out
        obtain ⟨f0, f1, f2, f3, f4, f5, f6, f7⟩ := frozen_r HB3.out
        go_wp2_with fail
        refine bodyPost_ret (v := matchV ⟨false, false, true, 0, n, [], m.events⟩ 0 (.slice none 0 0) (.slice eA m.events.length ec)) (by simp [results, Try.results11, go_sem, r0, r1, r2, r3, r4, r5, r6, r7]) rfl ?_
        rw [← HPL.out]
        exact matchIs_mk (r := ⟨false, false, true, 0, n, [], m.events⟩) (fr := 0) HL2.out (HasRow.nil _ _ _ _) HI3.out.evs (.inl rfl) HI3.out.below HB3.out hwz (((((((((OnlyAt.refl _ _).set _ _).set _ _).set _ _).set _ _).set _ _).set _ _).set _ _).set _ _)
      · obtain ⟨k, rfl⟩ : ∃ k, gk = k + 1 := ⟨gk - 1, by omega⟩
        have hn1 : (n : Int) + 1 ≤ 4001 := by omega
        have hnf : ¬ n = fuel := by omega
        have hnf2 : (n == fuel) = false := by simpa using hnf
        have hnf3 : ((n : Int) == (fuel : Int)) = false := by simp; omega
        obtain ⟨m0, m1, m2, m8, m9, m10, m11⟩ := cells_m HI.out.blk
        have f8 := frozen_of_row wr M 8 _ _ HI.out.blk
        go_wp2_with fail
        clear m0 m1 m2 m8 m9 m10 m11 f8
        refine (execute_any (HI.out.tick ((n : Int) + 1) (by simp)) (HG.out.keep (HI.out.keepSet 8 _)) HK.out (by omega) HD.out HROW2.out hss).mono ?_
        intro e w4 hdid
        cases hst : step defs s g gs m with
        | go gs' m' =>
          rw [hst] at hdid
          obtain ⟨gv4, cv4, ev4, hv4, hs4, rfl, hG4, hI4⟩ := hdid
          obtain ⟨p4, rfl⟩ := hG4.ptr
          have HG4 := Lib.hid hG4
          have HI4 := Lib.hid hI4
          have HST := Lib.hid hst
          rw [play_go hst] at HPL
          clear hG4 hI4 hst
          go_wp2_with fail
          go_roundg k
          case measure => omega
          case rel => exact ⟨n + 1, gs', m', cv4, ev4, hv4, hs4, by omega, HG4.out, HI4.out, step_ok HD.out hss HK.out HST.out, HPL.out⟩
        | stop =>
          rw [hst] at hdid
          obtain ⟨cv4, ev4, hv4, hs4, rfl, hI4⟩ := hdid
          obtain ⟨cA4, cc4, rfl, _, _⟩ := hI4.caps.form
          obtain ⟨eA4, ec4, rfl, _, _⟩ := hI4.evs.form
          have HB4 := Lib.hid ((hI4.below.block _ hz2).trans HR2.out)
          have HI4 := Lib.hid hI4
          rw [play_stop hst] at HPL
          clear hI4 hst
          go_wp2_with fail
          -- region 11: 12 operations, the last [11]
          refine wpU_begin [11] [] (by kernel_rfl) (fun w5 hw5 => ?_)
          have hl5 := drew_later hw5
          have HI5 := Lib.hid (HI4.out.later hl5)
          have HB5 := Lib.hid (hl5.has HB4.out)
          clear hw5 hl5
          refine wpU_take 0 (some 90) (v := ?_) rfl rfl (by kernel_rfl) (fun _ _ _ h => h) rfl (fun x hx => ?_) ?_
          rotate_left 1
          · go_simp; first | done | with_reducible rfl | rw [if_neg (by omega)] | rw [if_pos (by omega)]
          simp only [Act.put, List.setIfInBounds_toArray, List.set_cons_zero, List.set_cons_succ]
          refine wpU_take 1 (some 91) (v := ?_) rfl rfl (by kernel_rfl) (fun _ _ _ h => h) rfl (fun x hx => ?_) ?_
          rotate_left 1
          · go_simp; first | done | with_reducible rfl | rw [if_neg (by omega)] | rw [if_pos (by omega)]
          simp only [Act.put, List.setIfInBounds_toArray, List.set_cons_zero, List.set_cons_succ]
          refine wpU_take 2 (some 92) (v := ?_) rfl rfl (by kernel_rfl) (fun _ _ _ h => h) rfl (fun x hx => ?_) ?_
          rotate_left 1
          · go_simp; first | done | with_reducible rfl | rw [if_neg (by omega)] | rw [if_pos (by omega)]
          simp only [Act.put, List.setIfInBounds_toArray, List.set_cons_zero, List.set_cons_succ]
          refine wpU_take 3 (some 93) (v := ?_) rfl rfl (by kernel_rfl) (fun _ _ _ h => h) rfl (fun x hx => ?_) ?_
          rotate_left 1
          · go_simp; first | done | with_reducible rfl | rw [if_neg (by omega)] | rw [if_pos (by omega)]
          simp only [Act.put, List.setIfInBounds_toArray, List.set_cons_zero, List.set_cons_succ]
          refine wpU_take 4 (some 94) (v := ?_) rfl rfl (by kernel_rfl) (fun _ _ _ h => h) rfl (fun x hx => ?_) ?_
          rotate_left 1
          · obtain ⟨m0, m1, m2, m8, m9, m10, m11⟩ := cells_m (hx.has HI5.out.blk); go_simp; first | done | with_reducible rfl | rw [if_neg (by omega)] | rw [if_pos (by omega)]
          simp only [Act.put, List.setIfInBounds_toArray, List.set_cons_zero, List.set_cons_succ]
          refine wpU_take 5 (some 95) (v := ?_) rfl rfl (by kernel_rfl) (fun _ _ _ h => h) rfl (fun x hx => ?_) ?_
          rotate_left 1
          · go_simp; first | done | with_reducible rfl | rw [if_neg (by omega)] | rw [if_pos (by omega)]
          simp only [Act.put, List.setIfInBounds_toArray, List.set_cons_zero, List.set_cons_succ]
          refine wpU_take 6 (some 96) (v := ?_) rfl rfl (by kernel_rfl) (fun _ _ _ h => h) rfl (fun x hx => ?_) ?_
          rotate_left 1
          · go_simp; first | done | with_reducible rfl | rw [if_neg (by omega)] | rw [if_pos (by omega)]
          simp only [Act.put, List.setIfInBounds_toArray, List.set_cons_zero, List.set_cons_succ]
          refine wpU_take 7 (some 97) (v := ?_) rfl rfl (by kernel_rfl) (fun _ _ _ h => h) rfl (fun x hx => ?_) ?_
          rotate_left 1
          · go_simp; first | done | with_reducible rfl | rw [if_neg (by omega)] | rw [if_pos (by omega)]
          simp only [Act.put, List.setIfInBounds_toArray, List.set_cons_zero, List.set_cons_succ]
          refine wpU_take 8 (some 98) (v := ?_) rfl rfl (by kernel_rfl) (fun _ _ _ h => h) rfl (fun x hx => ?_) ?_
          rotate_left 1
          · go_simp; first | done | with_reducible rfl | rw [if_neg (by omega)] | rw [if_pos (by omega)]
          simp only [Act.put, List.setIfInBounds_toArray, List.set_cons_zero, List.set_cons_succ]
          refine wpU_take 9 (some 99) (v := ?_) rfl rfl (by kernel_rfl) (fun _ _ _ h => h) rfl (fun x hx => ?_) ?_
          rotate_left 1
          · obtain ⟨m0, m1, m2, m8, m9, m10, m11⟩ := cells_m (hx.has HI5.out.blk); go_simp; first | done | with_reducible rfl | rw [if_neg (by omega)] | rw [if_pos (by omega)]
          simp only [Act.put, List.setIfInBounds_toArray, List.set_cons_zero, List.set_cons_succ]
          refine wpU_take 10 (some 100) (v := ?_) rfl rfl (by kernel_rfl) (fun _ _ _ h => h) rfl (fun x hx => ?_) ?_
          rotate_left 1
          · go_simp; first | done | with_reducible rfl | rw [if_neg (by omega)] | rw [if_pos (by omega)]
          simp only [Act.put, List.setIfInBounds_toArray, List.set_cons_zero, List.set_cons_succ]
          refine wpU_last [_] (by kernel_rfl) rfl rfl ?_
          simp only [List.getElem_toArray, List.getElem_cons_succ, List.getElem_cons_zero]
          obtain ⟨r0, r1, r2, r3, r4, r5, r6, r7⟩ := cells_r HB5.out
          obtain ⟨f0, f1, f2, f3, f4, f5, f6, f7⟩ := frozen_r HB5.out
          go_wp2_with fail
          refine bodyPost_ret (v := matchV ⟨false, true, false, 0, n + 1, [], m.events⟩ 0 (.slice none 0 0) (.slice eA4 m.events.length ec4)) (by simp [results, Try.results11, go_sem, r0, r1, r2, r3, r4, r5, r6, r7]) rfl ?_
          rw [← HPL.out]
          exact matchIs_mk (r := ⟨false, true, false, 0, n + 1, [], m.events⟩) (fr := 0) HL2.out (HasRow.nil _ _ _ _) HI5.out.evs (.inl rfl) HI5.out.below HB5.out hwz (((((((((OnlyAt.refl _ _).set _ _).set _ _).set _ _).set _ _).set _ _).set _ _).set _ _).set _ _)
        | fail =>
          rw [hst] at hdid
          obtain ⟨p4, cv4, ev4, hv4, hs4, rfl, hI4⟩ := hdid
          obtain ⟨cA4, cc4, rfl, _, _⟩ := hI4.caps.form
          obtain ⟨eA4, ec4, rfl, _, _⟩ := hI4.evs.form
          have HB4 := Lib.hid ((hI4.below.block _ hz2).trans HR2.out)
          have HI4 := Lib.hid hI4
          have HST := Lib.hid hst
          clear hst
          rcases List.eq_nil_or_concat m.choices with hcs | ⟨cs, c, hcs⟩
          · have hl0 : m.choices.length = 0 := by rw [hcs]; rfl
            obtain ⟨hA4, hc4, rfl, _, _⟩ := hI4.chs.form
            rw [play_none HST.out hcs] at HPL
            clear hI4 hcs
            obtain ⟨m0, m1, m2, m8, m9, m10, m11⟩ := cells_m HI4.out.blk
            go_wp2_with fail
            clear m0 m1 m2 m8 m9 m10 m11
            -- region 15: 12 operations, the last [11]
            refine wpU_begin [11] [] (by kernel_rfl) (fun w5 hw5 => ?_)
            have hl5 := drew_later hw5
            have HI5 := Lib.hid (HI4.out.later hl5)
            have HB5 := Lib.hid (hl5.has HB4.out)
            clear hw5 hl5
            refine wpU_take 0 (some 109) (v := ?_) rfl rfl (by kernel_rfl) (fun _ _ _ h => h) rfl (fun x hx => ?_) ?_
            rotate_left 1
            · go_simp; first | done | with_reducible rfl | rw [if_neg (by omega)] | rw [if_pos (by omega)]
            simp only [Act.put, List.setIfInBounds_toArray, List.set_cons_zero, List.set_cons_succ]
            refine wpU_take 1 (some 110) (v := ?_) rfl rfl (by kernel_rfl) (fun _ _ _ h => h) rfl (fun x hx => ?_) ?_
            rotate_left 1
            · go_simp; first | done | with_reducible rfl | rw [if_neg (by omega)] | rw [if_pos (by omega)]
            simp only [Act.put, List.setIfInBounds_toArray, List.set_cons_zero, List.set_cons_succ]
            refine wpU_take 2 (some 111) (v := ?_) rfl rfl (by kernel_rfl) (fun _ _ _ h => h) rfl (fun x hx => ?_) ?_
            rotate_left 1
            · go_simp; first | done | with_reducible rfl | rw [if_neg (by omega)] | rw [if_pos (by omega)]
            simp only [Act.put, List.setIfInBounds_toArray, List.set_cons_zero, List.set_cons_succ]
            refine wpU_take 3 (some 112) (v := ?_) rfl rfl (by kernel_rfl) (fun _ _ _ h => h) rfl (fun x hx => ?_) ?_
            rotate_left 1
            · go_simp; first | done | with_reducible rfl | rw [if_neg (by omega)] | rw [if_pos (by omega)]
            simp only [Act.put, List.setIfInBounds_toArray, List.set_cons_zero, List.set_cons_succ]
            refine wpU_take 4 (some 113) (v := ?_) rfl rfl (by kernel_rfl) (fun _ _ _ h => h) rfl (fun x hx => ?_) ?_
            rotate_left 1
            · obtain ⟨m0, m1, m2, m8, m9, m10, m11⟩ := cells_m (hx.has HI5.out.blk); go_simp; first | done | with_reducible rfl | rw [if_neg (by omega)] | rw [if_pos (by omega)]
            simp only [Act.put, List.setIfInBounds_toArray, List.set_cons_zero, List.set_cons_succ]
            refine wpU_take 5 (some 114) (v := ?_) rfl rfl (by kernel_rfl) (fun _ _ _ h => h) rfl (fun x hx => ?_) ?_
            rotate_left 1
            · go_simp; first | done | with_reducible rfl | rw [if_neg (by omega)] | rw [if_pos (by omega)]
            simp only [Act.put, List.setIfInBounds_toArray, List.set_cons_zero, List.set_cons_succ]
            refine wpU_take 6 (some 115) (v := ?_) rfl rfl (by kernel_rfl) (fun _ _ _ h => h) rfl (fun x hx => ?_) ?_
            rotate_left 1
            · go_simp; first | done | with_reducible rfl | rw [if_neg (by omega)] | rw [if_pos (by omega)]
            simp only [Act.put, List.setIfInBounds_toArray, List.set_cons_zero, List.set_cons_succ]
            refine wpU_take 7 (some 116) (v := ?_) rfl rfl (by kernel_rfl) (fun _ _ _ h => h) rfl (fun x hx => ?_) ?_
            rotate_left 1
            · go_simp; first | done | with_reducible rfl | rw [if_neg (by omega)] | rw [if_pos (by omega)]
            simp only [Act.put, List.setIfInBounds_toArray, List.set_cons_zero, List.set_cons_succ]
            refine wpU_take 8 (some 117) (v := ?_) rfl rfl (by kernel_rfl) (fun _ _ _ h => h) rfl (fun x hx => ?_) ?_
            rotate_left 1
            · go_simp; first | done | with_reducible rfl | rw [if_neg (by omega)] | rw [if_pos (by omega)]
            simp only [Act.put, List.setIfInBounds_toArray, List.set_cons_zero, List.set_cons_succ]
            refine wpU_take 9 (some 118) (v := ?_) rfl rfl (by kernel_rfl) (fun _ _ _ h => h) rfl (fun x hx => ?_) ?_
            rotate_left 1
            · obtain ⟨m0, m1, m2, m8, m9, m10, m11⟩ := cells_m (hx.has HI5.out.blk); go_simp; first | done | with_reducible rfl | rw [if_neg (by omega)] | rw [if_pos (by omega)]
            simp only [Act.put, List.setIfInBounds_toArray, List.set_cons_zero, List.set_cons_succ]
            refine wpU_take 10 (some 119) (v := ?_) rfl rfl (by kernel_rfl) (fun _ _ _ h => h) rfl (fun x hx => ?_) ?_
            rotate_left 1
            · go_simp; first | done | with_reducible rfl | rw [if_neg (by omega)] | rw [if_pos (by omega)]
            simp only [Act.put, List.setIfInBounds_toArray, List.set_cons_zero, List.set_cons_succ]
            refine wpU_last [_] (by kernel_rfl) rfl rfl ?_
            simp only [List.getElem_toArray, List.getElem_cons_succ, List.getElem_cons_zero]
            obtain ⟨r0, r1, r2, r3, r4, r5, r6, r7⟩ := cells_r HB5.out
            obtain ⟨f0, f1, f2, f3, f4, f5, f6, f7⟩ := frozen_r HB5.out
            go_wp2_with fail
            refine bodyPost_ret (v := matchV ⟨false, false, false, 0, n + 1, [], m.events⟩ 0 (.slice none 0 0) (.slice eA4 m.events.length ec4)) (by simp [results, Try.results11, go_sem, r0, r1, r2, r3, r4, r5, r6, r7]) rfl ?_
            rw [← HPL.out]
            exact matchIs_mk (r := ⟨false, false, false, 0, n + 1, [], m.events⟩) (fr := 0) HL2.out (HasRow.nil _ _ _ _) HI5.out.evs (.inl rfl) HI5.out.below HB5.out hwz (((((((((OnlyAt.refl _ _).set _ _).set _ _).set _ _).set _ _).set _ _).set _ _).set _ _).set _ _)
          · rw [List.concat_eq_append] at hcs
            have hl1 : m.choices.length = cs.length + 1 := by rw [hcs]; simp
            have hbig : cs.length + 1 ≤ 4000 := by have := HK.out.nch; omega
            obtain ⟨g4, hc4, hv, _, hcc, hcm⟩ := hI4.chs.block_ (by omega)
            rw [hl1] at hv
            subst hv
            have HCS := Lib.hid hcs
            have HI4 := Lib.hid hI4
            obtain ⟨a4, b4, hab, hch4, hla, _⟩ := hI4.pop hcs
            subst hab
            rw [play_last HST.out hcs] at HPL
            have hncap : c.ncap ≤ m.caps.length := HK.out.choices.le c (by rw [hcs]; simp)
            have hmc := HK.out.ncap
            have HLA := Lib.hid hla
            rw [hl1] at hcc
            have hsub : IntKind.i64.wrap (cs.length : Int) = (cs.length : Int) := IntWalk.i64_in _ (by omega)
            have hq : ((cs.length : Int) + 1 == 0) = false := by simp; omega
            clear hI4 hcs hla hl1
            obtain ⟨m0, m1, m2, m8, m9, m10, m11⟩ := cells_m HI4.out.blk
            go_wp2_with fail
            clear m0 m1 m2 m8 m9 m10 m11
            rcases hch4 with ⟨hst4, rfl⟩ | ⟨hst4, gv4, rfl, hG4⟩
            · rw [if_pos hst4] at HPL
              -- region 16: 14 operations, the last [13]
              refine wpU_begin [13] [] (by kernel_rfl) (fun w5 hw5 => ?_)
              have hl5 := drew_later hw5
              have HI5 := Lib.hid (HI4.out.later hl5)
              have HB5 := Lib.hid (hl5.has HB4.out)
              clear hw5 hl5
              refine wpU_take 0 (some 120) (v := ?_) rfl rfl (by kernel_rfl) (fun _ _ _ h => h) rfl (fun x hx => ?_) ?_
              rotate_left 1
              · go_simp; first | done | with_reducible rfl | rw [if_neg (by omega)] | rw [if_pos (by omega)]
              simp only [Act.put, List.setIfInBounds_toArray, List.set_cons_zero, List.set_cons_succ]
              refine wpU_take 1 (some 121) (v := ?_) rfl rfl (by kernel_rfl) (fun _ _ _ h => h) rfl (fun x hx => ?_) ?_
              rotate_left 1
              · go_simp; first | done | with_reducible rfl | rw [if_neg (by omega)] | rw [if_pos (by omega)]
              simp only [Act.put, List.setIfInBounds_toArray, List.set_cons_zero, List.set_cons_succ]
              refine wpU_take 2 (some 122) (v := ?_) rfl rfl (by kernel_rfl) (fun _ _ _ h => h) rfl (fun x hx => ?_) ?_
              rotate_left 1
              · go_simp; first | done | with_reducible rfl | rw [if_neg (by omega)] | rw [if_pos (by omega)]
              simp only [Act.put, List.setIfInBounds_toArray, List.set_cons_zero, List.set_cons_succ]
              refine wpU_take 3 (some 123) (v := ?_) rfl rfl (by kernel_rfl) (fun _ _ _ h => h) rfl (fun x hx => ?_) ?_
              rotate_left 1
              · obtain ⟨m0, m1, m2, m8, m9, m10, m11⟩ := cells_m (hx.has HI5.out.blk); obtain ⟨c0, c1, c2, c3⟩ := top_cells HI5.out HLA.out hx; go_simp; first | done | with_reducible rfl | rw [if_neg (by omega)] | rw [if_pos (by omega)]
              simp only [Act.put, List.setIfInBounds_toArray, List.set_cons_zero, List.set_cons_succ]
              refine wpU_take 4 (some 124) (v := ?_) rfl rfl (by kernel_rfl) (fun _ _ _ h => h) rfl (fun x hx => ?_) ?_
              rotate_left 1
              · go_simp; first | done | with_reducible rfl | rw [if_neg (by omega)] | rw [if_pos (by omega)]
              simp only [Act.put, List.setIfInBounds_toArray, List.set_cons_zero, List.set_cons_succ]
              refine wpU_take 5 (some 125) (v := ?_) rfl rfl (by kernel_rfl) (fun _ _ _ h => h) rfl (fun x hx => ?_) ?_
              rotate_left 1
              · go_simp; first | done | with_reducible rfl | rw [if_neg (by omega)] | rw [if_pos (by omega)]
              simp only [Act.put, List.setIfInBounds_toArray, List.set_cons_zero, List.set_cons_succ]
              refine wpU_take 6 (some 126) (v := ?_) rfl rfl (by kernel_rfl) (fun _ _ _ h => h) rfl (fun x hx => ?_) ?_
              rotate_left 1
              · go_simp; first | done | with_reducible rfl | rw [if_neg (by omega)] | rw [if_pos (by omega)]
              simp only [Act.put, List.setIfInBounds_toArray, List.set_cons_zero, List.set_cons_succ]
              refine wpU_take 7 (some 127) (v := ?_) rfl rfl (by kernel_rfl) (fun _ _ _ h => h) rfl (fun x hx => ?_) ?_
              rotate_left 1
              · obtain ⟨m0, m1, m2, m8, m9, m10, m11⟩ := cells_m (hx.has HI5.out.blk); obtain ⟨c0, c1, c2, c3⟩ := top_cells HI5.out HLA.out hx; go_simp; first | done | with_reducible rfl | rw [if_neg (by omega)] | rw [if_pos (by omega)]
              simp only [Act.put, List.setIfInBounds_toArray, List.set_cons_zero, List.set_cons_succ]
              refine wpU_take 8 (some 128) (v := ?_) rfl rfl (by kernel_rfl) (fun _ _ _ h => h) rfl (fun x hx => ?_) ?_
              rotate_left 1
              · go_simp; first | done | with_reducible rfl | rw [if_neg (by omega)] | rw [if_pos (by omega)]
              simp only [Act.put, List.setIfInBounds_toArray, List.set_cons_zero, List.set_cons_succ]
              refine wpU_take 9 (some 129) (v := ?_) rfl rfl (by kernel_rfl) (fun _ _ _ h => h) rfl (fun x hx => ?_) ?_
              rotate_left 1
              · go_simp; first | done | with_reducible rfl | rw [if_neg (by omega)] | rw [if_pos (by omega)]
              simp only [Act.put, List.setIfInBounds_toArray, List.set_cons_zero, List.set_cons_succ]
              refine wpU_take 10 (some 130) (v := ?_) rfl rfl (by kernel_rfl) (fun _ _ _ h => h) rfl (fun x hx => ?_) ?_
              rotate_left 1
              · go_simp; first | done | with_reducible rfl | rw [if_neg (by omega)] | rw [if_pos (by omega)]
              simp only [Act.put, List.setIfInBounds_toArray, List.set_cons_zero, List.set_cons_succ]
              refine wpU_take 11 (some 131) (v := ?_) rfl rfl (by kernel_rfl) (fun _ _ _ h => h) rfl (fun x hx => ?_) ?_
              rotate_left 1
              · obtain ⟨m0, m1, m2, m8, m9, m10, m11⟩ := cells_m (hx.has HI5.out.blk); obtain ⟨c0, c1, c2, c3⟩ := top_cells HI5.out HLA.out hx; go_simp; first | done | with_reducible rfl | rw [if_neg (by omega)] | rw [if_pos (by omega)]
              simp only [Act.put, List.setIfInBounds_toArray, List.set_cons_zero, List.set_cons_succ]
              refine wpU_step 12 (by kernel_rfl) rfl rfl ?_  -- alloc 
              go_wp2_with fail
              refine ⟨(Later.refl _).alloc _, ?_⟩
              refine wpU_last [_] (by kernel_rfl) rfl rfl ?_
              simp only [List.getElem_toArray, List.getElem_cons_succ, List.getElem_cons_zero]
              go_wp2_with fail
              -- region 17: 15 operations, the last [14]
              refine wpU_begin [14] [] (by kernel_rfl) (fun w7 hw7 => ?_)
              obtain ⟨hl7, hC7⟩ := drew_alloc hw7
              have HI7 := Lib.hid (HI5.out.later hl7)
              have HC7 := Lib.hid hC7
              have HB7 := Lib.hid (hl7.has HB5.out)
              clear hw7 hl7 hC7
              refine wpU_take 0 (some 132) (v := ?_) rfl rfl (by kernel_rfl) (fun _ _ _ h => h) rfl (fun x hx => ?_) ?_
              rotate_left 1
              · go_simp; first | done | with_reducible rfl | rw [if_neg (by omega)] | rw [if_pos (by omega)]
              simp only [Act.put, List.setIfInBounds_toArray, List.set_cons_zero, List.set_cons_succ]
              refine wpU_take 1 (some 133) (v := ?_) rfl rfl (by kernel_rfl) (fun _ _ _ h => h) rfl (fun x hx => ?_) ?_
              rotate_left 1
              · go_simp; first | done | with_reducible rfl | rw [if_neg (by omega)] | rw [if_pos (by omega)]
              simp only [Act.put, List.setIfInBounds_toArray, List.set_cons_zero, List.set_cons_succ]
              refine wpU_take 2 (some 134) (v := ?_) rfl rfl (by kernel_rfl) (fun _ _ _ h => h) rfl (fun x hx => ?_) ?_
              rotate_left 1
              · go_simp; first | done | with_reducible rfl | rw [if_neg (by omega)] | rw [if_pos (by omega)]
              simp only [Act.put, List.setIfInBounds_toArray, List.set_cons_zero, List.set_cons_succ]
              refine wpU_take 3 (some 135) (v := ?_) rfl rfl (by kernel_rfl) (fun _ _ _ h => h) rfl (fun x hx => ?_) ?_
              rotate_left 1
              · go_simp; first | done | with_reducible rfl | rw [if_neg (by omega)] | rw [if_pos (by omega)]
              simp only [Act.put, List.setIfInBounds_toArray, List.set_cons_zero, List.set_cons_succ]
              refine wpU_take 4 (some 136) (v := ?_) rfl rfl (by kernel_rfl) (fun _ _ _ h => h) rfl (fun x hx => ?_) ?_
              rotate_left 1
              · obtain ⟨m0, m1, m2, m8, m9, m10, m11⟩ := cells_m (hx.has HI7.out.blk); go_simp; first | done | with_reducible rfl | rw [if_neg (by omega)] | rw [if_pos (by omega)]
              simp only [Act.put, List.setIfInBounds_toArray, List.set_cons_zero, List.set_cons_succ]
              refine wpU_take 5 (some 137) (v := ?_) rfl rfl (by kernel_rfl) (fun _ _ _ h => h) rfl (fun x hx => ?_) ?_
              rotate_left 1
              · go_simp; first | done | with_reducible rfl | rw [if_neg (by omega)] | rw [if_pos (by omega)]
              simp only [Act.put, List.setIfInBounds_toArray, List.set_cons_zero, List.set_cons_succ]
              refine wpU_take 6 (some 138) (v := ?_) rfl rfl (by kernel_rfl) (fun _ _ _ h => h) rfl (fun x hx => ?_) ?_
              rotate_left 1
              · go_simp; first | done | with_reducible rfl | rw [if_neg (by omega)] | rw [if_pos (by omega)]
              simp only [Act.put, List.setIfInBounds_toArray, List.set_cons_zero, List.set_cons_succ]
              refine wpU_take 7 (some 139) (v := ?_) rfl rfl (by kernel_rfl) (fun _ _ _ h => h) rfl (fun x hx => ?_) ?_
              rotate_left 1
              · go_simp; first | done | with_reducible rfl | rw [if_neg (by omega)] | rw [if_pos (by omega)]
              simp only [Act.put, List.setIfInBounds_toArray, List.set_cons_zero, List.set_cons_succ]
              refine wpU_take 8 (some 140) (v := ?_) rfl rfl (by kernel_rfl) (fun _ _ _ h => h) rfl (fun x hx => ?_) ?_
              rotate_left 1
              · obtain ⟨m0, m1, m2, m8, m9, m10, m11⟩ := cells_m (hx.has HI7.out.blk); go_simp; first | done | with_reducible rfl | rw [if_neg (by omega)] | rw [if_pos (by omega)]
              simp only [Act.put, List.setIfInBounds_toArray, List.set_cons_zero, List.set_cons_succ]
              refine wpU_take 9 (some 141) (v := ?_) rfl rfl (by kernel_rfl) (fun _ _ _ h => h) rfl (fun x hx => ?_) ?_
              rotate_left 1
              · go_simp; first | done | with_reducible rfl | rw [if_neg (by omega)] | rw [if_pos (by omega)]
              simp only [Act.put, List.setIfInBounds_toArray, List.set_cons_zero, List.set_cons_succ]
              refine wpU_take 10 (some 142) (v := ?_) rfl rfl (by kernel_rfl) (fun _ _ _ h => h) rfl (fun x hx => ?_) ?_
              rotate_left 1
              · go_simp; first | done | with_reducible rfl | rw [if_neg (by omega)] | rw [if_pos (by omega)]
              simp only [Act.put, List.setIfInBounds_toArray, List.set_cons_zero, List.set_cons_succ]
              refine wpU_take 11 (some 143) (v := ?_) rfl rfl (by kernel_rfl) (fun _ _ _ h => h) rfl (fun x hx => ?_) ?_
              rotate_left 1
              · go_simp; first | done | with_reducible rfl | rw [if_neg (by omega)] | rw [if_pos (by omega)]
              simp only [Act.put, List.setIfInBounds_toArray, List.set_cons_zero, List.set_cons_succ]
              refine wpU_take 12 (some 144) (v := ?_) rfl rfl (by kernel_rfl) (fun _ _ _ h => h) rfl (fun x hx => ?_) ?_
              rotate_left 1
              · go_simp; first | done | with_reducible rfl | rw [if_neg (by omega)] | rw [if_pos (by omega)]
              simp only [Act.put, List.setIfInBounds_toArray, List.set_cons_zero, List.set_cons_succ]
              refine wpU_take 13 (some 145) (v := ?_) rfl rfl (by kernel_rfl) (fun _ _ _ h => h) rfl (fun x hx => ?_) ?_
              rotate_left 1
              · go_simp; first | done | with_reducible rfl | rw [if_neg (by omega)] | rw [if_pos (by omega)]
              simp only [Act.put, List.setIfInBounds_toArray, List.set_cons_zero, List.set_cons_succ]
              refine wpU_last [_] (by kernel_rfl) rfl rfl ?_
              simp only [List.getElem_toArray, List.getElem_cons_succ, List.getElem_cons_zero]
              obtain ⟨a8, b8, hab, _, _, hI8⟩ := HI7.out.pop HCS.out
              have HI8 := Lib.hid hI8
              have hCM : ¬ w5.heap.size = M := ne_of_type HC7.out HI7.out.blk (by decide)
              have hMC : ¬ M = w5.heap.size := fun e => hCM e.symm
              clear hab hI8
              obtain ⟨m0, m1, m2, m8, m9, m10, m11⟩ := cells_m HI7.out.blk
              obtain ⟨c0, c1, c2, c3⟩ := cells_c HC7.out
              have f11 := frozen_of_row w7 M 11 _ _ HI7.out.blk
              go_wp2_with fail
              clear m0 m1 m2 m8 m9 m10 m11 c0 c1 c2 c3 f11
              -- region 19: 12 operations, the last [11]
              refine wpU_begin [11] [] (by kernel_rfl) (fun w9 hw9 => ?_)
              have HI9 := Lib.hid (HI8.out.later (drew_later hw9))
              have HB9 := Lib.hid ((drew_later hw9).has (heap_set_other HB7.out hRM))
              clear hw9
              refine wpU_take 0 (some 148) (v := ?_) rfl rfl (by kernel_rfl) (fun _ _ _ h => h) rfl (fun x hx => ?_) ?_
              rotate_left 1
              · go_simp; first | done | with_reducible rfl | rw [if_neg (by omega)] | rw [if_pos (by omega)]
              simp only [Act.put, List.setIfInBounds_toArray, List.set_cons_zero, List.set_cons_succ]
              refine wpU_take 1 (some 149) (v := ?_) rfl rfl (by kernel_rfl) (fun _ _ _ h => h) rfl (fun x hx => ?_) ?_
              rotate_left 1
              · go_simp; first | done | with_reducible rfl | rw [if_neg (by omega)] | rw [if_pos (by omega)]
              simp only [Act.put, List.setIfInBounds_toArray, List.set_cons_zero, List.set_cons_succ]
              refine wpU_take 2 (some 150) (v := ?_) rfl rfl (by kernel_rfl) (fun _ _ _ h => h) rfl (fun x hx => ?_) ?_
              rotate_left 1
              · go_simp; first | done | with_reducible rfl | rw [if_neg (by omega)] | rw [if_pos (by omega)]
              simp only [Act.put, List.setIfInBounds_toArray, List.set_cons_zero, List.set_cons_succ]
              refine wpU_take 3 (some 151) (v := ?_) rfl rfl (by kernel_rfl) (fun _ _ _ h => h) rfl (fun x hx => ?_) ?_
              rotate_left 1
              · go_simp; first | done | with_reducible rfl | rw [if_neg (by omega)] | rw [if_pos (by omega)]
              simp only [Act.put, List.setIfInBounds_toArray, List.set_cons_zero, List.set_cons_succ]
              refine wpU_take 4 (some 152) (v := ?_) rfl rfl (by kernel_rfl) (fun _ _ _ h => h) rfl (fun x hx => ?_) ?_
              rotate_left 1
              · obtain ⟨m0, m1, m2, m8, m9, m10, m11⟩ := cells_m (hx.has HI9.out.blk); go_simp; first | done | with_reducible rfl | rw [if_neg (by omega)] | rw [if_pos (by omega)]
              simp only [Act.put, List.setIfInBounds_toArray, List.set_cons_zero, List.set_cons_succ]
              refine wpU_take 5 (some 153) (v := ?_) rfl rfl (by kernel_rfl) (fun _ _ _ h => h) rfl (fun x hx => ?_) ?_
              rotate_left 1
              · go_simp; first | done | with_reducible rfl | rw [if_neg (by omega)] | rw [if_pos (by omega)]
              simp only [Act.put, List.setIfInBounds_toArray, List.set_cons_zero, List.set_cons_succ]
              refine wpU_take 6 (some 154) (v := ?_) rfl rfl (by kernel_rfl) (fun _ _ _ h => h) rfl (fun x hx => ?_) ?_
              rotate_left 1
              · go_simp; first | done | with_reducible rfl | rw [if_neg (by omega)] | rw [if_pos (by omega)]
              simp only [Act.put, List.setIfInBounds_toArray, List.set_cons_zero, List.set_cons_succ]
              refine wpU_take 7 (some 155) (v := ?_) rfl rfl (by kernel_rfl) (fun _ _ _ h => h) rfl (fun x hx => ?_) ?_
              rotate_left 1
              · go_simp; first | done | with_reducible rfl | rw [if_neg (by omega)] | rw [if_pos (by omega)]
              simp only [Act.put, List.setIfInBounds_toArray, List.set_cons_zero, List.set_cons_succ]
              refine wpU_take 8 (some 156) (v := ?_) rfl rfl (by kernel_rfl) (fun _ _ _ h => h) rfl (fun x hx => ?_) ?_
              rotate_left 1
              · go_simp; first | done | with_reducible rfl | rw [if_neg (by omega)] | rw [if_pos (by omega)]
              simp only [Act.put, List.setIfInBounds_toArray, List.set_cons_zero, List.set_cons_succ]
              refine wpU_take 9 (some 157) (v := ?_) rfl rfl (by kernel_rfl) (fun _ _ _ h => h) rfl (fun x hx => ?_) ?_
              rotate_left 1
              · obtain ⟨m0, m1, m2, m8, m9, m10, m11⟩ := cells_m (hx.has HI9.out.blk); go_simp; first | done | with_reducible rfl | rw [if_neg (by omega)] | rw [if_pos (by omega)]
              simp only [Act.put, List.setIfInBounds_toArray, List.set_cons_zero, List.set_cons_succ]
              refine wpU_take 10 (some 158) (v := ?_) rfl rfl (by kernel_rfl) (fun _ _ _ h => h) rfl (fun x hx => ?_) ?_
              rotate_left 1
              · go_simp; first | done | with_reducible rfl | rw [if_neg (by omega)] | rw [if_pos (by omega)]
              simp only [Act.put, List.setIfInBounds_toArray, List.set_cons_zero, List.set_cons_succ]
              refine wpU_last [_] (by kernel_rfl) rfl rfl ?_
              simp only [List.getElem_toArray, List.getElem_cons_succ, List.getElem_cons_zero]
              obtain ⟨r0, r1, r2, r3, r4, r5, r6, r7⟩ := cells_r HB9.out
              obtain ⟨f0, f1, f2, f3, f4, f5, f6, f7⟩ := frozen_r HB9.out
              go_wp2_with fail
              refine bodyPost_ret (v := matchV ⟨false, true, false, 0, n + 1, [], m.events⟩ 0 (.slice none 0 0) (.slice eA4 m.events.length ec4)) (by simp [results, Try.results11, go_sem, r0, r1, r2, r3, r4, r5, r6, r7]) rfl ?_
              rw [← HPL.out]
              exact matchIs_mk (r := ⟨false, true, false, 0, n + 1, [], m.events⟩) (fr := 0) HL2.out (HasRow.nil _ _ _ _) HI9.out.evs (.inl rfl) HI9.out.below HB9.out hwz (((((((((OnlyAt.refl _ _).set _ _).set _ _).set _ _).set _ _).set _ _).set _ _).set _ _).set _ _)
            · rw [if_neg (by simp [hst4])] at HPL
              obtain ⟨pp, rfl⟩ := hG4.ptr
              have HG4 := Lib.hid hG4
              clear hG4
              rcases HI4.out.caps.2 with ⟨hcv, hB⟩ | ⟨g9, cap9, cur9, hcv, _, _, hcl, _, _⟩
              · obtain ⟨hA, _, hC⟩ : cA4 = none ∧ m.caps.length = 0 ∧ cc4 = 0 := by simpa using hcv
                subst hA hC
                rw [hB] at HI4
                have hnc0 : c.ncap = 0 := by omega
                clear hcv
                -- region 16: 14 operations, the last [13]
                refine wpU_begin [13] [] (by kernel_rfl) (fun w5 hw5 => ?_)
                have hl5 := drew_later hw5
                have HI5 := Lib.hid (HI4.out.later hl5)
                have HB5 := Lib.hid (hl5.has HB4.out)
                have HG5 := Lib.hid (HG4.out.later hl5)
                clear hw5 hl5
                refine wpU_take 0 (some 120) (v := ?_) rfl rfl (by kernel_rfl) (fun _ _ _ h => h) rfl (fun x hx => ?_) ?_
                rotate_left 1
                · go_simp; first | done | with_reducible rfl | rw [if_neg (by omega)] | rw [if_pos (by omega)]
                simp only [Act.put, List.setIfInBounds_toArray, List.set_cons_zero, List.set_cons_succ]
                refine wpU_take 1 (some 121) (v := ?_) rfl rfl (by kernel_rfl) (fun _ _ _ h => h) rfl (fun x hx => ?_) ?_
                rotate_left 1
                · go_simp; first | done | with_reducible rfl | rw [if_neg (by omega)] | rw [if_pos (by omega)]
                simp only [Act.put, List.setIfInBounds_toArray, List.set_cons_zero, List.set_cons_succ]
                refine wpU_take 2 (some 122) (v := ?_) rfl rfl (by kernel_rfl) (fun _ _ _ h => h) rfl (fun x hx => ?_) ?_
                rotate_left 1
                · go_simp; first | done | with_reducible rfl | rw [if_neg (by omega)] | rw [if_pos (by omega)]
                simp only [Act.put, List.setIfInBounds_toArray, List.set_cons_zero, List.set_cons_succ]
                refine wpU_take 3 (some 123) (v := ?_) rfl rfl (by kernel_rfl) (fun _ _ _ h => h) rfl (fun x hx => ?_) ?_
                rotate_left 1
                · obtain ⟨m0, m1, m2, m8, m9, m10, m11⟩ := cells_m (hx.has HI5.out.blk); obtain ⟨c0, c1, c2, c3⟩ := top_cells HI5.out HLA.out hx; go_simp; first | done | with_reducible rfl | rw [if_neg (by omega)] | rw [if_pos (by omega)]
                simp only [Act.put, List.setIfInBounds_toArray, List.set_cons_zero, List.set_cons_succ]
                refine wpU_take 4 (some 124) (v := ?_) rfl rfl (by kernel_rfl) (fun _ _ _ h => h) rfl (fun x hx => ?_) ?_
                rotate_left 1
                · go_simp; first | done | with_reducible rfl | rw [if_neg (by omega)] | rw [if_pos (by omega)]
                simp only [Act.put, List.setIfInBounds_toArray, List.set_cons_zero, List.set_cons_succ]
                refine wpU_take 5 (some 125) (v := ?_) rfl rfl (by kernel_rfl) (fun _ _ _ h => h) rfl (fun x hx => ?_) ?_
                rotate_left 1
                · go_simp; first | done | with_reducible rfl | rw [if_neg (by omega)] | rw [if_pos (by omega)]
                simp only [Act.put, List.setIfInBounds_toArray, List.set_cons_zero, List.set_cons_succ]
                refine wpU_take 6 (some 126) (v := ?_) rfl rfl (by kernel_rfl) (fun _ _ _ h => h) rfl (fun x hx => ?_) ?_
                rotate_left 1
                · go_simp; first | done | with_reducible rfl | rw [if_neg (by omega)] | rw [if_pos (by omega)]
                simp only [Act.put, List.setIfInBounds_toArray, List.set_cons_zero, List.set_cons_succ]
                refine wpU_take 7 (some 127) (v := ?_) rfl rfl (by kernel_rfl) (fun _ _ _ h => h) rfl (fun x hx => ?_) ?_
                rotate_left 1
                · obtain ⟨m0, m1, m2, m8, m9, m10, m11⟩ := cells_m (hx.has HI5.out.blk); obtain ⟨c0, c1, c2, c3⟩ := top_cells HI5.out HLA.out hx; go_simp; first | done | with_reducible rfl | rw [if_neg (by omega)] | rw [if_pos (by omega)]
                simp only [Act.put, List.setIfInBounds_toArray, List.set_cons_zero, List.set_cons_succ]
                refine wpU_take 8 (some 128) (v := ?_) rfl rfl (by kernel_rfl) (fun _ _ _ h => h) rfl (fun x hx => ?_) ?_
                rotate_left 1
                · go_simp; first | done | with_reducible rfl | rw [if_neg (by omega)] | rw [if_pos (by omega)]
                simp only [Act.put, List.setIfInBounds_toArray, List.set_cons_zero, List.set_cons_succ]
                refine wpU_take 9 (some 129) (v := ?_) rfl rfl (by kernel_rfl) (fun _ _ _ h => h) rfl (fun x hx => ?_) ?_
                rotate_left 1
                · go_simp; first | done | with_reducible rfl | rw [if_neg (by omega)] | rw [if_pos (by omega)]
                simp only [Act.put, List.setIfInBounds_toArray, List.set_cons_zero, List.set_cons_succ]
                refine wpU_take 10 (some 130) (v := ?_) rfl rfl (by kernel_rfl) (fun _ _ _ h => h) rfl (fun x hx => ?_) ?_
                rotate_left 1
                · go_simp; first | done | with_reducible rfl | rw [if_neg (by omega)] | rw [if_pos (by omega)]
                simp only [Act.put, List.setIfInBounds_toArray, List.set_cons_zero, List.set_cons_succ]
                refine wpU_take 11 (some 131) (v := ?_) rfl rfl (by kernel_rfl) (fun _ _ _ h => h) rfl (fun x hx => ?_) ?_
                rotate_left 1
                · obtain ⟨m0, m1, m2, m8, m9, m10, m11⟩ := cells_m (hx.has HI5.out.blk); obtain ⟨c0, c1, c2, c3⟩ := top_cells HI5.out HLA.out hx; go_simp; first | done | with_reducible rfl | rw [if_neg (by omega)] | rw [if_pos (by omega)]
                simp only [Act.put, List.setIfInBounds_toArray, List.set_cons_zero, List.set_cons_succ]
                refine wpU_step 12 (by kernel_rfl) rfl rfl ?_  -- alloc 
                go_wp2_with fail
                refine ⟨(Later.refl _).alloc _, ?_⟩
                refine wpU_last [_] (by kernel_rfl) rfl rfl ?_
                simp only [List.getElem_toArray, List.getElem_cons_succ, List.getElem_cons_zero]
                go_wp2_with fail
                -- region 17: 15 operations, the last [14]
                refine wpU_begin [14] [] (by kernel_rfl) (fun w7 hw7 => ?_)
                obtain ⟨hl7, hC7⟩ := drew_alloc hw7
                have HI7 := Lib.hid (HI5.out.later hl7)
                have HC7 := Lib.hid hC7
                have HB7 := Lib.hid (hl7.has HB5.out)
                have HG7 := Lib.hid (HG5.out.later hl7)
                clear hw7 hl7 hC7
                refine wpU_take 0 (some 132) (v := ?_) rfl rfl (by kernel_rfl) (fun _ _ _ h => h) rfl (fun x hx => ?_) ?_
                rotate_left 1
                · go_simp; first | done | with_reducible rfl | rw [if_neg (by omega)] | rw [if_pos (by omega)]
                simp only [Act.put, List.setIfInBounds_toArray, List.set_cons_zero, List.set_cons_succ]
                refine wpU_take 1 (some 133) (v := ?_) rfl rfl (by kernel_rfl) (fun _ _ _ h => h) rfl (fun x hx => ?_) ?_
                rotate_left 1
                · go_simp; first | done | with_reducible rfl | rw [if_neg (by omega)] | rw [if_pos (by omega)]
                simp only [Act.put, List.setIfInBounds_toArray, List.set_cons_zero, List.set_cons_succ]
                refine wpU_take 2 (some 134) (v := ?_) rfl rfl (by kernel_rfl) (fun _ _ _ h => h) rfl (fun x hx => ?_) ?_
                rotate_left 1
                · go_simp; first | done | with_reducible rfl | rw [if_neg (by omega)] | rw [if_pos (by omega)]
                simp only [Act.put, List.setIfInBounds_toArray, List.set_cons_zero, List.set_cons_succ]
                refine wpU_take 3 (some 135) (v := ?_) rfl rfl (by kernel_rfl) (fun _ _ _ h => h) rfl (fun x hx => ?_) ?_
                rotate_left 1
                · go_simp; first | done | with_reducible rfl | rw [if_neg (by omega)] | rw [if_pos (by omega)]
                simp only [Act.put, List.setIfInBounds_toArray, List.set_cons_zero, List.set_cons_succ]
                refine wpU_take 4 (some 136) (v := ?_) rfl rfl (by kernel_rfl) (fun _ _ _ h => h) rfl (fun x hx => ?_) ?_
                rotate_left 1
                · obtain ⟨m0, m1, m2, m8, m9, m10, m11⟩ := cells_m (hx.has HI7.out.blk); go_simp; first | done | with_reducible rfl | rw [if_neg (by omega)] | rw [if_pos (by omega)]
                simp only [Act.put, List.setIfInBounds_toArray, List.set_cons_zero, List.set_cons_succ]
                refine wpU_take 5 (some 137) (v := ?_) rfl rfl (by kernel_rfl) (fun _ _ _ h => h) rfl (fun x hx => ?_) ?_
                rotate_left 1
                · go_simp; first | done | with_reducible rfl | rw [if_neg (by omega)] | rw [if_pos (by omega)]
                simp only [Act.put, List.setIfInBounds_toArray, List.set_cons_zero, List.set_cons_succ]
                refine wpU_take 6 (some 138) (v := ?_) rfl rfl (by kernel_rfl) (fun _ _ _ h => h) rfl (fun x hx => ?_) ?_
                rotate_left 1
                · go_simp; first | done | with_reducible rfl | rw [if_neg (by omega)] | rw [if_pos (by omega)]
                simp only [Act.put, List.setIfInBounds_toArray, List.set_cons_zero, List.set_cons_succ]
                refine wpU_take 7 (some 139) (v := ?_) rfl rfl (by kernel_rfl) (fun _ _ _ h => h) rfl (fun x hx => ?_) ?_
                rotate_left 1
                · go_simp; first | done | with_reducible rfl | rw [if_neg (by omega)] | rw [if_pos (by omega)]
                simp only [Act.put, List.setIfInBounds_toArray, List.set_cons_zero, List.set_cons_succ]
                refine wpU_take 8 (some 140) (v := ?_) rfl rfl (by kernel_rfl) (fun _ _ _ h => h) rfl (fun x hx => ?_) ?_
                rotate_left 1
                · obtain ⟨m0, m1, m2, m8, m9, m10, m11⟩ := cells_m (hx.has HI7.out.blk); go_simp; first | done | with_reducible rfl | rw [if_neg (by omega)] | rw [if_pos (by omega)]
                simp only [Act.put, List.setIfInBounds_toArray, List.set_cons_zero, List.set_cons_succ]
                refine wpU_take 9 (some 141) (v := ?_) rfl rfl (by kernel_rfl) (fun _ _ _ h => h) rfl (fun x hx => ?_) ?_
                rotate_left 1
                · go_simp; first | done | with_reducible rfl | rw [if_neg (by omega)] | rw [if_pos (by omega)]
                simp only [Act.put, List.setIfInBounds_toArray, List.set_cons_zero, List.set_cons_succ]
                refine wpU_take 10 (some 142) (v := ?_) rfl rfl (by kernel_rfl) (fun _ _ _ h => h) rfl (fun x hx => ?_) ?_
                rotate_left 1
                · go_simp; first | done | with_reducible rfl | rw [if_neg (by omega)] | rw [if_pos (by omega)]
                simp only [Act.put, List.setIfInBounds_toArray, List.set_cons_zero, List.set_cons_succ]
                refine wpU_take 11 (some 143) (v := ?_) rfl rfl (by kernel_rfl) (fun _ _ _ h => h) rfl (fun x hx => ?_) ?_
                rotate_left 1
                · go_simp; first | done | with_reducible rfl | rw [if_neg (by omega)] | rw [if_pos (by omega)]
                simp only [Act.put, List.setIfInBounds_toArray, List.set_cons_zero, List.set_cons_succ]
                refine wpU_take 12 (some 144) (v := ?_) rfl rfl (by kernel_rfl) (fun _ _ _ h => h) rfl (fun x hx => ?_) ?_
                rotate_left 1
                · go_simp; first | done | with_reducible rfl | rw [if_neg (by omega)] | rw [if_pos (by omega)]
                simp only [Act.put, List.setIfInBounds_toArray, List.set_cons_zero, List.set_cons_succ]
                refine wpU_take 13 (some 145) (v := ?_) rfl rfl (by kernel_rfl) (fun _ _ _ h => h) rfl (fun x hx => ?_) ?_
                rotate_left 1
                · go_simp; first | done | with_reducible rfl | rw [if_neg (by omega)] | rw [if_pos (by omega)]
                simp only [Act.put, List.setIfInBounds_toArray, List.set_cons_zero, List.set_cons_succ]
                refine wpU_last [_] (by kernel_rfl) rfl rfl ?_
                simp only [List.getElem_toArray, List.getElem_cons_succ, List.getElem_cons_zero]
                obtain ⟨a8, b8, hab, _, _, hI8⟩ := HI7.out.pop HCS.out
                have HI8 := Lib.hid hI8
                have hCM : ¬ w5.heap.size = M := ne_of_type HC7.out HI7.out.blk (by decide)
                have hMC : ¬ M = w5.heap.size := fun e => hCM e.symm
                clear hab hI8
                obtain ⟨m0, m1, m2, m8, m9, m10, m11⟩ := cells_m HI7.out.blk
                obtain ⟨c0, c1, c2, c3⟩ := cells_c HC7.out
                have f11 := frozen_of_row w7 M 11 _ _ HI7.out.blk
                have f2 := frozen_of_row w7 M 2 _ _ HI7.out.blk
                go_wp2_with fail
                clear m0 m1 m2 m8 m9 m10 m11 c0 c1 c2 c3 f11 f2
                -- region 22: 15 operations, the last [14]
                refine wpU_begin [14] [] (by kernel_rfl) (fun w9 hw9 => ?_)
                have HI9 := Lib.hid ((HI8.out.setAt c.at_).later (drew_later hw9))
                have HC9 := Lib.hid ((drew_later hw9).has (heap_set_other (k := 2) (heap_set_other (k := 11) HC7.out hCM) hCM))
                have HG9 := Lib.hid (((HG7.out.keep (HI7.out.keepSet 11 _) _ _).keep (HI8.out.keepSet 2 _) _ _).later (drew_later hw9))
                clear hw9
                refine wpU_take 0 (some 166) (v := ?_) rfl rfl (by kernel_rfl) (fun _ _ _ h => h) rfl (fun x hx => ?_) ?_
                rotate_left 1
                · go_simp; first | done | with_reducible rfl | rw [if_neg (by omega)] | rw [if_pos (by omega)]
                simp only [Act.put, List.setIfInBounds_toArray, List.set_cons_zero, List.set_cons_succ]
                refine wpU_take 1 (some 167) (v := ?_) rfl rfl (by kernel_rfl) (fun _ _ _ h => h) rfl (fun x hx => ?_) ?_
                rotate_left 1
                · go_simp; first | done | with_reducible rfl | rw [if_neg (by omega)] | rw [if_pos (by omega)]
                simp only [Act.put, List.setIfInBounds_toArray, List.set_cons_zero, List.set_cons_succ]
                refine wpU_take 2 (some 168) (v := ?_) rfl rfl (by kernel_rfl) (fun _ _ _ h => h) rfl (fun x hx => ?_) ?_
                rotate_left 1
                · go_simp; first | done | with_reducible rfl | rw [if_neg (by omega)] | rw [if_pos (by omega)]
                simp only [Act.put, List.setIfInBounds_toArray, List.set_cons_zero, List.set_cons_succ]
                refine wpU_take 3 (some 169) (v := ?_) rfl rfl (by kernel_rfl) (fun _ _ _ h => h) rfl (fun x hx => ?_) ?_
                rotate_left 1
                · go_simp; first | done | with_reducible rfl | rw [if_neg (by omega)] | rw [if_pos (by omega)]
                simp only [Act.put, List.setIfInBounds_toArray, List.set_cons_zero, List.set_cons_succ]
                refine wpU_take 4 (some 170) (v := ?_) rfl rfl (by kernel_rfl) (fun _ _ _ h => h) rfl (fun x hx => ?_) ?_
                rotate_left 1
                · go_simp; first | done | with_reducible rfl | rw [if_neg (by omega)] | rw [if_pos (by omega)]
                simp only [Act.put, List.setIfInBounds_toArray, List.set_cons_zero, List.set_cons_succ]
                refine wpU_take 5 (some 171) (v := ?_) rfl rfl (by kernel_rfl) (fun _ _ _ h => h) rfl (fun x hx => ?_) ?_
                rotate_left 1
                · obtain ⟨m0, m1, m2, m8, m9, m10, m11⟩ := cells_m (hx.has HI9.out.blk); obtain ⟨c0, c1, c2, c3⟩ := cells_c (hx.has HC9.out); go_simp; first | done | with_reducible rfl | rw [if_neg (by omega)] | rw [if_pos (by omega)]
                simp only [Act.put, List.setIfInBounds_toArray, List.set_cons_zero, List.set_cons_succ]
                refine wpU_take 6 (some 172) (v := ?_) rfl rfl (by kernel_rfl) (fun _ _ _ h => h) rfl (fun x hx => ?_) ?_
                rotate_left 1
                · go_simp; first | done | with_reducible rfl | rw [if_neg (by omega)] | rw [if_pos (by omega)]
                simp only [Act.put, List.setIfInBounds_toArray, List.set_cons_zero, List.set_cons_succ]
                refine wpU_take 7 (some 173) (v := ?_) rfl rfl (by kernel_rfl) (fun _ _ _ h => h) rfl (fun x hx => ?_) ?_
                rotate_left 1
                · obtain ⟨m0, m1, m2, m8, m9, m10, m11⟩ := cells_m (hx.has HI9.out.blk); obtain ⟨c0, c1, c2, c3⟩ := cells_c (hx.has HC9.out); go_simp; first | done | with_reducible rfl | rw [if_neg (by omega)] | rw [if_pos (by omega)]
                simp only [Act.put, List.setIfInBounds_toArray, List.set_cons_zero, List.set_cons_succ]
                refine wpU_take 8 (some 174) (v := ?_) rfl rfl (by kernel_rfl) (fun _ _ _ h => h) rfl (fun x hx => ?_) ?_
                rotate_left 1
                · go_simp; first | done | with_reducible rfl | rw [if_neg (by omega)] | rw [if_pos (by omega)]
                simp only [Act.put, List.setIfInBounds_toArray, List.set_cons_zero, List.set_cons_succ]
                refine wpU_take 9 (some 175) (v := ?_) rfl rfl (by kernel_rfl) (fun _ _ _ h => h) rfl (fun x hx => ?_) ?_
                rotate_left 1
                · obtain ⟨m0, m1, m2, m8, m9, m10, m11⟩ := cells_m (hx.has HI9.out.blk); obtain ⟨c0, c1, c2, c3⟩ := cells_c (hx.has HC9.out); go_simp; first | done | with_reducible rfl | rw [if_neg (by omega)] | rw [if_pos (by omega)]
                simp only [Act.put, List.setIfInBounds_toArray, List.set_cons_zero, List.set_cons_succ]
                refine wpU_take 10 (some 176) (v := ?_) rfl rfl (by kernel_rfl) (fun _ _ _ h => h) rfl (fun x hx => ?_) ?_
                rotate_left 1
                · go_simp; first | done | with_reducible rfl | rw [if_neg (by omega)] | rw [if_pos (by omega)]
                simp only [Act.put, List.setIfInBounds_toArray, List.set_cons_zero, List.set_cons_succ]
                refine wpU_take 11 (some 177) (v := ?_) rfl rfl (by kernel_rfl) (fun _ _ _ h => h) rfl (fun x hx => ?_) ?_
                rotate_left 1
                · go_simp; first | done | with_reducible rfl | rw [if_neg (by omega)] | rw [if_pos (by omega)]
                simp only [Act.put, List.setIfInBounds_toArray, List.set_cons_zero, List.set_cons_succ]
                refine wpU_take 12 (some 178) (v := ?_) rfl rfl (by kernel_rfl) (fun _ _ _ h => h) rfl (fun x hx => ?_) ?_
                rotate_left 1
                · go_simp; first | done | with_reducible rfl | rw [if_neg (by omega)] | rw [if_pos (by omega)]
                simp only [Act.put, List.setIfInBounds_toArray, List.set_cons_zero, List.set_cons_succ]
                refine wpU_take 13 (some 179) (v := ?_) rfl rfl (by kernel_rfl) (fun _ _ _ h => h) rfl (fun x hx => ?_) ?_
                rotate_left 1
                · go_simp; first | done | with_reducible rfl | rw [if_neg (by omega)] | rw [if_pos (by omega)]
                simp only [Act.put, List.setIfInBounds_toArray, List.set_cons_zero, List.set_cons_succ]
                refine wpU_last [_] (by kernel_rfl) rfl rfl ?_
                simp only [List.getElem_toArray, List.getElem_cons_succ, List.getElem_cons_zero]
                have f9 := frozen_of_row w9 M 9 _ _ HI9.out.blk
                obtain ⟨m0, m1, m2, m8, m9, m10, m11⟩ := cells_m HI9.out.blk
                have HI10 := Lib.hid (HI9.out.cut_nil (k := c.ncap) hB hnc0)
                go_wp2_with fail
                go_roundg k
                case measure => omega
                case rel => exact ⟨n + 1, c.goals, ⟨c.at_, m.caps.take c.ncap, m.events, cs⟩, _, _, _, _, by omega, HG9.out.keep (HI9.out.keepSet 9 _) _ _, HI10.out, HK.out.pop HCS.out, HPL.out⟩
              · obtain ⟨hA, hC⟩ : cA4 = some ⟨g9, 0, none⟩ ∧ cc4 = cap9 := by simpa using hcv
                subst hA hC
                have hx1 : c.ncap ≤ cc4 := by omega
                clear hcv
                -- region 16: 14 operations, the last [13]
                refine wpU_begin [13] [] (by kernel_rfl) (fun w5 hw5 => ?_)
                have hl5 := drew_later hw5
                have HI5 := Lib.hid (HI4.out.later hl5)
                have HB5 := Lib.hid (hl5.has HB4.out)
                have HG5 := Lib.hid (HG4.out.later hl5)
                clear hw5 hl5
                refine wpU_take 0 (some 120) (v := ?_) rfl rfl (by kernel_rfl) (fun _ _ _ h => h) rfl (fun x hx => ?_) ?_
                rotate_left 1
                · go_simp; first | done | with_reducible rfl | rw [if_neg (by omega)] | rw [if_pos (by omega)]
                simp only [Act.put, List.setIfInBounds_toArray, List.set_cons_zero, List.set_cons_succ]
                refine wpU_take 1 (some 121) (v := ?_) rfl rfl (by kernel_rfl) (fun _ _ _ h => h) rfl (fun x hx => ?_) ?_
                rotate_left 1
                · go_simp; first | done | with_reducible rfl | rw [if_neg (by omega)] | rw [if_pos (by omega)]
                simp only [Act.put, List.setIfInBounds_toArray, List.set_cons_zero, List.set_cons_succ]
                refine wpU_take 2 (some 122) (v := ?_) rfl rfl (by kernel_rfl) (fun _ _ _ h => h) rfl (fun x hx => ?_) ?_
                rotate_left 1
                · go_simp; first | done | with_reducible rfl | rw [if_neg (by omega)] | rw [if_pos (by omega)]
                simp only [Act.put, List.setIfInBounds_toArray, List.set_cons_zero, List.set_cons_succ]
                refine wpU_take 3 (some 123) (v := ?_) rfl rfl (by kernel_rfl) (fun _ _ _ h => h) rfl (fun x hx => ?_) ?_
                rotate_left 1
                · obtain ⟨m0, m1, m2, m8, m9, m10, m11⟩ := cells_m (hx.has HI5.out.blk); obtain ⟨c0, c1, c2, c3⟩ := top_cells HI5.out HLA.out hx; go_simp; first | done | with_reducible rfl | rw [if_neg (by omega)] | rw [if_pos (by omega)]
                simp only [Act.put, List.setIfInBounds_toArray, List.set_cons_zero, List.set_cons_succ]
                refine wpU_take 4 (some 124) (v := ?_) rfl rfl (by kernel_rfl) (fun _ _ _ h => h) rfl (fun x hx => ?_) ?_
                rotate_left 1
                · go_simp; first | done | with_reducible rfl | rw [if_neg (by omega)] | rw [if_pos (by omega)]
                simp only [Act.put, List.setIfInBounds_toArray, List.set_cons_zero, List.set_cons_succ]
                refine wpU_take 5 (some 125) (v := ?_) rfl rfl (by kernel_rfl) (fun _ _ _ h => h) rfl (fun x hx => ?_) ?_
                rotate_left 1
                · go_simp; first | done | with_reducible rfl | rw [if_neg (by omega)] | rw [if_pos (by omega)]
                simp only [Act.put, List.setIfInBounds_toArray, List.set_cons_zero, List.set_cons_succ]
                refine wpU_take 6 (some 126) (v := ?_) rfl rfl (by kernel_rfl) (fun _ _ _ h => h) rfl (fun x hx => ?_) ?_
                rotate_left 1
                · go_simp; first | done | with_reducible rfl | rw [if_neg (by omega)] | rw [if_pos (by omega)]
                simp only [Act.put, List.setIfInBounds_toArray, List.set_cons_zero, List.set_cons_succ]
                refine wpU_take 7 (some 127) (v := ?_) rfl rfl (by kernel_rfl) (fun _ _ _ h => h) rfl (fun x hx => ?_) ?_
                rotate_left 1
                · obtain ⟨m0, m1, m2, m8, m9, m10, m11⟩ := cells_m (hx.has HI5.out.blk); obtain ⟨c0, c1, c2, c3⟩ := top_cells HI5.out HLA.out hx; go_simp; first | done | with_reducible rfl | rw [if_neg (by omega)] | rw [if_pos (by omega)]
                simp only [Act.put, List.setIfInBounds_toArray, List.set_cons_zero, List.set_cons_succ]
                refine wpU_take 8 (some 128) (v := ?_) rfl rfl (by kernel_rfl) (fun _ _ _ h => h) rfl (fun x hx => ?_) ?_
                rotate_left 1
                · go_simp; first | done | with_reducible rfl | rw [if_neg (by omega)] | rw [if_pos (by omega)]
                simp only [Act.put, List.setIfInBounds_toArray, List.set_cons_zero, List.set_cons_succ]
                refine wpU_take 9 (some 129) (v := ?_) rfl rfl (by kernel_rfl) (fun _ _ _ h => h) rfl (fun x hx => ?_) ?_
                rotate_left 1
                · go_simp; first | done | with_reducible rfl | rw [if_neg (by omega)] | rw [if_pos (by omega)]
                simp only [Act.put, List.setIfInBounds_toArray, List.set_cons_zero, List.set_cons_succ]
                refine wpU_take 10 (some 130) (v := ?_) rfl rfl (by kernel_rfl) (fun _ _ _ h => h) rfl (fun x hx => ?_) ?_
                rotate_left 1
                · go_simp; first | done | with_reducible rfl | rw [if_neg (by omega)] | rw [if_pos (by omega)]
                simp only [Act.put, List.setIfInBounds_toArray, List.set_cons_zero, List.set_cons_succ]
                refine wpU_take 11 (some 131) (v := ?_) rfl rfl (by kernel_rfl) (fun _ _ _ h => h) rfl (fun x hx => ?_) ?_
                rotate_left 1
                · obtain ⟨m0, m1, m2, m8, m9, m10, m11⟩ := cells_m (hx.has HI5.out.blk); obtain ⟨c0, c1, c2, c3⟩ := top_cells HI5.out HLA.out hx; go_simp; first | done | with_reducible rfl | rw [if_neg (by omega)] | rw [if_pos (by omega)]
                simp only [Act.put, List.setIfInBounds_toArray, List.set_cons_zero, List.set_cons_succ]
                refine wpU_step 12 (by kernel_rfl) rfl rfl ?_  -- alloc 
                go_wp2_with fail
                refine ⟨(Later.refl _).alloc _, ?_⟩
                refine wpU_last [_] (by kernel_rfl) rfl rfl ?_
                simp only [List.getElem_toArray, List.getElem_cons_succ, List.getElem_cons_zero]
                go_wp2_with fail
                -- region 17: 15 operations, the last [14]
                refine wpU_begin [14] [] (by kernel_rfl) (fun w7 hw7 => ?_)
                obtain ⟨hl7, hC7⟩ := drew_alloc hw7
                have HI7 := Lib.hid (HI5.out.later hl7)
                have HC7 := Lib.hid hC7
                have HB7 := Lib.hid (hl7.has HB5.out)
                have HG7 := Lib.hid (HG5.out.later hl7)
                clear hw7 hl7 hC7
                refine wpU_take 0 (some 132) (v := ?_) rfl rfl (by kernel_rfl) (fun _ _ _ h => h) rfl (fun x hx => ?_) ?_
                rotate_left 1
                · go_simp; first | done | with_reducible rfl | rw [if_neg (by omega)] | rw [if_pos (by omega)]
                simp only [Act.put, List.setIfInBounds_toArray, List.set_cons_zero, List.set_cons_succ]
                refine wpU_take 1 (some 133) (v := ?_) rfl rfl (by kernel_rfl) (fun _ _ _ h => h) rfl (fun x hx => ?_) ?_
                rotate_left 1
                · go_simp; first | done | with_reducible rfl | rw [if_neg (by omega)] | rw [if_pos (by omega)]
                simp only [Act.put, List.setIfInBounds_toArray, List.set_cons_zero, List.set_cons_succ]
                refine wpU_take 2 (some 134) (v := ?_) rfl rfl (by kernel_rfl) (fun _ _ _ h => h) rfl (fun x hx => ?_) ?_
                rotate_left 1
                · go_simp; first | done | with_reducible rfl | rw [if_neg (by omega)] | rw [if_pos (by omega)]
                simp only [Act.put, List.setIfInBounds_toArray, List.set_cons_zero, List.set_cons_succ]
                refine wpU_take 3 (some 135) (v := ?_) rfl rfl (by kernel_rfl) (fun _ _ _ h => h) rfl (fun x hx => ?_) ?_
                rotate_left 1
                · go_simp; first | done | with_reducible rfl | rw [if_neg (by omega)] | rw [if_pos (by omega)]
                simp only [Act.put, List.setIfInBounds_toArray, List.set_cons_zero, List.set_cons_succ]
                refine wpU_take 4 (some 136) (v := ?_) rfl rfl (by kernel_rfl) (fun _ _ _ h => h) rfl (fun x hx => ?_) ?_
                rotate_left 1
                · obtain ⟨m0, m1, m2, m8, m9, m10, m11⟩ := cells_m (hx.has HI7.out.blk); go_simp; first | done | with_reducible rfl | rw [if_neg (by omega)] | rw [if_pos (by omega)]
                simp only [Act.put, List.setIfInBounds_toArray, List.set_cons_zero, List.set_cons_succ]
                refine wpU_take 5 (some 137) (v := ?_) rfl rfl (by kernel_rfl) (fun _ _ _ h => h) rfl (fun x hx => ?_) ?_
                rotate_left 1
                · go_simp; first | done | with_reducible rfl | rw [if_neg (by omega)] | rw [if_pos (by omega)]
                simp only [Act.put, List.setIfInBounds_toArray, List.set_cons_zero, List.set_cons_succ]
                refine wpU_take 6 (some 138) (v := ?_) rfl rfl (by kernel_rfl) (fun _ _ _ h => h) rfl (fun x hx => ?_) ?_
                rotate_left 1
                · go_simp; first | done | with_reducible rfl | rw [if_neg (by omega)] | rw [if_pos (by omega)]
                simp only [Act.put, List.setIfInBounds_toArray, List.set_cons_zero, List.set_cons_succ]
                refine wpU_take 7 (some 139) (v := ?_) rfl rfl (by kernel_rfl) (fun _ _ _ h => h) rfl (fun x hx => ?_) ?_
                rotate_left 1
                · go_simp; first | done | with_reducible rfl | rw [if_neg (by omega)] | rw [if_pos (by omega)]
                simp only [Act.put, List.setIfInBounds_toArray, List.set_cons_zero, List.set_cons_succ]
                refine wpU_take 8 (some 140) (v := ?_) rfl rfl (by kernel_rfl) (fun _ _ _ h => h) rfl (fun x hx => ?_) ?_
                rotate_left 1
                · obtain ⟨m0, m1, m2, m8, m9, m10, m11⟩ := cells_m (hx.has HI7.out.blk); go_simp; first | done | with_reducible rfl | rw [if_neg (by omega)] | rw [if_pos (by omega)]
                simp only [Act.put, List.setIfInBounds_toArray, List.set_cons_zero, List.set_cons_succ]
                refine wpU_take 9 (some 141) (v := ?_) rfl rfl (by kernel_rfl) (fun _ _ _ h => h) rfl (fun x hx => ?_) ?_
                rotate_left 1
                · go_simp; first | done | with_reducible rfl | rw [if_neg (by omega)] | rw [if_pos (by omega)]
                simp only [Act.put, List.setIfInBounds_toArray, List.set_cons_zero, List.set_cons_succ]
                refine wpU_take 10 (some 142) (v := ?_) rfl rfl (by kernel_rfl) (fun _ _ _ h => h) rfl (fun x hx => ?_) ?_
                rotate_left 1
                · go_simp; first | done | with_reducible rfl | rw [if_neg (by omega)] | rw [if_pos (by omega)]
                simp only [Act.put, List.setIfInBounds_toArray, List.set_cons_zero, List.set_cons_succ]
                refine wpU_take 11 (some 143) (v := ?_) rfl rfl (by kernel_rfl) (fun _ _ _ h => h) rfl (fun x hx => ?_) ?_
                rotate_left 1
                · go_simp; first | done | with_reducible rfl | rw [if_neg (by omega)] | rw [if_pos (by omega)]
                simp only [Act.put, List.setIfInBounds_toArray, List.set_cons_zero, List.set_cons_succ]
                refine wpU_take 12 (some 144) (v := ?_) rfl rfl (by kernel_rfl) (fun _ _ _ h => h) rfl (fun x hx => ?_) ?_
                rotate_left 1
                · go_simp; first | done | with_reducible rfl | rw [if_neg (by omega)] | rw [if_pos (by omega)]
                simp only [Act.put, List.setIfInBounds_toArray, List.set_cons_zero, List.set_cons_succ]
                refine wpU_take 13 (some 145) (v := ?_) rfl rfl (by kernel_rfl) (fun _ _ _ h => h) rfl (fun x hx => ?_) ?_
                rotate_left 1
                · go_simp; first | done | with_reducible rfl | rw [if_neg (by omega)] | rw [if_pos (by omega)]
                simp only [Act.put, List.setIfInBounds_toArray, List.set_cons_zero, List.set_cons_succ]
                refine wpU_last [_] (by kernel_rfl) rfl rfl ?_
                simp only [List.getElem_toArray, List.getElem_cons_succ, List.getElem_cons_zero]
                obtain ⟨a8, b8, hab, _, _, hI8⟩ := HI7.out.pop HCS.out
                have HI8 := Lib.hid hI8
                have hCM : ¬ w5.heap.size = M := ne_of_type HC7.out HI7.out.blk (by decide)
                have hMC : ¬ M = w5.heap.size := fun e => hCM e.symm
                clear hab hI8
                obtain ⟨m0, m1, m2, m8, m9, m10, m11⟩ := cells_m HI7.out.blk
                obtain ⟨c0, c1, c2, c3⟩ := cells_c HC7.out
                have f11 := frozen_of_row w7 M 11 _ _ HI7.out.blk
                have f2 := frozen_of_row w7 M 2 _ _ HI7.out.blk
                go_wp2_with fail
                clear m0 m1 m2 m8 m9 m10 m11 c0 c1 c2 c3 f11 f2
                -- region 22: 15 operations, the last [14]
                refine wpU_begin [14] [] (by kernel_rfl) (fun w9 hw9 => ?_)
                have HI9 := Lib.hid ((HI8.out.setAt c.at_).later (drew_later hw9))
                have HC9 := Lib.hid ((drew_later hw9).has (heap_set_other (k := 2) (heap_set_other (k := 11) HC7.out hCM) hCM))
                have HG9 := Lib.hid (((HG7.out.keep (HI7.out.keepSet 11 _) _ _).keep (HI8.out.keepSet 2 _) _ _).later (drew_later hw9))
                clear hw9
                refine wpU_take 0 (some 166) (v := ?_) rfl rfl (by kernel_rfl) (fun _ _ _ h => h) rfl (fun x hx => ?_) ?_
                rotate_left 1
                · go_simp; first | done | with_reducible rfl | rw [if_neg (by omega)] | rw [if_pos (by omega)]
                simp only [Act.put, List.setIfInBounds_toArray, List.set_cons_zero, List.set_cons_succ]
                refine wpU_take 1 (some 167) (v := ?_) rfl rfl (by kernel_rfl) (fun _ _ _ h => h) rfl (fun x hx => ?_) ?_
                rotate_left 1
                · go_simp; first | done | with_reducible rfl | rw [if_neg (by omega)] | rw [if_pos (by omega)]
                simp only [Act.put, List.setIfInBounds_toArray, List.set_cons_zero, List.set_cons_succ]
                refine wpU_take 2 (some 168) (v := ?_) rfl rfl (by kernel_rfl) (fun _ _ _ h => h) rfl (fun x hx => ?_) ?_
                rotate_left 1
                · go_simp; first | done | with_reducible rfl | rw [if_neg (by omega)] | rw [if_pos (by omega)]
                simp only [Act.put, List.setIfInBounds_toArray, List.set_cons_zero, List.set_cons_succ]
                refine wpU_take 3 (some 169) (v := ?_) rfl rfl (by kernel_rfl) (fun _ _ _ h => h) rfl (fun x hx => ?_) ?_
                rotate_left 1
                · go_simp; first | done | with_reducible rfl | rw [if_neg (by omega)] | rw [if_pos (by omega)]
                simp only [Act.put, List.setIfInBounds_toArray, List.set_cons_zero, List.set_cons_succ]
                refine wpU_take 4 (some 170) (v := ?_) rfl rfl (by kernel_rfl) (fun _ _ _ h => h) rfl (fun x hx => ?_) ?_
                rotate_left 1
                · go_simp; first | done | with_reducible rfl | rw [if_neg (by omega)] | rw [if_pos (by omega)]
                simp only [Act.put, List.setIfInBounds_toArray, List.set_cons_zero, List.set_cons_succ]
                refine wpU_take 5 (some 171) (v := ?_) rfl rfl (by kernel_rfl) (fun _ _ _ h => h) rfl (fun x hx => ?_) ?_
                rotate_left 1
                · obtain ⟨m0, m1, m2, m8, m9, m10, m11⟩ := cells_m (hx.has HI9.out.blk); obtain ⟨c0, c1, c2, c3⟩ := cells_c (hx.has HC9.out); go_simp; first | done | with_reducible rfl | rw [if_neg (by omega)] | rw [if_pos (by omega)]
                simp only [Act.put, List.setIfInBounds_toArray, List.set_cons_zero, List.set_cons_succ]
                refine wpU_take 6 (some 172) (v := ?_) rfl rfl (by kernel_rfl) (fun _ _ _ h => h) rfl (fun x hx => ?_) ?_
                rotate_left 1
                · go_simp; first | done | with_reducible rfl | rw [if_neg (by omega)] | rw [if_pos (by omega)]
                simp only [Act.put, List.setIfInBounds_toArray, List.set_cons_zero, List.set_cons_succ]
                refine wpU_take 7 (some 173) (v := ?_) rfl rfl (by kernel_rfl) (fun _ _ _ h => h) rfl (fun x hx => ?_) ?_
                rotate_left 1
                · obtain ⟨m0, m1, m2, m8, m9, m10, m11⟩ := cells_m (hx.has HI9.out.blk); obtain ⟨c0, c1, c2, c3⟩ := cells_c (hx.has HC9.out); go_simp; first | done | with_reducible rfl | rw [if_neg (by omega)] | rw [if_pos (by omega)]
                simp only [Act.put, List.setIfInBounds_toArray, List.set_cons_zero, List.set_cons_succ]
                refine wpU_take 8 (some 174) (v := ?_) rfl rfl (by kernel_rfl) (fun _ _ _ h => h) rfl (fun x hx => ?_) ?_
                rotate_left 1
                · go_simp; first | done | with_reducible rfl | rw [if_neg (by omega)] | rw [if_pos (by omega)]
                simp only [Act.put, List.setIfInBounds_toArray, List.set_cons_zero, List.set_cons_succ]
                refine wpU_take 9 (some 175) (v := ?_) rfl rfl (by kernel_rfl) (fun _ _ _ h => h) rfl (fun x hx => ?_) ?_
                rotate_left 1
                · obtain ⟨m0, m1, m2, m8, m9, m10, m11⟩ := cells_m (hx.has HI9.out.blk); obtain ⟨c0, c1, c2, c3⟩ := cells_c (hx.has HC9.out); go_simp; first | done | with_reducible rfl | rw [if_neg (by omega)] | rw [if_pos (by omega)]
                simp only [Act.put, List.setIfInBounds_toArray, List.set_cons_zero, List.set_cons_succ]
                refine wpU_take 10 (some 176) (v := ?_) rfl rfl (by kernel_rfl) (fun _ _ _ h => h) rfl (fun x hx => ?_) ?_
                rotate_left 1
                · go_simp; first | done | with_reducible rfl | rw [if_neg (by omega)] | rw [if_pos (by omega)]
                simp only [Act.put, List.setIfInBounds_toArray, List.set_cons_zero, List.set_cons_succ]
                refine wpU_take 11 (some 177) (v := ?_) rfl rfl (by kernel_rfl) (fun _ _ _ h => h) rfl (fun x hx => ?_) ?_
                rotate_left 1
                · go_simp; first | done | with_reducible rfl | rw [if_neg (by omega)] | rw [if_pos (by omega)]
                simp only [Act.put, List.setIfInBounds_toArray, List.set_cons_zero, List.set_cons_succ]
                refine wpU_take 12 (some 178) (v := ?_) rfl rfl (by kernel_rfl) (fun _ _ _ h => h) rfl (fun x hx => ?_) ?_
                rotate_left 1
                · go_simp; first | done | with_reducible rfl | rw [if_neg (by omega)] | rw [if_pos (by omega)]
                simp only [Act.put, List.setIfInBounds_toArray, List.set_cons_zero, List.set_cons_succ]
                refine wpU_take 13 (some 179) (v := ?_) rfl rfl (by kernel_rfl) (fun _ _ _ h => h) rfl (fun x hx => ?_) ?_
                rotate_left 1
                · go_simp; first | done | with_reducible rfl | rw [if_neg (by omega)] | rw [if_pos (by omega)]
                simp only [Act.put, List.setIfInBounds_toArray, List.set_cons_zero, List.set_cons_succ]
                refine wpU_last [_] (by kernel_rfl) rfl rfl ?_
                simp only [List.getElem_toArray, List.getElem_cons_succ, List.getElem_cons_zero]
                have f9 := frozen_of_row w9 M 9 _ _ HI9.out.blk
                obtain ⟨m0, m1, m2, m8, m9, m10, m11⟩ := cells_m HI9.out.blk
                have HI10 := Lib.hid (HI9.out.cut (k := c.ncap) hncap)
                go_wp2_with fail
                go_roundg k
                case measure => omega
                case rel => exact ⟨n + 1, c.goals, ⟨c.at_, m.caps.take c.ncap, m.events, cs⟩, _, _, _, _, by omega, HG9.out.keep (HI9.out.keepSet 9 _) _ _, HI10.out, HK.out.pop HCS.out, HPL.out⟩

end Go.Proofs.Ytndefbecoahfhaa
