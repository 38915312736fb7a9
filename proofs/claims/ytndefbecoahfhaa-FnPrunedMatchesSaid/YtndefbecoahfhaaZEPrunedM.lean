/- FnPrunedMatches returns true for every code, and leaves its argument as it was. No condition. -/
import Derived.Test.YtndefbecoahfhaaZG1
import Derived.Test.YtndefbecoahfhaaZC9
import Derived.Test.YtndefbecoahfhaaZI1
import Derived.Test.YtndefbecoahfhaaZD1
import Derived.Test.YtndefbecoahfhaaRows
import Derived.WalkKit
import Derived.ProofKit
import Derived.OpenShut
import Derived.ChangeMaps5

/- The walk of FnFuel: more fuel does not change a match that has come to its end. -/
namespace Go.Proofs.Ytndefbecoahfhaa
open Go.RowKit

theorem answers_fuel {defs : List Pat} {p : Pat} {s : ByteArray} {fr f1 f2 : Int} (h1 : 0 ≤ f1 ∧ f1 ≤ 4000) (h2 : 0 ≤ f2 ∧ f2 ≤ 4000) : answers defs p s fr f1 = answers defs p s fr f2 := by
  simp [answers, h1.1, h1.2, h2.1, h2.2]
theorem matchRes_more {defs : List Pat} {p : Pat} {s : ByteArray} {fr fuel : Int} (h0 : 0 ≤ fuel) (h1 : fuel ≤ 4000) (he : (matchRes defs p s fr fuel).exhausted = false) : matchRes defs p s fr 4000 = matchRes defs p s fr fuel := by
  unfold matchRes at he ⊢
  rw [answers_fuel (f1 := 4000) (f2 := fuel) ⟨by omega, by omega⟩ ⟨h0, h1⟩]
  split
  · rename_i h
    rw [if_pos h] at he
    have := play_more defs s fuel.toNat 0 [⟨0, p, 0⟩] (.start fr.toNat) ((4000 : Int).toNat - fuel.toNat) he
    rwa [show fuel.toNat + ((4000 : Int).toNat - fuel.toNat) = (4000 : Int).toNat by omega] at this
  · rfl

theorem HasRow.base0 {w : World} {base : Nat} {e : TypeId} {size : Nat} {v : Value} {n : Nat} {xs : List Value} (h : HasRow w base e size v n xs) : HasRow w 0 e size v n xs := by
  refine ⟨h.1, ?_⟩
  rcases h.2 with hn | ⟨g, cap, cur, rfl, hb, rest⟩
  · exact .inl hn
  · exact .inr ⟨g, cap, cur, rfl, Nat.zero_le _, rest⟩
set_option maxRecDepth 100000 in
set_option maxHeartbeats 8000000 in
theorem fuelLaw_any (A : Option Addr) (n c : Nat) (w : World) (hby : BytesAt w A n) : Calls Try.prog 3 #[.slice A n c] w fun e w' => e = .returned (.bool true) ∧ Below w.heap.size w w' := by
  have HBY := Lib.hid hby
  clear hby
  by_cases hn : n ≤ 1048576
  rotate_left 1
  · have t1 : decide (1048576 < n) = true := by simp; omega
    go_enter Try.func3, Try.ntmps3
    go_wp2_with fail
    refine (big_any A n c _).mono ?_
    rintro e w' ⟨rfl, hw⟩
    obtain rfl : w = w' := hw.symm
    go_wp2_with fail
    go_ret
    exact ⟨rfl, Below.refl _ _⟩
  have t1 : decide (1048576 < n) = false := by simp; omega
  go_enter Try.func3, Try.ntmps3
  go_wp2_with fail
  refine (big_any A n c _).mono ?_
  rintro e w' ⟨rfl, hw⟩
  obtain rfl : w = w' := hw.symm
  go_wp2_with fail
  refine (drawMatch_any A n c _ HBY.out hn).mono ?_
  rintro e w2 ⟨defs, dA, dc, p, kv, s, fr, fuel, hfr0, hfr1, hfu0, hfu1, rfl, hmd⟩
  have HMD := Lib.hid hmd
  obtain ⟨ka, kc, hkv, _, _⟩ := hmd.2.2.2.2.2.1.form
  subst hkv
  have hdl : defs.length ≤ 1099511627776 := by have := hmd.2.1; omega
  have hsl : s.size ≤ 1099511627776 := by have := hmd.2.2.2.2.2.2.1; omega
  have HSM := Lib.hid hmd.2.2.1
  have HSP := Lib.hid hmd.2.2.2.1
  clear hmd t1
  obtain ⟨R, hR⟩ : ∃ R, matchRes defs p s fr fuel = R := ⟨_, rfl⟩
  obtain ⟨FR, hFR⟩ : ∃ FR : Int, matchFrom (matchRes defs p s fr fuel) fr = FR := ⟨_, rfl⟩
  have hRl : R.caps.length ≤ 4000 ∧ R.events.length ≤ 4000 := by rw [← hR]; exact matchRes_len HSM.out HSP.out
  rw [hR] at hFR
  have HRE := Lib.hid hR
  have HFR := Lib.hid hFR
  have hRc : R.caps.length ≤ 1000000 := by omega
  have hRe : R.events.length ≤ 1000000 := by omega
  clear hR hFR hRl
  go_wp2_with fail
  have hl3 := Later.alloc (Later.refl w2) (patCells p.op p.text p.num p.lo p.hi (.slice ka p.kids.length kc))
  have HIN := Lib.hid (RowF.in_ _ _ _ HMD.out.2.2.2.2.1)
  have HKI := Lib.hid (KidsF.in_ _ _ HMD.out.2.2.2.2.2.1)
  have HLW := Lib.hid HMD.out.2.2.2.2.2.2.2
  clear HMD
  refine (implMatch_any defs dA dc p _ s fr fuel _ HSM.out HSP.out (RowIn.later hl3 _ _ _ HIN.out) (KidsIn.later hl3 _ _ HKI.out) hdl hsl).mono ?_
  rintro e w4 hm
  rw [HRE.out, HFR.out] at hm
  obtain ⟨cv, ev, rfl, hcv, hev, hap, hb4⟩ := hm
  have HP4 := Lib.hid (Later.has hb4 (heap_alloc_new w2 (patCells p.op p.text p.num p.lo p.hi (.slice ka p.kids.length kc))))
  have hl5 := Later.alloc (Later.refl w4) (.cells #[.bool R.found, .bool R.stopped, .bool R.exhausted, .int .i64 FR, .int .i64 R.at_, .int .i64 R.steps, cv, ev] TR)
  have HM5 : Hid (MAt (w4.alloc (.cells #[.bool R.found, .bool R.stopped, .bool R.exhausted, .int .i64 FR, .int .i64 R.at_, .int .i64 R.steps, cv, ev] TR)) w4.heap.size 0 R FR cv ev) := Lib.hid ⟨heap_alloc_new _ _, (hcv.same (fun k hk => hl5.block k (hcv.lt k hk).2.1)).base0, (hev.same (fun k hk => hl5.block k (hev.lt k hk).2.1)).base0, hap⟩
  obtain ⟨cA, cc, rfl, _, _⟩ := hcv.form
  obtain ⟨eA, ec, rfl, _, _⟩ := hev.form
  have HL5 := Lib.hid ((hl3.trans hb4).trans hl5)
  have HP5 := Lib.hid (hl5.has HP4.out)
  clear hcv hev hap hb4 HP4 hl3 hl5
  obtain ⟨p0, p1, p2, p3, p4, p5⟩ := cells_p HP5.out
  go_wp2_with fail
  clear p0 p1 p2 p3 p4 p5
  obtain ⟨w5, hw5⟩ : ∃ x, x = w4.alloc (.cells #[.bool R.found, .bool R.stopped, .bool R.exhausted, .int .i64 FR, .int .i64 R.at_, .int .i64 R.steps, (.slice cA R.caps.length cc), (.slice eA R.events.length ec)] TR) := ⟨_, rfl⟩
  rw [← hw5] at HM5 HL5 HP5 ⊢
  clear hw5
  refine (specMatch_any defs dA dc p _ s fr fuel _ HSM.out HSP.out (RowIn.later HL5.out _ _ _ HIN.out) (KidsIn.later HL5.out _ _ HKI.out) hdl hsl).mono ?_
  rintro e w6 hm
  rw [HRE.out, HFR.out] at hm
  obtain ⟨cv2, ev2, rfl, hcv2, hev2, hap2, hb6⟩ := hm
  obtain ⟨cA2, cc2, rfl, _, _⟩ := hcv2.form
  obtain ⟨eA2, ec2, rfl, _, _⟩ := hev2.form
  clear hcv2 hev2 hap2
  have hl7 := Later.alloc (Later.refl w6) (.cells #[.bool R.found, .bool R.stopped, .bool R.exhausted, .int .i64 FR, .int .i64 R.at_, .int .i64 R.steps, (.slice cA2 R.caps.length cc2), (.slice eA2 R.events.length ec2)] TR)
  have HN7 := Lib.hid (heap_alloc_new w6 (.cells #[.bool R.found, .bool R.stopped, .bool R.exhausted, .int .i64 FR, .int .i64 R.at_, .int .i64 R.steps, (.slice cA2 R.caps.length cc2), (.slice eA2 R.events.length ec2)] TR))
  have HM7 := Lib.hid ((HM5.out.later hb6).later hl7)
  have HL7 := Lib.hid ((HL5.out.trans hb6).trans hl7)
  have HP7 := Lib.hid (hl7.has (Later.has hb6 HP5.out))
  have hlt5 : w4.heap.size < w6.heap.size := has_lt' (HM5.out.later hb6).blk
  have HM6 := Lib.hid (HM5.out.later hb6)
  have HL6 := Lib.hid (HL5.out.trans hb6)
  have HP6 := Lib.hid (Later.has hb6 HP5.out)
  have hlt2 : w2.heap.size < w6.heap.size := has_lt' HP6.out
  clear hb6 hl7 HM5 HL5 HP5
  obtain ⟨m0, m1, m2, m3, m4, m5, m6, m7⟩ := cells_r HM6.out.blk
  obtain ⟨n0, n1, n2, n3, n4, n5, n6, n7⟩ := cells_r HN7.out
  by_cases hex : R.exhausted = true
  · have t2 : R.exhausted = true := hex
    go_wp2_with fail
    go_ret
    exact ⟨rfl, (HLW.out.trans HL6.out).alloc _⟩
  have t2 : R.exhausted = false := by simpa using hex
  clear hex
  by_cases hf4 : fuel ≤ 4000
  rotate_left 1
  · have t3 : decide (4000 < fuel) = true := by simp; omega
    have t4 : decide (fuel < 0) = false := by simp; omega
    go_wp2_with fail
    go_ret
    exact ⟨rfl, (HLW.out.trans HL6.out).alloc _⟩
  have t3 : decide (4000 < fuel) = false := by simp; omega
  have t4 : decide (fuel < 0) = false := by simp; omega
  have HRE4 := Lib.hid ((matchRes_more hfu0 hf4 (by rw [HRE.out]; exact t2)).trans HRE.out)
  obtain ⟨p0, p1, p2, p3, p4, p5⟩ := cells_p HP6.out
  go_wp2_with fail
  clear p0 p1 p2 p3 p4 p5 m0 m1 m2 m3 m4 m5 m6 m7 n0 n1 n2 n3 n4 n5 n6 n7
  have hl8 := fun o => Later.alloc (Later.refl w6) o
  refine (implMatch_any defs dA dc p _ s fr 4000 _ HSM.out HSP.out (RowIn.later (HL6.out.alloc _) _ _ _ HIN.out) (KidsIn.later (HL6.out.alloc _) _ _ HKI.out) hdl hsl).mono ?_
  rintro e w8 hm
  rw [HRE4.out, HFR.out] at hm
  obtain ⟨cv3, ev3, rfl, hcv3, hev3, hap3, hb8⟩ := hm
  obtain ⟨cA3, cc3, rfl, _, _⟩ := hcv3.form
  obtain ⟨eA3, ec3, rfl, _, _⟩ := hev3.form
  have HM8 := Lib.hid ((HM6.out.later (hl8 _)).later hb8)
  have HL8 := Lib.hid ((HL6.out.alloc _).trans hb8)
  have HC8 := Lib.hid hcv3
  have HV8 := Lib.hid hev3
  have hlt8 : w4.heap.size < w8.heap.size := has_lt' HM8.out.blk
  clear hcv3 hev3 hap3 hb8 hl8
  obtain ⟨m0, m1, m2, m3, m4, m5, m6, m7⟩ := cells_r HM8.out.blk
  go_wp2_with fail
  clear m0 m1 m2 m3 m4 m5 m6 m7
  refine (sameCaptures_any R.caps _ _ _ 0 _ (row_keep HM8.out.caps (KeepT.alloc _ _)) (row_keep HC8.out (KeepT.alloc _ _)) hRc).mono ?_
  rintro e w9 ⟨rfl, hb9⟩
  have hl9 : Later w8 w9 := Below.trans ((Later.refl w8).alloc _) (Below.mono hb9 (by simp))
  have HN9 := Lib.hid (Later.has hb9 (heap_alloc_new w8 _))
  have HM9 := Lib.hid (HM8.out.later hl9)
  have HV9 := Lib.hid (row_keep HV8.out (KeepT.later hl9))
  have HL9 := Lib.hid (HL8.out.trans hl9)
  clear hb9 hl9
  obtain ⟨m0, m1, m2, m3, m4, m5, m6, m7⟩ := cells_r HM9.out.blk
  obtain ⟨n0, n1, n2, n3, n4, n5, n6, n7⟩ := cells_r HN9.out
  go_wp2_with fail
  clear m0 m1 m2 m3 m4 m5 m6 m7 n0 n1 n2 n3 n4 n5 n6 n7
  refine (sameCaptures_any R.events _ _ _ 0 _ HM9.out.evs HV9.out hRe).mono ?_
  rintro e w10 ⟨rfl, hb10⟩
  have HL10 := Lib.hid (HL9.out.trans hb10)
  clear hb10
  go_wp2_with fail
  go_ret
  exact ⟨rfl, HLW.out.trans HL10.out⟩
end Go.Proofs.Ytndefbecoahfhaa

/- The walk of FnPrunedMatches: a pruned search finds the same match with no more steps. Printed by gen_prmatches.py. -/
namespace Go.Proofs.Ytndefbecoahfhaa
open Go.RowKit

set_option maxRecDepth 100000 in
set_option maxHeartbeats 8000000 in
theorem prunedLaw_any (A : Option Addr) (n c : Nat) (w : World) (hby : BytesAt w A n) : Calls Try.prog 6 #[.slice A n c] w fun e w' => e = .returned (.bool true) ∧ Below w.heap.size w w' := by
  have HBY := Lib.hid hby
  clear hby
  by_cases hn : n ≤ 1048576
  rotate_left 1
  · have t1 : decide (1048576 < n) = true := by simp; omega
    go_enter Try.func6, Try.ntmps6
    go_wp2_with fail
    refine (big_any A n c _).mono ?_
    rintro e w' ⟨rfl, hw⟩
    obtain rfl : w = w' := hw.symm
    go_wp2_with fail
    go_ret
    exact ⟨rfl, Below.refl _ _⟩
  have t1 : decide (1048576 < n) = false := by simp; omega
  go_enter Try.func6, Try.ntmps6
  go_wp2_with fail
  refine (big_any A n c _).mono ?_
  rintro e w' ⟨rfl, hw⟩
  obtain rfl : w = w' := hw.symm
  go_wp2_with fail
  refine (drawPruned_any A n c _ HBY.out hn).mono ?_
  rintro e w2 ⟨defs, dA, dc, p, kv, s, fuel, hfu0, hfu1, rfl, hmd⟩
  have HMD := Lib.hid hmd
  obtain ⟨ka, kc, hkv, _, _⟩ := hmd.2.2.2.2.2.1.form
  subst hkv
  have hdl : defs.length ≤ 1099511627776 := by have := hmd.2.1; omega
  have hsl : s.size ≤ 1099511627776 := by have := hmd.2.2.2.2.2.2.1; omega
  have HSM := Lib.hid hmd.2.2.1
  have HSP := Lib.hid hmd.2.2.2.1
  have HIN := Lib.hid (RowF.in_ _ _ _ hmd.2.2.2.2.1)
  have HKI := Lib.hid (KidsF.in_ _ _ hmd.2.2.2.2.2.1)
  have HLW := Lib.hid hmd.2.2.2.2.2.2.2
  clear hmd t1 HMD hw
  obtain ⟨R, FR, hR⟩ : ∃ R FR, searchRes defs p s fuel = (R, FR) := ⟨_, _, rfl⟩
  obtain ⟨B, FB, hB⟩ : ∃ B FB, prunedRes defs p s fuel = (B, FB) := ⟨_, _, rfl⟩
  have hal := pruned_alike defs p s fuel
  rw [hR, hB] at hal
  have hRl := searchRes_len (s := s) (fuel := fuel) HSM.out HSP.out
  rw [hR] at hRl
  have hRc : R.caps.length ≤ 1000000 := by have := hRl.1; simp at this; omega
  clear hRl
  have HRE := Lib.hid hR
  have HBE := Lib.hid hB
  have HAL := Lib.hid hal
  clear hR hB hal
  by_cases hex : R.exhausted = true
  · obtain ⟨rf, rs, rx, ra, rst, rc, re⟩ := R
    simp only at hex
    subst hex
    go_wp2_with fail
    have hl3 := Later.alloc (Later.refl w2) (patCells p.op p.text p.num p.lo p.hi (.slice ka p.kids.length kc))
    refine (implSearch_any defs dA dc p _ s fuel _ HSM.out HSP.out (RowIn.later hl3 _ _ _ HIN.out) (KidsIn.later hl3 _ _ HKI.out) hdl hsl).mono ?_
    rintro e w4 hm
    rw [HRE.out] at hm
    obtain ⟨cv, ev, rfl, hcv, hev, hap, hb4⟩ := hm
    have HP4 := Lib.hid (Later.has hb4 (heap_alloc_new w2 (patCells p.op p.text p.num p.lo p.hi (.slice ka p.kids.length kc))))
    have hl5 := Later.alloc (Later.refl w4) (.cells #[.bool rf, .bool rs, .bool true, .int .i64 FR, .int .i64 ra, .int .i64 rst, cv, ev] TR)
    have HM5 : Hid (MAt (w4.alloc (.cells #[.bool rf, .bool rs, .bool true, .int .i64 FR, .int .i64 ra, .int .i64 rst, cv, ev] TR)) w4.heap.size 0 ⟨rf, rs, true, ra, rst, rc, re⟩ FR cv ev) := Lib.hid ⟨heap_alloc_new _ _, (hcv.same (fun k hk => hl5.block k (hcv.lt k hk).2.1)).base0, (hev.same (fun k hk => hl5.block k (hev.lt k hk).2.1)).base0, hap⟩
    obtain ⟨cA, cc, rfl, _, _⟩ := hcv.form
    obtain ⟨eA, ec, rfl, _, _⟩ := hev.form
    have HL5 := Lib.hid ((hl3.trans hb4).trans hl5)
    have HP5 := Lib.hid (hl5.has HP4.out)
    clear hcv hev hap hb4 HP4 hl3 hl5
    obtain ⟨p0, p1, p2, p3, p4, p5⟩ := cells_p HP5.out
    go_wp2_with fail
    clear p0 p1 p2 p3 p4 p5
    obtain ⟨w5, hw5⟩ : ∃ x, x = w4.alloc (.cells #[.bool rf, .bool rs, .bool true, .int .i64 FR, .int .i64 ra, .int .i64 rst, (.slice cA rc.length cc), (.slice eA re.length ec)] TR) := ⟨_, rfl⟩
    rw [← hw5] at HM5 HL5 HP5 ⊢
    clear hw5
    refine (implPruned_any defs dA dc p _ s fuel _ HSM.out HSP.out (RowIn.later HL5.out _ _ _ HIN.out) (KidsIn.later HL5.out _ _ HKI.out) hdl hsl).mono ?_
    rintro e w6 hm
    rw [HBE.out] at hm
    obtain ⟨cv2, ev2, rfl, hcv2, hev2, hap2, hb6⟩ := hm
    have hl7 := Later.alloc (Later.refl w6) (.cells #[.bool B.found, .bool B.stopped, .bool B.exhausted, .int .i64 FB, .int .i64 B.at_, .int .i64 B.steps, cv2, ev2] TR)
    have HN7 : Hid (MAt (w6.alloc (.cells #[.bool B.found, .bool B.stopped, .bool B.exhausted, .int .i64 FB, .int .i64 B.at_, .int .i64 B.steps, cv2, ev2] TR)) w6.heap.size 0 B FB cv2 ev2) := Lib.hid ⟨heap_alloc_new _ _, (hcv2.same (fun k hk => hl7.block k (hcv2.lt k hk).2.1)).base0, (hev2.same (fun k hk => hl7.block k (hev2.lt k hk).2.1)).base0, hap2⟩
    obtain ⟨cA2, cc2, rfl, _, _⟩ := hcv2.form
    obtain ⟨eA2, ec2, rfl, _, _⟩ := hev2.form
    have HM7 := Lib.hid ((HM5.out.later hb6).later hl7)
    have HL7 := Lib.hid ((HL5.out.trans hb6).trans hl7)
    have HP7 := Lib.hid (hl7.has (Later.has hb6 HP5.out))
    clear hcv2 hev2 hap2 hb6 hl7 HM5 HL5 HP5
    obtain ⟨p0, p1, p2, p3, p4, p5⟩ := cells_p HP7.out
    go_wp2_with fail
    clear p0 p1 p2 p3 p4 p5
    obtain ⟨w7, hw7⟩ : ∃ x, x = w6.alloc (.cells #[.bool B.found, .bool B.stopped, .bool B.exhausted, .int .i64 FB, .int .i64 B.at_, .int .i64 B.steps, (.slice cA2 B.caps.length cc2), (.slice eA2 B.events.length ec2)] TR) := ⟨_, rfl⟩
    rw [← hw7] at HM7 HN7 HL7 HP7 ⊢
    clear hw7
    refine (specSearch_any defs dA dc p _ s fuel _ HSM.out HSP.out (RowIn.later HL7.out _ _ _ HIN.out) (KidsIn.later HL7.out _ _ HKI.out) hdl hsl).mono ?_
    rintro e w8 hm
    rw [HRE.out] at hm
    obtain ⟨cv3, ev3, rfl, hcv3, hev3, hap3, hb8⟩ := hm
    obtain ⟨cA3, cc3, rfl, _, _⟩ := hcv3.form
    obtain ⟨eA3, ec3, rfl, _, _⟩ := hev3.form
    have HM8 := Lib.hid (HM7.out.later hb8)
    have HN8 := Lib.hid (HN7.out.later hb8)
    have HL8 := Lib.hid (HL7.out.trans hb8)
    have hlt4 : w4.heap.size < w8.heap.size := has_lt' HM8.out.blk
    have hlt6 : w6.heap.size < w8.heap.size := has_lt' HN8.out.blk
    clear hcv3 hev3 hap3 hb8 HM7 HN7 HL7 HP7
    obtain ⟨m0, m1, m2, m3, m4, m5, m6, m7⟩ := cells_r HM8.out.blk
    obtain ⟨n0, n1, n2, n3, n4, n5, n6, n7⟩ := cells_r HN8.out.blk
    go_wp2_with fail
    go_ret
    exact ⟨rfl, (HLW.out.trans HL8.out).alloc _⟩
  · obtain ⟨rf, rs, rx, ra, rst, rc, re⟩ := R
    obtain ⟨bf, bs, bx, ba, bst, bc, be⟩ := B
    have hrx : rx = false := by simpa using hex
    subst hrx
    obtain ⟨a1, a2, a3, a4, a5, a6⟩ := HAL.out rfl
    simp only at a1 a2 a3 a4 a5 a6
    subst a1
    subst a2
    subst a3
    subst a4
    subst a6
    clear hex HAL
    have t5 : decide ((bst : Int) ≤ rst) = true := by simp; omega
    have t6 : decide (bst ≤ rst) = true := by simp; omega
    go_wp2_with fail
    have hl3 := Later.alloc (Later.refl w2) (patCells p.op p.text p.num p.lo p.hi (.slice ka p.kids.length kc))
    refine (implSearch_any defs dA dc p _ s fuel _ HSM.out HSP.out (RowIn.later hl3 _ _ _ HIN.out) (KidsIn.later hl3 _ _ HKI.out) hdl hsl).mono ?_
    rintro e w4 hm
    rw [HRE.out] at hm
    obtain ⟨cv, ev, rfl, hcv, hev, hap, hb4⟩ := hm
    have HP4 := Lib.hid (Later.has hb4 (heap_alloc_new w2 (patCells p.op p.text p.num p.lo p.hi (.slice ka p.kids.length kc))))
    have hl5 := Later.alloc (Later.refl w4) (.cells #[.bool bf, .bool bs, .bool false, .int .i64 FB, .int .i64 ba, .int .i64 rst, cv, ev] TR)
    have HM5 : Hid (MAt (w4.alloc (.cells #[.bool bf, .bool bs, .bool false, .int .i64 FB, .int .i64 ba, .int .i64 rst, cv, ev] TR)) w4.heap.size 0 ⟨bf, bs, false, ba, rst, bc, re⟩ FB cv ev) := Lib.hid ⟨heap_alloc_new _ _, (hcv.same (fun k hk => hl5.block k (hcv.lt k hk).2.1)).base0, (hev.same (fun k hk => hl5.block k (hev.lt k hk).2.1)).base0, hap⟩
    obtain ⟨cA, cc, rfl, _, _⟩ := hcv.form
    obtain ⟨eA, ec, rfl, _, _⟩ := hev.form
    have HL5 := Lib.hid ((hl3.trans hb4).trans hl5)
    have HP5 := Lib.hid (hl5.has HP4.out)
    clear hcv hev hap hb4 HP4 hl3 hl5
    obtain ⟨p0, p1, p2, p3, p4, p5⟩ := cells_p HP5.out
    go_wp2_with fail
    clear p0 p1 p2 p3 p4 p5
    obtain ⟨w5, hw5⟩ : ∃ x, x = w4.alloc (.cells #[.bool bf, .bool bs, .bool false, .int .i64 FB, .int .i64 ba, .int .i64 rst, (.slice cA bc.length cc), (.slice eA re.length ec)] TR) := ⟨_, rfl⟩
    rw [← hw5] at HM5 HL5 HP5 ⊢
    clear hw5
    refine (implPruned_any defs dA dc p _ s fuel _ HSM.out HSP.out (RowIn.later HL5.out _ _ _ HIN.out) (KidsIn.later HL5.out _ _ HKI.out) hdl hsl).mono ?_
    rintro e w6 hm
    rw [HBE.out] at hm
    obtain ⟨cv2, ev2, rfl, hcv2, hev2, hap2, hb6⟩ := hm
    have hl7 := Later.alloc (Later.refl w6) (.cells #[.bool bf, .bool bs, .bool bx, .int .i64 FB, .int .i64 ba, .int .i64 bst, cv2, ev2] TR)
    have HN7 : Hid (MAt (w6.alloc (.cells #[.bool bf, .bool bs, .bool bx, .int .i64 FB, .int .i64 ba, .int .i64 bst, cv2, ev2] TR)) w6.heap.size 0 ⟨bf, bs, bx, ba, bst, bc, be⟩ FB cv2 ev2) := Lib.hid ⟨heap_alloc_new _ _, (hcv2.same (fun k hk => hl7.block k (hcv2.lt k hk).2.1)).base0, (hev2.same (fun k hk => hl7.block k (hev2.lt k hk).2.1)).base0, hap2⟩
    obtain ⟨cA2, cc2, rfl, _, _⟩ := hcv2.form
    obtain ⟨eA2, ec2, rfl, _, _⟩ := hev2.form
    have HM7 := Lib.hid ((HM5.out.later hb6).later hl7)
    have HL7 := Lib.hid ((HL5.out.trans hb6).trans hl7)
    have HP7 := Lib.hid (hl7.has (Later.has hb6 HP5.out))
    clear hcv2 hev2 hap2 hb6 hl7 HM5 HL5 HP5
    obtain ⟨p0, p1, p2, p3, p4, p5⟩ := cells_p HP7.out
    go_wp2_with fail
    clear p0 p1 p2 p3 p4 p5
    obtain ⟨w7, hw7⟩ : ∃ x, x = w6.alloc (.cells #[.bool bf, .bool bs, .bool bx, .int .i64 FB, .int .i64 ba, .int .i64 bst, (.slice cA2 bc.length cc2), (.slice eA2 be.length ec2)] TR) := ⟨_, rfl⟩
    rw [← hw7] at HM7 HN7 HL7 HP7 ⊢
    clear hw7
    refine (specSearch_any defs dA dc p _ s fuel _ HSM.out HSP.out (RowIn.later HL7.out _ _ _ HIN.out) (KidsIn.later HL7.out _ _ HKI.out) hdl hsl).mono ?_
    rintro e w8 hm
    rw [HRE.out] at hm
    obtain ⟨cv3, ev3, rfl, hcv3, hev3, hap3, hb8⟩ := hm
    obtain ⟨cA3, cc3, rfl, _, _⟩ := hcv3.form
    obtain ⟨eA3, ec3, rfl, _, _⟩ := hev3.form
    have HM8 := Lib.hid (HM7.out.later hb8)
    have HN8 := Lib.hid (HN7.out.later hb8)
    have HL8 := Lib.hid (HL7.out.trans hb8)
    have hlt4 : w4.heap.size < w8.heap.size := has_lt' HM8.out.blk
    have hlt6 : w6.heap.size < w8.heap.size := has_lt' HN8.out.blk
    clear hcv3 hev3 hap3 hb8 HM7 HN7 HL7 HP7
    obtain ⟨m0, m1, m2, m3, m4, m5, m6, m7⟩ := cells_r HM8.out.blk
    obtain ⟨n0, n1, n2, n3, n4, n5, n6, n7⟩ := cells_r HN8.out.blk
    go_wp2_with fail
    clear m0 m1 m2 m3 m4 m5 m6 m7 n0 n1 n2 n3 n4 n5 n6 n7
    refine (sameCaptures_any bc _ _ _ 0 0 (row_keep HM8.out.caps (KeepT.alloc _ _)) (row_keep HN8.out.caps (KeepT.alloc _ _)) hRc).mono ?_
    rintro e w9 ⟨rfl, hb9⟩
    have HL9 := Lib.hid ((HL8.out.alloc _).trans hb9)
    clear hb9
    go_wp2_with fail
    go_ret
    exact ⟨rfl, HLW.out.trans HL9.out⟩
end Go.Proofs.Ytndefbecoahfhaa

/- FnPrunedMatches returns true for every code, and leaves its argument as it was. No condition. -/
namespace Go.Proofs.Ytndefbecoahfhaa
open Go.ChangeShapes Go.WideShapes Go.ChangeAt Go.RowKit Go.ChangeMaps

set_option maxRecDepth 100000 in
theorem prunedMatches_holds_lifted (os : Os) (started : os.Started) (H : Type) (enc : TypeId × Value → H) :
    ReturnsInHanded {} Try.checked os 6 .any (Rows.fnPrunedMatchesSpec.pre6 enc Try.prog Try.f6 Rows.fnPrunedMatchesRow.domain false) (Rows.fnPrunedMatchesSpec.post enc Try.prog Try.f6 false true false false) := by
  refine returnsInHanded_of_change (C := Try.checked) own started (by kernel_rfl) Try.func6
    (ChangeSpec.witness6 (enc := enc) (C := Try.checked) false ⟨#[], #[.slice none 0 0], []⟩ 8 (by kernel_rfl) (by kernel_rfl) (by kernel_rfl) (by kernel_rfl)) ?_
  intro W base args ds gs before hval0 hW hcnd _
  have hval : ∀ (j : Nat) t v, Try.f6.params[j]? = some t → args[j]? = some v → Value.okWide Try.prog W .any base t v := hval0
  have hW' := hW
  obtain ⟨p, q, hA0, hV, rfl, hfz, hnd⟩ := hW
  have hA : DataW.TrodAll enc Try.prog W 0 (fun _ => true) true Try.f6.params.toList args.toList ds p := hA0
  rw [Try.params6] at hA hval
  obtain ⟨v0, vs0, d0, ds0, p0, q0, hargs, rfl, rfl, h0, r0⟩ := trodAll_cons hA
  obtain ⟨rfl, rfl, rfl⟩ := trodAll_nil r0
  obtain rfl : args = #[v0] := by cases args; simp_all
  obtain ⟨A, n, c, rfl, hby⟩ := open_code (hval 0 _ v0 rfl rfl) h0
  refine (prunedLaw_any A n c W hby).mono fun e W' ⟨he, hb⟩ => ?_
  subst he
  exact ⟨_, rfl, law_post laidOut hW' rfl rfl (by kernel_rfl) Try.underlying4 (by kernel_rfl) hb⟩

theorem prunedMatches_holds : Rows.FnPrunedMatchesSaid :=
  OpenClaim.holds_of_wide 6 Try.f6 rfl rfl rfl rfl rfl rfl rfl ⟨rfl, rfl, rfl, rfl, rfl⟩ rfl rfl rfl rfl rfl (by kernel_rfl) Try.func6 (by kernel_rfl)
    (of_decide_eq_true (by kernel_rfl)) (by unfold Func.isWrapper; first | (rw [if_pos (by decide +kernel)]; kernel_rfl) | (rw [if_neg (by decide +kernel)]; exact ⟨rfl, rfl⟩))
    (fun os started H enc _ => prunedMatches_holds_lifted os started H enc)
#print axioms prunedMatches_holds

end Go.Proofs.Ytndefbecoahfhaa
