/- Both MatchPattern functions give one answer. -/
import Derived.Test.YtndefbecoahfhaaZSm
import Derived.Test.YtndefbecoahfhaaMP

/- MatchPattern of both sides, where they do not match; spec's, where it does. Printed by gen_mpno.py. -/
namespace Go.Proofs.Ytndefbecoahfhaa
open Go.RowKit

theorem l18Defs_is (b : Bool) (defs : List Pat) (A : Option Addr) (c : Nat) (p : Pat) (kv : Value) (w : World) (hs : Smalls defs) (hp : Small p) (hd : RowIn w A 0 defs) (hin : KidsIn w p kv) (hdl : defs.length ≤ 1099511627776) (hb : validD defs p = b) :
    Calls Try.prog 39 #[.slice A defs.length c, p.v kv] w fun e w' => e = .returned (.bool b) ∧ Below w.heap.size w w' := by
  subst hb
  exact l18Defs_any defs A c p kv w hs hp hd hin hdl

set_option maxRecDepth 100000 in
set_option maxHeartbeats 4000000 in
theorem implMatch_no (defs : List Pat) (dA : Option Addr) (dc : Nat) (p : Pat) (kv : Value) (s : ByteArray) (fr fuel : Int) (w : World) (hs : Smalls defs) (hp : Small p) (hd : RowIn w dA 0 defs) (hin : KidsIn w p kv) (hdl : defs.length ≤ 1099511627776) (hsl : s.size ≤ 1099511627776) (hno : answers defs p s fr fuel = false) :
    Calls Try.prog 11 #[.slice dA defs.length dc, p.v kv, .string s, .int .i64 fr, .int .i64 fuel] w (MatchIs w .none 0) := by
  obtain ⟨kA, kc, rfl, _, _⟩ := hin.form
  have HS := Lib.hid hs
  have HP := Lib.hid hp
  have HD := Lib.hid hd
  have HIN := Lib.hid hin
  clear hs hp hd hin
  by_cases hv : validD defs p = true
  · by_cases c1 : s.size ≤ 120
    · have c1 : ¬ ((120 : Int) < s.size) := by omega
      by_cases c2 : fr < 0
      · have HV := Lib.hid hv
        clear hv hno
        have t1 : decide ((120 : Int) < s.size) = false := by simpa using c1
        have t2 : decide (fr < 0) = true := by simpa using c2
        go_enter Try.func11, Try.ntmps11
        go_wp2_with fail
        have HLA := Lib.hid (((Later.refl w).alloc (Obj.cells #[.int .i64 p.op, .string p.text, .int .i64 p.num, .int .i64 p.lo, .int .i64 p.hi, .slice kA p.kids.length kc] TP)).alloc (Obj.cells zeroM TR))
        refine (validDefinitions_is true defs dA dc p _ _ HS.out HP.out (RowIn.later HLA.out _ _ _ HD.out) (KidsIn.later HLA.out _ _ HIN.out) hdl HV.out).mono ?_
        rintro e w2 ⟨rfl, hb2⟩
        have HR2 := Lib.hid (Later.has hb2 (heap_alloc_new _ _))
        simp only [World.size_alloc] at HR2
        have HL2 := Lib.hid (HLA.out.trans hb2)
        clear hb2 HLA
        obtain ⟨r0, r1, r2, r3, r4, r5, r6, r7⟩ := cells_r HR2.out
        obtain ⟨f0, f1, f2, f3, f4, f5, f6, f7⟩ := frozen_r HR2.out
        go_wp2_with fail
        refine bodyPost_ret (v := matchV .none 0 (.slice none 0 0) (.slice none 0 0)) (by simp [results, Try.results11, go_sem, r0, r1, r2, r3, r4, r5, r6, r7, Res.none]) rfl ?_
        exact ⟨_, _, rfl, HasRow.nil _ _ _ _, HasRow.nil _ _ _ _, .inl rfl, Below.trans HL2.out ((((((((((OnlyAt.refl _ _).set _ _).set _ _).set _ _).set _ _).set _ _).set _ _).set _ _).set _ _).1.mono (by omega))⟩
      · by_cases c3 : (s.size : Int) < fr
        · have HV := Lib.hid hv
          clear hv hno
          have t1 : decide ((120 : Int) < s.size) = false := by simpa using c1
          have t2 : decide (fr < 0) = false := by simpa using c2
          have t3 : decide ((s.size : Int) < fr) = true := by simpa using c3
          go_enter Try.func11, Try.ntmps11
          go_wp2_with fail
          have HLA := Lib.hid (((Later.refl w).alloc (Obj.cells #[.int .i64 p.op, .string p.text, .int .i64 p.num, .int .i64 p.lo, .int .i64 p.hi, .slice kA p.kids.length kc] TP)).alloc (Obj.cells zeroM TR))
          refine (validDefinitions_is true defs dA dc p _ _ HS.out HP.out (RowIn.later HLA.out _ _ _ HD.out) (KidsIn.later HLA.out _ _ HIN.out) hdl HV.out).mono ?_
          rintro e w2 ⟨rfl, hb2⟩
          have HR2 := Lib.hid (Later.has hb2 (heap_alloc_new _ _))
          simp only [World.size_alloc] at HR2
          have HL2 := Lib.hid (HLA.out.trans hb2)
          clear hb2 HLA
          obtain ⟨r0, r1, r2, r3, r4, r5, r6, r7⟩ := cells_r HR2.out
          obtain ⟨f0, f1, f2, f3, f4, f5, f6, f7⟩ := frozen_r HR2.out
          go_wp2_with fail
          refine bodyPost_ret (v := matchV .none 0 (.slice none 0 0) (.slice none 0 0)) (by simp [results, Try.results11, go_sem, r0, r1, r2, r3, r4, r5, r6, r7, Res.none]) rfl ?_
          exact ⟨_, _, rfl, HasRow.nil _ _ _ _, HasRow.nil _ _ _ _, .inl rfl, Below.trans HL2.out ((((((((((OnlyAt.refl _ _).set _ _).set _ _).set _ _).set _ _).set _ _).set _ _).set _ _).set _ _).1.mono (by omega))⟩
        · by_cases c4 : fuel < 0
          · have HV := Lib.hid hv
            clear hv hno
            have t1 : decide ((120 : Int) < s.size) = false := by simpa using c1
            have t2 : decide (fr < 0) = false := by simpa using c2
            have t3 : decide ((s.size : Int) < fr) = false := by simpa using c3
            have t4 : decide (fuel < 0) = true := by simpa using c4
            go_enter Try.func11, Try.ntmps11
            go_wp2_with fail
            have HLA := Lib.hid (((Later.refl w).alloc (Obj.cells #[.int .i64 p.op, .string p.text, .int .i64 p.num, .int .i64 p.lo, .int .i64 p.hi, .slice kA p.kids.length kc] TP)).alloc (Obj.cells zeroM TR))
            refine (validDefinitions_is true defs dA dc p _ _ HS.out HP.out (RowIn.later HLA.out _ _ _ HD.out) (KidsIn.later HLA.out _ _ HIN.out) hdl HV.out).mono ?_
            rintro e w2 ⟨rfl, hb2⟩
            have HR2 := Lib.hid (Later.has hb2 (heap_alloc_new _ _))
            simp only [World.size_alloc] at HR2
            have HL2 := Lib.hid (HLA.out.trans hb2)
            clear hb2 HLA
            obtain ⟨r0, r1, r2, r3, r4, r5, r6, r7⟩ := cells_r HR2.out
            obtain ⟨f0, f1, f2, f3, f4, f5, f6, f7⟩ := frozen_r HR2.out
            go_wp2_with fail
            refine bodyPost_ret (v := matchV .none 0 (.slice none 0 0) (.slice none 0 0)) (by simp [results, Try.results11, go_sem, r0, r1, r2, r3, r4, r5, r6, r7, Res.none]) rfl ?_
            exact ⟨_, _, rfl, HasRow.nil _ _ _ _, HasRow.nil _ _ _ _, .inl rfl, Below.trans HL2.out ((((((((((OnlyAt.refl _ _).set _ _).set _ _).set _ _).set _ _).set _ _).set _ _).set _ _).set _ _).1.mono (by omega))⟩
          · by_cases c5 : (4000 : Int) < fuel
            · have HV := Lib.hid hv
              clear hv hno
              have t1 : decide ((120 : Int) < s.size) = false := by simpa using c1
              have t2 : decide (fr < 0) = false := by simpa using c2
              have t3 : decide ((s.size : Int) < fr) = false := by simpa using c3
              have t4 : decide (fuel < 0) = false := by simpa using c4
              have t5 : decide ((4000 : Int) < fuel) = true := by simpa using c5
              go_enter Try.func11, Try.ntmps11
              go_wp2_with fail
              have HLA := Lib.hid (((Later.refl w).alloc (Obj.cells #[.int .i64 p.op, .string p.text, .int .i64 p.num, .int .i64 p.lo, .int .i64 p.hi, .slice kA p.kids.length kc] TP)).alloc (Obj.cells zeroM TR))
              refine (validDefinitions_is true defs dA dc p _ _ HS.out HP.out (RowIn.later HLA.out _ _ _ HD.out) (KidsIn.later HLA.out _ _ HIN.out) hdl HV.out).mono ?_
              rintro e w2 ⟨rfl, hb2⟩
              have HR2 := Lib.hid (Later.has hb2 (heap_alloc_new _ _))
              simp only [World.size_alloc] at HR2
              have HL2 := Lib.hid (HLA.out.trans hb2)
              clear hb2 HLA
              obtain ⟨r0, r1, r2, r3, r4, r5, r6, r7⟩ := cells_r HR2.out
              obtain ⟨f0, f1, f2, f3, f4, f5, f6, f7⟩ := frozen_r HR2.out
              go_wp2_with fail
              refine bodyPost_ret (v := matchV .none 0 (.slice none 0 0) (.slice none 0 0)) (by simp [results, Try.results11, go_sem, r0, r1, r2, r3, r4, r5, r6, r7, Res.none]) rfl ?_
              exact ⟨_, _, rfl, HasRow.nil _ _ _ _, HasRow.nil _ _ _ _, .inl rfl, Below.trans HL2.out ((((((((((OnlyAt.refl _ _).set _ _).set _ _).set _ _).set _ _).set _ _).set _ _).set _ _).set _ _).1.mono (by omega))⟩
            · exfalso
              simp [answers, hv] at hno
              omega
    · have c1 : (120 : Int) < s.size := by omega
      have HV := Lib.hid hv
      clear hv hno
      have t1 : decide ((120 : Int) < s.size) = true := by simpa using c1
      go_enter Try.func11, Try.ntmps11
      go_wp2_with fail
      have HLA := Lib.hid (((Later.refl w).alloc (Obj.cells #[.int .i64 p.op, .string p.text, .int .i64 p.num, .int .i64 p.lo, .int .i64 p.hi, .slice kA p.kids.length kc] TP)).alloc (Obj.cells zeroM TR))
      refine (validDefinitions_is true defs dA dc p _ _ HS.out HP.out (RowIn.later HLA.out _ _ _ HD.out) (KidsIn.later HLA.out _ _ HIN.out) hdl HV.out).mono ?_
      rintro e w2 ⟨rfl, hb2⟩
      have HR2 := Lib.hid (Later.has hb2 (heap_alloc_new _ _))
      simp only [World.size_alloc] at HR2
      have HL2 := Lib.hid (HLA.out.trans hb2)
      clear hb2 HLA
      obtain ⟨r0, r1, r2, r3, r4, r5, r6, r7⟩ := cells_r HR2.out
      obtain ⟨f0, f1, f2, f3, f4, f5, f6, f7⟩ := frozen_r HR2.out
      go_wp2_with fail
      refine bodyPost_ret (v := matchV .none 0 (.slice none 0 0) (.slice none 0 0)) (by simp [results, Try.results11, go_sem, r0, r1, r2, r3, r4, r5, r6, r7, Res.none]) rfl ?_
      exact ⟨_, _, rfl, HasRow.nil _ _ _ _, HasRow.nil _ _ _ _, .inl rfl, Below.trans HL2.out ((((((((((OnlyAt.refl _ _).set _ _).set _ _).set _ _).set _ _).set _ _).set _ _).set _ _).set _ _).1.mono (by omega))⟩
  · have hv : validD defs p = false := by simpa using hv
    have HV := Lib.hid hv
    clear hv hno
    go_enter Try.func11, Try.ntmps11
    go_wp2_with fail
    have HLA := Lib.hid (((Later.refl w).alloc (Obj.cells #[.int .i64 p.op, .string p.text, .int .i64 p.num, .int .i64 p.lo, .int .i64 p.hi, .slice kA p.kids.length kc] TP)).alloc (Obj.cells zeroM TR))
    refine (validDefinitions_is false defs dA dc p _ _ HS.out HP.out (RowIn.later HLA.out _ _ _ HD.out) (KidsIn.later HLA.out _ _ HIN.out) hdl HV.out).mono ?_
    rintro e w2 ⟨rfl, hb2⟩
    have HR2 := Lib.hid (Later.has hb2 (heap_alloc_new _ _))
    simp only [World.size_alloc] at HR2
    have HL2 := Lib.hid (HLA.out.trans hb2)
    clear hb2 HLA
    obtain ⟨r0, r1, r2, r3, r4, r5, r6, r7⟩ := cells_r HR2.out
    obtain ⟨f0, f1, f2, f3, f4, f5, f6, f7⟩ := frozen_r HR2.out
    go_wp2_with fail
    refine bodyPost_ret (v := matchV .none 0 (.slice none 0 0) (.slice none 0 0)) (by simp [results, Try.results11, go_sem, r0, r1, r2, r3, r4, r5, r6, r7, Res.none]) rfl ?_
    exact ⟨_, _, rfl, HasRow.nil _ _ _ _, HasRow.nil _ _ _ _, .inl rfl, Below.trans HL2.out ((((((((((OnlyAt.refl _ _).set _ _).set _ _).set _ _).set _ _).set _ _).set _ _).set _ _).set _ _).1.mono (by omega))⟩

set_option maxRecDepth 100000 in
set_option maxHeartbeats 4000000 in
theorem specMatch_no (defs : List Pat) (dA : Option Addr) (dc : Nat) (p : Pat) (kv : Value) (s : ByteArray) (fr fuel : Int) (w : World) (hs : Smalls defs) (hp : Small p) (hd : RowIn w dA 0 defs) (hin : KidsIn w p kv) (hdl : defs.length ≤ 1099511627776) (hsl : s.size ≤ 1099511627776) (hno : answers defs p s fr fuel = false) :
    Calls Try.prog 12 #[.slice dA defs.length dc, p.v kv, .string s, .int .i64 fr, .int .i64 fuel] w (MatchIs w .none 0) := by
  obtain ⟨kA, kc, rfl, _, _⟩ := hin.form
  have HS := Lib.hid hs
  have HP := Lib.hid hp
  have HD := Lib.hid hd
  have HIN := Lib.hid hin
  clear hs hp hd hin
  by_cases hv : validD defs p = true
  · by_cases c1 : s.size ≤ 120
    · have c1 : ¬ ((120 : Int) < s.size) := by omega
      cases hf : (decide (0 ≤ fr) && decide (fr ≤ (s.size : Int))) with
      | false =>
        have HV := Lib.hid hv
        have HF := Lib.hid hf
        clear hv hno hf
        have t1 : decide ((120 : Int) < s.size) = false := by simpa using c1
        go_enter Try.func12, Try.ntmps12
        go_wp2_with fail
        have HLA := Lib.hid (((Later.refl w).alloc (Obj.cells #[.int .i64 p.op, .string p.text, .int .i64 p.num, .int .i64 p.lo, .int .i64 p.hi, .slice kA p.kids.length kc] TP)).alloc (Obj.cells zeroM TR))
        refine (l18Defs_is true defs dA dc p _ _ HS.out HP.out (RowIn.later HLA.out _ _ _ HD.out) (KidsIn.later HLA.out _ _ HIN.out) hdl HV.out).mono ?_
        rintro e w2 ⟨rfl, hb2⟩
        have HR2 := Lib.hid (Later.has hb2 (heap_alloc_new _ _))
        simp only [World.size_alloc] at HR2
        have HL2 := Lib.hid (HLA.out.trans hb2)
        clear hb2 HLA
        go_wp2_with fail
        refine (l1In_is false _ _ _ _ HF.out).mono ?_
        rintro e w3 ⟨rfl, rfl⟩
        obtain ⟨r0, r1, r2, r3, r4, r5, r6, r7⟩ := cells_r HR2.out
        obtain ⟨f0, f1, f2, f3, f4, f5, f6, f7⟩ := frozen_r HR2.out
        go_wp2_with fail
        refine bodyPost_ret (v := matchV .none 0 (.slice none 0 0) (.slice none 0 0)) (by simp [results, Try.results12, go_sem, r0, r1, r2, r3, r4, r5, r6, r7, Res.none]) rfl ?_
        exact ⟨_, _, rfl, HasRow.nil _ _ _ _, HasRow.nil _ _ _ _, .inl rfl, Below.trans HL2.out ((((((((((OnlyAt.refl _ _).set _ _).set _ _).set _ _).set _ _).set _ _).set _ _).set _ _).set _ _).1.mono (by omega))⟩
      | true =>
        cases hu : (decide (0 ≤ fuel) && decide (fuel ≤ (4000 : Int))) with
        | false =>
          have HV := Lib.hid hv
          have HF := Lib.hid hf
          have HU := Lib.hid hu
          clear hv hno hf hu
          have t1 : decide ((120 : Int) < s.size) = false := by simpa using c1
          go_enter Try.func12, Try.ntmps12
          go_wp2_with fail
          have HLA := Lib.hid (((Later.refl w).alloc (Obj.cells #[.int .i64 p.op, .string p.text, .int .i64 p.num, .int .i64 p.lo, .int .i64 p.hi, .slice kA p.kids.length kc] TP)).alloc (Obj.cells zeroM TR))
          refine (l18Defs_is true defs dA dc p _ _ HS.out HP.out (RowIn.later HLA.out _ _ _ HD.out) (KidsIn.later HLA.out _ _ HIN.out) hdl HV.out).mono ?_
          rintro e w2 ⟨rfl, hb2⟩
          have HR2 := Lib.hid (Later.has hb2 (heap_alloc_new _ _))
          simp only [World.size_alloc] at HR2
          have HL2 := Lib.hid (HLA.out.trans hb2)
          clear hb2 HLA
          go_wp2_with fail
          refine (l1In_is true _ _ _ _ HF.out).mono ?_
          rintro e w3 ⟨rfl, rfl⟩
          go_wp2_with fail
          refine (l1In_is false _ _ _ _ HU.out).mono ?_
          rintro e w3 ⟨rfl, rfl⟩
          obtain ⟨r0, r1, r2, r3, r4, r5, r6, r7⟩ := cells_r HR2.out
          obtain ⟨f0, f1, f2, f3, f4, f5, f6, f7⟩ := frozen_r HR2.out
          go_wp2_with fail
          refine bodyPost_ret (v := matchV .none 0 (.slice none 0 0) (.slice none 0 0)) (by simp [results, Try.results12, go_sem, r0, r1, r2, r3, r4, r5, r6, r7, Res.none]) rfl ?_
          exact ⟨_, _, rfl, HasRow.nil _ _ _ _, HasRow.nil _ _ _ _, .inl rfl, Below.trans HL2.out ((((((((((OnlyAt.refl _ _).set _ _).set _ _).set _ _).set _ _).set _ _).set _ _).set _ _).set _ _).1.mono (by omega))⟩
        | true =>
          exfalso
          simp only [Bool.and_eq_true, decide_eq_true_eq] at hf hu
          simp [answers, hv] at hno
          omega
    · have c1 : (120 : Int) < s.size := by omega
      have HV := Lib.hid hv
      clear hv hno
      have t1 : decide ((120 : Int) < s.size) = true := by simpa using c1
      go_enter Try.func12, Try.ntmps12
      go_wp2_with fail
      have HLA := Lib.hid (((Later.refl w).alloc (Obj.cells #[.int .i64 p.op, .string p.text, .int .i64 p.num, .int .i64 p.lo, .int .i64 p.hi, .slice kA p.kids.length kc] TP)).alloc (Obj.cells zeroM TR))
      refine (l18Defs_is true defs dA dc p _ _ HS.out HP.out (RowIn.later HLA.out _ _ _ HD.out) (KidsIn.later HLA.out _ _ HIN.out) hdl HV.out).mono ?_
      rintro e w2 ⟨rfl, hb2⟩
      have HR2 := Lib.hid (Later.has hb2 (heap_alloc_new _ _))
      simp only [World.size_alloc] at HR2
      have HL2 := Lib.hid (HLA.out.trans hb2)
      clear hb2 HLA
      obtain ⟨r0, r1, r2, r3, r4, r5, r6, r7⟩ := cells_r HR2.out
      obtain ⟨f0, f1, f2, f3, f4, f5, f6, f7⟩ := frozen_r HR2.out
      go_wp2_with fail
      refine bodyPost_ret (v := matchV .none 0 (.slice none 0 0) (.slice none 0 0)) (by simp [results, Try.results12, go_sem, r0, r1, r2, r3, r4, r5, r6, r7, Res.none]) rfl ?_
      exact ⟨_, _, rfl, HasRow.nil _ _ _ _, HasRow.nil _ _ _ _, .inl rfl, Below.trans HL2.out ((((((((((OnlyAt.refl _ _).set _ _).set _ _).set _ _).set _ _).set _ _).set _ _).set _ _).set _ _).1.mono (by omega))⟩
  · have hv : validD defs p = false := by simpa using hv
    have HV := Lib.hid hv
    clear hv hno
    go_enter Try.func12, Try.ntmps12
    go_wp2_with fail
    have HLA := Lib.hid (((Later.refl w).alloc (Obj.cells #[.int .i64 p.op, .string p.text, .int .i64 p.num, .int .i64 p.lo, .int .i64 p.hi, .slice kA p.kids.length kc] TP)).alloc (Obj.cells zeroM TR))
    refine (l18Defs_is false defs dA dc p _ _ HS.out HP.out (RowIn.later HLA.out _ _ _ HD.out) (KidsIn.later HLA.out _ _ HIN.out) hdl HV.out).mono ?_
    rintro e w2 ⟨rfl, hb2⟩
    have HR2 := Lib.hid (Later.has hb2 (heap_alloc_new _ _))
    simp only [World.size_alloc] at HR2
    have HL2 := Lib.hid (HLA.out.trans hb2)
    clear hb2 HLA
    obtain ⟨r0, r1, r2, r3, r4, r5, r6, r7⟩ := cells_r HR2.out
    obtain ⟨f0, f1, f2, f3, f4, f5, f6, f7⟩ := frozen_r HR2.out
    go_wp2_with fail
    refine bodyPost_ret (v := matchV .none 0 (.slice none 0 0) (.slice none 0 0)) (by simp [results, Try.results12, go_sem, r0, r1, r2, r3, r4, r5, r6, r7, Res.none]) rfl ?_
    exact ⟨_, _, rfl, HasRow.nil _ _ _ _, HasRow.nil _ _ _ _, .inl rfl, Below.trans HL2.out ((((((((((OnlyAt.refl _ _).set _ _).set _ _).set _ _).set _ _).set _ _).set _ _).set _ _).set _ _).1.mono (by omega))⟩

set_option maxRecDepth 100000 in
set_option maxHeartbeats 4000000 in
theorem specMatch_play (defs : List Pat) (dA : Option Addr) (dc : Nat) (p : Pat) (kv : Value) (s : ByteArray) (fr fuel : Nat) (w : World) (hs : Smalls defs) (hp : Small p) (hd : RowIn w dA 0 defs) (hin : KidsIn w p kv) (hvd : validD defs p = true)
    (hss : s.size ≤ 120) (hfr : fr ≤ s.size) (hfu : fuel ≤ 4000) :
    Calls Try.prog 12 #[.slice dA defs.length dc, p.v kv, .string s, .int .i64 fr, .int .i64 fuel] w (MatchIs w (play defs s fuel 0 [⟨0, p, 0⟩] (.start fr)) (matchFrom (play defs s fuel 0 [⟨0, p, 0⟩] (.start fr)) fr)) := by
  obtain ⟨kA, kc, rfl, _, _⟩ := hin.form
  have hlen : defs.length ≤ 24 := (validD_defs hvd hs).1.len
  have HS := Lib.hid hs
  have HP := Lib.hid hp
  have HD := Lib.hid hd
  have HIN := Lib.hid hin
  clear hs hp hd hin
  have HV := Lib.hid hvd
  obtain ⟨R, hR⟩ : ∃ R, play defs s fuel 0 [⟨0, p, 0⟩] (.start fr) = R := ⟨_, rfl⟩
  rw [hR]
  have HRES := Lib.hid hR
  clear hR
  have t1 : decide ((120 : Int) < s.size) = false := by simp; omega
  have HF : Hid ((decide (0 ≤ (fr : Int)) && decide ((fr : Int) ≤ (s.size : Int))) = true) := Lib.hid (by simp; omega)
  have HU : Hid ((decide (0 ≤ (fuel : Int)) && decide ((fuel : Int) ≤ (4000 : Int))) = true) := Lib.hid (by simp; omega)
  clear hvd
  go_enter Try.func12, Try.ntmps12
  go_wp2_with fail
  have HLA := Lib.hid (((Later.refl w).alloc (Obj.cells #[.int .i64 p.op, .string p.text, .int .i64 p.num, .int .i64 p.lo, .int .i64 p.hi, .slice kA p.kids.length kc] TP)).alloc (Obj.cells zeroM TR))
  refine (l18Defs_is true defs dA dc p _ _ HS.out HP.out (RowIn.later HLA.out _ _ _ HD.out) (KidsIn.later HLA.out _ _ HIN.out) (by omega) HV.out).mono ?_
  rintro e w2 ⟨rfl, hb2⟩
  have HR2 := Lib.hid (Later.has hb2 (heap_alloc_new _ _))
  have HP2 := Lib.hid (Later.has hb2 (((Later.refl _).alloc _).has (heap_alloc_new w _)))
  simp only [World.size_alloc] at HR2
  have HL2 := Lib.hid (HLA.out.trans hb2)
  clear hb2 HLA
  obtain ⟨p0, p1, p2, p3, p4, p5⟩ := cells_p HP2.out
  go_wp2_with fail
  refine (l1In_is true _ _ _ _ HF.out).mono ?_
  rintro e w3 ⟨rfl, rfl⟩
  go_wp2_with fail
  refine (l1In_is true _ _ _ _ HU.out).mono ?_
  rintro e w3 ⟨rfl, rfl⟩
  go_wp2_with fail
  refine (l20Match_play defs dA dc p _ s fr fuel _ HS.out HP.out (RowIn.later HL2.out _ _ _ HD.out) (KidsIn.later HL2.out _ _ HIN.out) HV.out hss hfr hfu).mono ?_
  rw [HRES.out]
  rintro e w4 ⟨cv, ev, rfl, h1, h2, h3, h4⟩
  obtain ⟨cA, cc, rfl, _, _⟩ := h1.form
  obtain ⟨eA, ec, rfl, _, _⟩ := h2.form
  have H1 := Lib.hid h1
  have H2 := Lib.hid h2
  have H3 := Lib.hid h3
  have H4 := Lib.hid h4
  have HR4 := Lib.hid (Later.has h4 HR2.out)
  clear h1 h2 h3 h4 p0 p1 p2 p3 p4 p5
  obtain ⟨r0, r1, r2, r3, r4, r5, r6, r7⟩ := cells_r HR4.out
  obtain ⟨f0, f1, f2, f3, f4, f5, f6, f7⟩ := frozen_r HR4.out
  go_wp2_with fail
  refine bodyPost_ret (v := matchV R (matchFrom R fr) (.slice cA R.caps.length cc) (.slice eA R.events.length ec)) (by simp [results, Try.results12, go_sem, r0, r1, r2, r3, r4, r5, r6, r7]) rfl ?_
  exact matchIs_mk HL2.out H1.out H2.out H3.out H4.out HR4.out (by omega) (((((((((OnlyAt.refl _ _).set _ _).set _ _).set _ _).set _ _).set _ _).set _ _).set _ _).set _ _)

end Go.Proofs.Ytndefbecoahfhaa

/- MatchPattern of both sides at every argument: one answer. -/
namespace Go.Proofs.Ytndefbecoahfhaa
open Go.RowKit

theorem answers_parts {defs : List Pat} {p : Pat} {s : ByteArray} {fr fuel : Int} (h : answers defs p s fr fuel = true) : validD defs p = true ∧ s.size ≤ 120 ∧ 0 ≤ fr ∧ fr ≤ s.size ∧ 0 ≤ fuel ∧ fuel ≤ 4000 := by
  simp only [answers, Bool.and_eq_true, decide_eq_true_eq] at h
  exact ⟨h.1.1.1.1.1, h.1.1.1.1.2, h.1.1.1.2, h.1.1.2, h.1.2, h.2⟩

section
variable (defs : List Pat) (dA : Option Addr) (dc : Nat) (p : Pat) (kv : Value) (s : ByteArray) (fr fuel : Int) (w : World) (hs : Smalls defs) (hp : Small p) (hd : RowIn w dA 0 defs) (hin : KidsIn w p kv) (hdl : defs.length ≤ 1099511627776) (hsl : s.size ≤ 1099511627776)
include hs hp hd hin hdl hsl
theorem implMatch_any : Calls Try.prog 11 #[.slice dA defs.length dc, p.v kv, .string s, .int .i64 fr, .int .i64 fuel] w (MatchIs w (matchRes defs p s fr fuel) (matchFrom (matchRes defs p s fr fuel) fr)) := by
  cases ha : answers defs p s fr fuel with
  | false =>
    rw [show matchRes defs p s fr fuel = .none by simp [matchRes, ha]]
    exact implMatch_no defs dA dc p kv s fr fuel w hs hp hd hin hdl hsl ha
  | true =>
    obtain ⟨h1, h2, h3, h4, h5, h6⟩ := answers_parts ha
    rw [show matchRes defs p s fr fuel = play defs s fuel.toNat 0 [⟨0, p, 0⟩] (.start fr.toNat) by simp [matchRes, ha]]
    have := matchPattern_play defs dA dc p kv s fr.toNat fuel.toNat w hs hp hd hin h1 h2 (by omega) (by omega)
    rw [Int.toNat_of_nonneg h3, Int.toNat_of_nonneg h5] at this
    exact this
theorem specMatch_any : Calls Try.prog 12 #[.slice dA defs.length dc, p.v kv, .string s, .int .i64 fr, .int .i64 fuel] w (MatchIs w (matchRes defs p s fr fuel) (matchFrom (matchRes defs p s fr fuel) fr)) := by
  cases ha : answers defs p s fr fuel with
  | false =>
    rw [show matchRes defs p s fr fuel = .none by simp [matchRes, ha]]
    exact specMatch_no defs dA dc p kv s fr fuel w hs hp hd hin hdl hsl ha
  | true =>
    obtain ⟨h1, h2, h3, h4, h5, h6⟩ := answers_parts ha
    rw [show matchRes defs p s fr fuel = play defs s fuel.toNat 0 [⟨0, p, 0⟩] (.start fr.toNat) by simp [matchRes, ha]]
    have := specMatch_play defs dA dc p kv s fr.toNat fuel.toNat w hs hp hd hin h1 h2 (by omega) (by omega)
    rw [Int.toNat_of_nonneg h3, Int.toNat_of_nonneg h5] at this
    exact this
end
end Go.Proofs.Ytndefbecoahfhaa
