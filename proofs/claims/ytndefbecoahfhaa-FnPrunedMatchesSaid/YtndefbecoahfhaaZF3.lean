/- Both pruned searches answer as one plain function. -/
import Derived.Test.YtndefbecoahfhaaZF2
import Derived.Test.YtndefbecoahfhaaZD1

/- PrunedSearch of impl at every argument. Printed by gen_prsrchi.py. -/
namespace Go.Proofs.Ytndefbecoahfhaa
open Go.RowKit

def inLimits (s : ByteArray) (fuel : Int) : Bool := decide (s.size ≤ 120) && decide (0 ≤ fuel) && decide (fuel ≤ 4000)
/-- What PrunedSearch answers. -/
def prunedRes (defs : List Pat) (p : Pat) (s : ByteArray) (fuel : Int) : Res × Int :=
  if mayStop defs p then searchRes defs p s fuel else if inLimits s fuel then srch defs p s fuel.toNat (takeAt s (least p) (first p)) (s.size + 1) 0 .none 0 else (.none, 0)
theorem mayStop_false {defs : List Pat} {p : Pat} (h : mayStop defs p = false) : validD defs p = true := by
  cases hv : validD defs p with
  | true => rfl
  | false => rw [mayStop_invalid hv] at h; cases h

set_option maxRecDepth 100000 in
set_option maxHeartbeats 4000000 in
theorem implPruned_stop (defs : List Pat) (dA : Option Addr) (dc : Nat) (p : Pat) (kv : Value) (s : ByteArray) (fuel : Int) (w : World) (hs : Smalls defs) (hp : Small p) (hd : RowIn w dA 0 defs) (hin : KidsIn w p kv) (hdl : defs.length ≤ 1099511627776) (hsl : s.size ≤ 1099511627776) (hm : mayStop defs p = true) :
    Calls Try.prog 28 #[.slice dA defs.length dc, p.v kv, .string s, .int .i64 fuel] w (MatchIs w (searchRes defs p s fuel).1 (searchRes defs p s fuel).2) := by
  obtain ⟨kA, kc, rfl, _, _⟩ := hin.form
  have HS := Lib.hid hs
  have HP := Lib.hid hp
  have HD := Lib.hid hd
  have HIN := Lib.hid hin
  clear hs hp hd hin
  have HM := Lib.hid hm
  clear hm
  obtain ⟨⟨R, FR⟩, hR⟩ : ∃ R, searchRes defs p s fuel = R := ⟨_, rfl⟩
  rw [hR]
  have HRR := Lib.hid hR
  clear hR
  show Calls Try.prog 28 #[.slice dA defs.length dc, p.v (.slice kA p.kids.length kc), .string s, .int .i64 fuel] w (MatchIs w R FR)
  go_enter Try.func28, Try.ntmps28
  go_wp2_with fail
  have HLA := Lib.hid ((((Later.refl w).alloc (Obj.cells #[.int .i64 p.op, .string p.text, .int .i64 p.num, .int .i64 p.lo, .int .i64 p.hi, .slice kA p.kids.length kc] TP)).alloc (Obj.cells #[.string s] 9)).alloc (Obj.cells zeroM TR))
  have HPA := Lib.hid (Later.has (((Later.refl (w.alloc (Obj.cells #[.int .i64 p.op, .string p.text, .int .i64 p.num, .int .i64 p.lo, .int .i64 p.hi, .slice kA p.kids.length kc] TP))).alloc (Obj.cells #[.string s] 9)).alloc (Obj.cells zeroM TR)) (heap_alloc_new w (Obj.cells #[.int .i64 p.op, .string p.text, .int .i64 p.num, .int .i64 p.lo, .int .i64 p.hi, .slice kA p.kids.length kc] TP)))
  have HSA := Lib.hid (Later.has ((Later.refl ((w.alloc (Obj.cells #[.int .i64 p.op, .string p.text, .int .i64 p.num, .int .i64 p.lo, .int .i64 p.hi, .slice kA p.kids.length kc] TP)).alloc (Obj.cells #[.string s] 9))).alloc (Obj.cells zeroM TR)) (heap_alloc_two w (Obj.cells #[.int .i64 p.op, .string p.text, .int .i64 p.num, .int .i64 p.lo, .int .i64 p.hi, .slice kA p.kids.length kc] TP) (Obj.cells #[.string s] 9)))
  have HRA := Lib.hid (heap_alloc_two (w.alloc (Obj.cells #[.int .i64 p.op, .string p.text, .int .i64 p.num, .int .i64 p.lo, .int .i64 p.hi, .slice kA p.kids.length kc] TP)) (Obj.cells #[.string s] 9) (Obj.cells zeroM TR))
  simp only [World.size_alloc] at HRA
  refine (implMay_is true defs dA dc p _ _ HS.out HP.out (RowIn.later HLA.out _ _ _ HD.out) (KidsIn.later HLA.out _ _ HIN.out) hdl HM.out).mono ?_
  rintro e w2 ⟨rfl, hb2⟩
  have HP2 := Lib.hid (Later.has hb2 HPA.out)
  have HS2 := Lib.hid (Later.has hb2 HSA.out)
  have HR2 := Lib.hid (Later.has hb2 HRA.out)
  have HL2 := Lib.hid (HLA.out.trans hb2)
  clear hb2 HLA HPA HSA HRA
  obtain ⟨p0, p1, p2, p3, p4, p5⟩ := cells_p HP2.out
  have s0 := cells_1 HS2.out
  go_wp2_with fail
  clear p0 p1 p2 p3 p4 p5 s0
  refine (implSearch_any defs dA dc p _ s fuel _ HS.out HP.out (RowIn.later HL2.out _ _ _ HD.out) (KidsIn.later HL2.out _ _ HIN.out) hdl hsl).mono ?_
  rw [HRR.out]
  rintro e w9 ⟨cv, ev, rfl, h1, h2, h3, h4⟩
  dsimp only at h1 h2
  obtain ⟨cA, cc, rfl, _, _⟩ := h1.form
  obtain ⟨eA, ec, rfl, _, _⟩ := h2.form
  have H1 := Lib.hid h1
  have H2 := Lib.hid h2
  have H3 := Lib.hid h3
  have H4 := Lib.hid h4
  have HR9 := Lib.hid (Later.has h4 HR2.out)
  clear h1 h2 h3 h4
  obtain ⟨r0, r1, r2, r3, r4, r5, r6, r7⟩ := cells_r HR9.out
  obtain ⟨f0, f1, f2, f3, f4, f5, f6, f7⟩ := frozen_r HR9.out
  go_wp2_with fail
  refine bodyPost_ret (v := matchV R FR (.slice cA (R).caps.length cc) (.slice eA (R).events.length ec)) (by simp [results, Try.results28, go_sem, r0, r1, r2, r3, r4, r5, r6, r7]) rfl ?_
  exact matchIs_mk HL2.out H1.out H2.out H3.out H4.out HR9.out (by omega) (((((((((OnlyAt.refl _ _).set _ _).set _ _).set _ _).set _ _).set _ _).set _ _).set _ _).set _ _)

set_option maxRecDepth 100000 in
set_option maxHeartbeats 4000000 in
theorem implPruned_no (defs : List Pat) (dA : Option Addr) (dc : Nat) (p : Pat) (kv : Value) (s : ByteArray) (fuel : Int) (w : World) (hs : Smalls defs) (hp : Small p) (hd : RowIn w dA 0 defs) (hin : KidsIn w p kv) (hdl : defs.length ≤ 1099511627776) (hsl : s.size ≤ 1099511627776) (hm : mayStop defs p = false) (hno : inLimits s fuel = false) :
    Calls Try.prog 28 #[.slice dA defs.length dc, p.v kv, .string s, .int .i64 fuel] w (MatchIs w .none 0) := by
  obtain ⟨kA, kc, rfl, _, _⟩ := hin.form
  have HS := Lib.hid hs
  have HP := Lib.hid hp
  have HD := Lib.hid hd
  have HIN := Lib.hid hin
  clear hs hp hd hin
  have HM := Lib.hid hm
  clear hm
  by_cases c1 : (120 : Int) < s.size
  · clear hno
    have t1 : decide ((120 : Int) < s.size) = true := by simpa using c1
    go_enter Try.func28, Try.ntmps28
    go_wp2_with fail
    have HLA := Lib.hid ((((Later.refl w).alloc (Obj.cells #[.int .i64 p.op, .string p.text, .int .i64 p.num, .int .i64 p.lo, .int .i64 p.hi, .slice kA p.kids.length kc] TP)).alloc (Obj.cells #[.string s] 9)).alloc (Obj.cells zeroM TR))
    have HPA := Lib.hid (Later.has (((Later.refl (w.alloc (Obj.cells #[.int .i64 p.op, .string p.text, .int .i64 p.num, .int .i64 p.lo, .int .i64 p.hi, .slice kA p.kids.length kc] TP))).alloc (Obj.cells #[.string s] 9)).alloc (Obj.cells zeroM TR)) (heap_alloc_new w (Obj.cells #[.int .i64 p.op, .string p.text, .int .i64 p.num, .int .i64 p.lo, .int .i64 p.hi, .slice kA p.kids.length kc] TP)))
    have HSA := Lib.hid (Later.has ((Later.refl ((w.alloc (Obj.cells #[.int .i64 p.op, .string p.text, .int .i64 p.num, .int .i64 p.lo, .int .i64 p.hi, .slice kA p.kids.length kc] TP)).alloc (Obj.cells #[.string s] 9))).alloc (Obj.cells zeroM TR)) (heap_alloc_two w (Obj.cells #[.int .i64 p.op, .string p.text, .int .i64 p.num, .int .i64 p.lo, .int .i64 p.hi, .slice kA p.kids.length kc] TP) (Obj.cells #[.string s] 9)))
    have HRA := Lib.hid (heap_alloc_two (w.alloc (Obj.cells #[.int .i64 p.op, .string p.text, .int .i64 p.num, .int .i64 p.lo, .int .i64 p.hi, .slice kA p.kids.length kc] TP)) (Obj.cells #[.string s] 9) (Obj.cells zeroM TR))
    simp only [World.size_alloc] at HRA
    refine (implMay_is false defs dA dc p _ _ HS.out HP.out (RowIn.later HLA.out _ _ _ HD.out) (KidsIn.later HLA.out _ _ HIN.out) hdl HM.out).mono ?_
    rintro e w2 ⟨rfl, hb2⟩
    have HP2 := Lib.hid (Later.has hb2 HPA.out)
    have HS2 := Lib.hid (Later.has hb2 HSA.out)
    have HR2 := Lib.hid (Later.has hb2 HRA.out)
    have HL2 := Lib.hid (HLA.out.trans hb2)
    clear hb2 HLA HPA HSA HRA
    obtain ⟨p0, p1, p2, p3, p4, p5⟩ := cells_p HP2.out
    have s0 := cells_1 HS2.out
    obtain ⟨r0, r1, r2, r3, r4, r5, r6, r7⟩ := cells_r HR2.out
    obtain ⟨f0, f1, f2, f3, f4, f5, f6, f7⟩ := frozen_r HR2.out
    go_wp2_with fail
    refine bodyPost_ret (v := matchV .none 0 (.slice none 0 0) (.slice none 0 0)) (by simp [results, Try.results28, go_sem, r0, r1, r2, r3, r4, r5, r6, r7, Res.none]) rfl ?_
    exact ⟨_, _, rfl, HasRow.nil _ _ _ _, HasRow.nil _ _ _ _, .inl rfl, Below.trans HL2.out ((((((((((OnlyAt.refl _ _).set _ _).set _ _).set _ _).set _ _).set _ _).set _ _).set _ _).set _ _).1.mono (by omega))⟩
  · by_cases c2 : fuel < 0
    · clear hno
      have t1 : decide ((120 : Int) < s.size) = false := by simpa using c1
      have t2 : decide (fuel < 0) = true := by simpa using c2
      go_enter Try.func28, Try.ntmps28
      go_wp2_with fail
      have HLA := Lib.hid ((((Later.refl w).alloc (Obj.cells #[.int .i64 p.op, .string p.text, .int .i64 p.num, .int .i64 p.lo, .int .i64 p.hi, .slice kA p.kids.length kc] TP)).alloc (Obj.cells #[.string s] 9)).alloc (Obj.cells zeroM TR))
      have HPA := Lib.hid (Later.has (((Later.refl (w.alloc (Obj.cells #[.int .i64 p.op, .string p.text, .int .i64 p.num, .int .i64 p.lo, .int .i64 p.hi, .slice kA p.kids.length kc] TP))).alloc (Obj.cells #[.string s] 9)).alloc (Obj.cells zeroM TR)) (heap_alloc_new w (Obj.cells #[.int .i64 p.op, .string p.text, .int .i64 p.num, .int .i64 p.lo, .int .i64 p.hi, .slice kA p.kids.length kc] TP)))
      have HSA := Lib.hid (Later.has ((Later.refl ((w.alloc (Obj.cells #[.int .i64 p.op, .string p.text, .int .i64 p.num, .int .i64 p.lo, .int .i64 p.hi, .slice kA p.kids.length kc] TP)).alloc (Obj.cells #[.string s] 9))).alloc (Obj.cells zeroM TR)) (heap_alloc_two w (Obj.cells #[.int .i64 p.op, .string p.text, .int .i64 p.num, .int .i64 p.lo, .int .i64 p.hi, .slice kA p.kids.length kc] TP) (Obj.cells #[.string s] 9)))
      have HRA := Lib.hid (heap_alloc_two (w.alloc (Obj.cells #[.int .i64 p.op, .string p.text, .int .i64 p.num, .int .i64 p.lo, .int .i64 p.hi, .slice kA p.kids.length kc] TP)) (Obj.cells #[.string s] 9) (Obj.cells zeroM TR))
      simp only [World.size_alloc] at HRA
      refine (implMay_is false defs dA dc p _ _ HS.out HP.out (RowIn.later HLA.out _ _ _ HD.out) (KidsIn.later HLA.out _ _ HIN.out) hdl HM.out).mono ?_
      rintro e w2 ⟨rfl, hb2⟩
      have HP2 := Lib.hid (Later.has hb2 HPA.out)
      have HS2 := Lib.hid (Later.has hb2 HSA.out)
      have HR2 := Lib.hid (Later.has hb2 HRA.out)
      have HL2 := Lib.hid (HLA.out.trans hb2)
      clear hb2 HLA HPA HSA HRA
      obtain ⟨p0, p1, p2, p3, p4, p5⟩ := cells_p HP2.out
      have s0 := cells_1 HS2.out
      obtain ⟨r0, r1, r2, r3, r4, r5, r6, r7⟩ := cells_r HR2.out
      obtain ⟨f0, f1, f2, f3, f4, f5, f6, f7⟩ := frozen_r HR2.out
      go_wp2_with fail
      refine bodyPost_ret (v := matchV .none 0 (.slice none 0 0) (.slice none 0 0)) (by simp [results, Try.results28, go_sem, r0, r1, r2, r3, r4, r5, r6, r7, Res.none]) rfl ?_
      exact ⟨_, _, rfl, HasRow.nil _ _ _ _, HasRow.nil _ _ _ _, .inl rfl, Below.trans HL2.out ((((((((((OnlyAt.refl _ _).set _ _).set _ _).set _ _).set _ _).set _ _).set _ _).set _ _).set _ _).1.mono (by omega))⟩
    · by_cases c3 : (4000 : Int) < fuel
      · clear hno
        have t1 : decide ((120 : Int) < s.size) = false := by simpa using c1
        have t2 : decide (fuel < 0) = false := by simpa using c2
        have t3 : decide ((4000 : Int) < fuel) = true := by simpa using c3
        go_enter Try.func28, Try.ntmps28
        go_wp2_with fail
        have HLA := Lib.hid ((((Later.refl w).alloc (Obj.cells #[.int .i64 p.op, .string p.text, .int .i64 p.num, .int .i64 p.lo, .int .i64 p.hi, .slice kA p.kids.length kc] TP)).alloc (Obj.cells #[.string s] 9)).alloc (Obj.cells zeroM TR))
        have HPA := Lib.hid (Later.has (((Later.refl (w.alloc (Obj.cells #[.int .i64 p.op, .string p.text, .int .i64 p.num, .int .i64 p.lo, .int .i64 p.hi, .slice kA p.kids.length kc] TP))).alloc (Obj.cells #[.string s] 9)).alloc (Obj.cells zeroM TR)) (heap_alloc_new w (Obj.cells #[.int .i64 p.op, .string p.text, .int .i64 p.num, .int .i64 p.lo, .int .i64 p.hi, .slice kA p.kids.length kc] TP)))
        have HSA := Lib.hid (Later.has ((Later.refl ((w.alloc (Obj.cells #[.int .i64 p.op, .string p.text, .int .i64 p.num, .int .i64 p.lo, .int .i64 p.hi, .slice kA p.kids.length kc] TP)).alloc (Obj.cells #[.string s] 9))).alloc (Obj.cells zeroM TR)) (heap_alloc_two w (Obj.cells #[.int .i64 p.op, .string p.text, .int .i64 p.num, .int .i64 p.lo, .int .i64 p.hi, .slice kA p.kids.length kc] TP) (Obj.cells #[.string s] 9)))
        have HRA := Lib.hid (heap_alloc_two (w.alloc (Obj.cells #[.int .i64 p.op, .string p.text, .int .i64 p.num, .int .i64 p.lo, .int .i64 p.hi, .slice kA p.kids.length kc] TP)) (Obj.cells #[.string s] 9) (Obj.cells zeroM TR))
        simp only [World.size_alloc] at HRA
        refine (implMay_is false defs dA dc p _ _ HS.out HP.out (RowIn.later HLA.out _ _ _ HD.out) (KidsIn.later HLA.out _ _ HIN.out) hdl HM.out).mono ?_
        rintro e w2 ⟨rfl, hb2⟩
        have HP2 := Lib.hid (Later.has hb2 HPA.out)
        have HS2 := Lib.hid (Later.has hb2 HSA.out)
        have HR2 := Lib.hid (Later.has hb2 HRA.out)
        have HL2 := Lib.hid (HLA.out.trans hb2)
        clear hb2 HLA HPA HSA HRA
        obtain ⟨p0, p1, p2, p3, p4, p5⟩ := cells_p HP2.out
        have s0 := cells_1 HS2.out
        obtain ⟨r0, r1, r2, r3, r4, r5, r6, r7⟩ := cells_r HR2.out
        obtain ⟨f0, f1, f2, f3, f4, f5, f6, f7⟩ := frozen_r HR2.out
        go_wp2_with fail
        refine bodyPost_ret (v := matchV .none 0 (.slice none 0 0) (.slice none 0 0)) (by simp [results, Try.results28, go_sem, r0, r1, r2, r3, r4, r5, r6, r7, Res.none]) rfl ?_
        exact ⟨_, _, rfl, HasRow.nil _ _ _ _, HasRow.nil _ _ _ _, .inl rfl, Below.trans HL2.out ((((((((((OnlyAt.refl _ _).set _ _).set _ _).set _ _).set _ _).set _ _).set _ _).set _ _).set _ _).1.mono (by omega))⟩
      · exfalso
        simp [inLimits] at hno
        omega

set_option maxRecDepth 100000 in
set_option maxHeartbeats 4000000 in
theorem implPruned_play (defs : List Pat) (dA : Option Addr) (dc : Nat) (p : Pat) (kv : Value) (s : ByteArray) (fuel : Nat) (w : World) (hs : Smalls defs) (hp : Small p) (hd : RowIn w dA 0 defs) (hin : KidsIn w p kv) (hm : mayStop defs p = false)
    (hss : s.size ≤ 120) (hfu : fuel ≤ 4000) (R : Res) (FR : Int) (hR : srch defs p s fuel (takeAt s (least p) (first p)) (s.size + 1) 0 .none 0 = (R, FR)) :
    Calls Try.prog 28 #[.slice dA defs.length dc, p.v kv, .string s, .int .i64 fuel] w (MatchIs w R FR) := by
  obtain ⟨kA, kc, rfl, _, _⟩ := hin.form
  have hvd := mayStop_false hm
  have hlen : defs.length ≤ 24 := (validD_defs hvd hs).1.len
  have hdl : defs.length ≤ 1099511627776 := by omega
  have hpv := (validD_defs hvd hs).2
  have b0 := least_nonneg p hpv
  have b1 := least_le p
  have HPV := Lib.hid hpv
  have HS := Lib.hid hs
  have HP := Lib.hid hp
  have HD := Lib.hid hd
  have HIN := Lib.hid hin
  clear hs hp hd hin
  have HM := Lib.hid hm
  have HV := Lib.hid hvd
  obtain ⟨L, hL⟩ : ∃ L, least p = L := ⟨_, rfl⟩
  obtain ⟨⟨flo, fhi, fop⟩, hf⟩ : ∃ f, first p = f := ⟨_, rfl⟩
  rw [hL] at b0 b1 hR
  rw [hf] at hR
  have HLE := Lib.hid hL
  have HFE := Lib.hid hf
  have HRES := Lib.hid hR
  clear hR hm hvd hL hf hpv
  have t1 : decide ((120 : Int) < s.size) = false := by simp; omega
  have t2 : decide ((fuel : Int) < 0) = false := by simp
  have t3 : decide ((4000 : Int) < fuel) = false := by simp; omega
  go_enter Try.func28, Try.ntmps28
  go_wp2_with fail
  have HLA := Lib.hid ((((Later.refl w).alloc (Obj.cells #[.int .i64 p.op, .string p.text, .int .i64 p.num, .int .i64 p.lo, .int .i64 p.hi, .slice kA p.kids.length kc] TP)).alloc (Obj.cells #[.string s] 9)).alloc (Obj.cells zeroM TR))
  have HPA := Lib.hid (Later.has (((Later.refl (w.alloc (Obj.cells #[.int .i64 p.op, .string p.text, .int .i64 p.num, .int .i64 p.lo, .int .i64 p.hi, .slice kA p.kids.length kc] TP))).alloc (Obj.cells #[.string s] 9)).alloc (Obj.cells zeroM TR)) (heap_alloc_new w (Obj.cells #[.int .i64 p.op, .string p.text, .int .i64 p.num, .int .i64 p.lo, .int .i64 p.hi, .slice kA p.kids.length kc] TP)))
  have HSA := Lib.hid (Later.has ((Later.refl ((w.alloc (Obj.cells #[.int .i64 p.op, .string p.text, .int .i64 p.num, .int .i64 p.lo, .int .i64 p.hi, .slice kA p.kids.length kc] TP)).alloc (Obj.cells #[.string s] 9))).alloc (Obj.cells zeroM TR)) (heap_alloc_two w (Obj.cells #[.int .i64 p.op, .string p.text, .int .i64 p.num, .int .i64 p.lo, .int .i64 p.hi, .slice kA p.kids.length kc] TP) (Obj.cells #[.string s] 9)))
  have HRA := Lib.hid (heap_alloc_two (w.alloc (Obj.cells #[.int .i64 p.op, .string p.text, .int .i64 p.num, .int .i64 p.lo, .int .i64 p.hi, .slice kA p.kids.length kc] TP)) (Obj.cells #[.string s] 9) (Obj.cells zeroM TR))
  simp only [World.size_alloc] at HRA
  refine (implMay_is false defs dA dc p _ _ HS.out HP.out (RowIn.later HLA.out _ _ _ HD.out) (KidsIn.later HLA.out _ _ HIN.out) hdl HM.out).mono ?_
  rintro e w2 ⟨rfl, hb2⟩
  have HP2 := Lib.hid (Later.has hb2 HPA.out)
  have HS2 := Lib.hid (Later.has hb2 HSA.out)
  have HR2 := Lib.hid (Later.has hb2 HRA.out)
  have HL2 := Lib.hid (HLA.out.trans hb2)
  clear hb2 HLA HPA HSA HRA
  obtain ⟨p0, p1, p2, p3, p4, p5⟩ := cells_p HP2.out
  have s0 := cells_1 HS2.out
  go_wp2_with fail
  clear p0 p1 p2 p3 p4 p5 s0
  refine (leastLength_any defs.length (count p) p _ _ (Nat.le_refl _) HPV.out (KidsIn.later HL2.out _ _ HIN.out)).mono ?_
  rw [HLE.out]
  rintro e w3 ⟨rfl, hb3⟩
  have HP3 := Lib.hid (Later.has hb3 HP2.out)
  have HS3 := Lib.hid (Later.has hb3 HS2.out)
  have HR3 := Lib.hid (Later.has hb3 HR2.out)
  have HL3 := Lib.hid (HL2.out.trans hb3)
  clear hb3 HP2 HS2 HR2
  have HLW := Lib.hid ((Later.refl w3).alloc (Obj.cells #[.int .i64 L] 3))
  have HLC := Lib.hid (heap_alloc_new w3 (Obj.cells #[.int .i64 L] 3))
  have hz3 := has_lt HP3.out
  obtain ⟨p0, p1, p2, p3, p4, p5⟩ := cells_p HP3.out
  go_wp2_with fail
  clear p0 p1 p2 p3 p4 p5
  refine (firstBytes_any defs.length (count p) p _ _ (Nat.le_refl _) HPV.out (KidsIn.later (HL3.out.trans HLW.out) _ _ HIN.out)).mono ?_
  rw [HFE.out]
  rintro e w4 ⟨rfl, hb4⟩
  have HP4 := Lib.hid (Later.has hb4 (Later.has HLW.out HP3.out))
  have HS4 := Lib.hid (Later.has hb4 (Later.has HLW.out HS3.out))
  have HR4 := Lib.hid (Later.has hb4 (Later.has HLW.out HR3.out))
  have HC4 := Lib.hid (Later.has hb4 HLC.out)
  have HL4 := Lib.hid ((HL3.out.trans HLW.out).trans hb4)
  clear hb4 HP3 HS3 HR3 HLW HLC hz3
  have HLW := Lib.hid (((Later.refl w4).alloc (Obj.cells #[.int .i64 flo, .int .i64 fhi] TCs)).alloc (Obj.cells #[.bool fop] 4))
  have HX4 := Lib.hid (Later.has ((Later.refl (w4.alloc (Obj.cells #[.int .i64 flo, .int .i64 fhi] TCs))).alloc (Obj.cells #[.bool fop] 4)) (heap_alloc_new w4 (Obj.cells #[.int .i64 flo, .int .i64 fhi] TCs)))
  have HE4 := Lib.hid (heap_alloc_two w4 (Obj.cells #[.int .i64 flo, .int .i64 fhi] TCs) (Obj.cells #[.bool fop] 4))
  have hz4 := has_lt HP4.out
  have hz5 := has_lt HS4.out
  obtain ⟨p0, p1, p2, p3, p4, p5⟩ := cells_p HP4.out
  have s0 := cells_1 HS4.out
  have hmf : ∀ (fn : Fn) (first cap : Array Value) (w : World), (Instr.makeFunc fn first cap).run Try.prog w = .ok (.func fn first cap) w := fun _ _ _ _ => rfl
  go_wp2_with fail
  clear p0 p1 p2 p3 p4 p5 s0 hmf
  refine (searchFrom_pr L ⟨flo, fhi, fop⟩ _ _ _ _ defs dA dc p _ s fuel _ HS.out HP.out (RowIn.later (HL4.out.trans HLW.out) _ _ _ HD.out) (KidsIn.later (HL4.out.trans HLW.out) _ _ HIN.out) HV.out hss hfu (Later.has HLW.out HS4.out) (Later.has HLW.out HC4.out) HE4.out HX4.out b0 b1 _ HRES.out).mono ?_
  rintro e w9 ⟨cv, ev, rfl, h1, h2, h3, h4⟩
  dsimp only at h1 h2
  obtain ⟨cA, cc, rfl, _, _⟩ := h1.form
  obtain ⟨eA, ec, rfl, _, _⟩ := h2.form
  have H1 := Lib.hid h1
  have H2 := Lib.hid h2
  have H3 := Lib.hid h3
  have H4 := Lib.hid h4
  have HR9 := Lib.hid (Later.has h4 (Lib.hid (Later.has HLW.out HR4.out)).out)
  clear h1 h2 h3 h4
  obtain ⟨r0, r1, r2, r3, r4, r5, r6, r7⟩ := cells_r HR9.out
  obtain ⟨f0, f1, f2, f3, f4, f5, f6, f7⟩ := frozen_r HR9.out
  go_wp2_with fail
  refine bodyPost_ret (v := matchV R FR (.slice cA (R).caps.length cc) (.slice eA (R).events.length ec)) (by simp [results, Try.results28, go_sem, r0, r1, r2, r3, r4, r5, r6, r7]) rfl ?_
  exact matchIs_mk (HL4.out.trans HLW.out) H1.out H2.out H3.out H4.out HR9.out (by omega) (((((((((OnlyAt.refl _ _).set _ _).set _ _).set _ _).set _ _).set _ _).set _ _).set _ _).set _ _)

theorem implPruned_any (defs : List Pat) (dA : Option Addr) (dc : Nat) (p : Pat) (kv : Value) (s : ByteArray) (fuel : Int) (w : World) (hs : Smalls defs) (hp : Small p) (hd : RowIn w dA 0 defs) (hin : KidsIn w p kv) (hdl : defs.length ≤ 1099511627776) (hsl : s.size ≤ 1099511627776) : Calls Try.prog 28 #[.slice dA defs.length dc, p.v kv, .string s, .int .i64 fuel] w (MatchIs w (prunedRes defs p s fuel).1 (prunedRes defs p s fuel).2) := by
  cases hm : mayStop defs p with
  | true =>
    rw [show prunedRes defs p s fuel = searchRes defs p s fuel by simp [prunedRes, hm]]
    exact implPruned_stop defs dA dc p kv s fuel w hs hp hd hin hdl hsl hm
  | false =>
    cases ha : inLimits s fuel with
    | false =>
      rw [show prunedRes defs p s fuel = (.none, 0) by simp [prunedRes, hm, ha]]
      exact implPruned_no defs dA dc p kv s fuel w hs hp hd hin hdl hsl hm ha
    | true =>
      have hb := ha
      simp only [inLimits, Bool.and_eq_true, decide_eq_true_eq] at hb
      obtain ⟨⟨h2, h3⟩, h4⟩ := hb
      have := implPruned_play defs dA dc p kv s fuel.toNat w hs hp hd hin hm h2 (by omega) _ _ rfl
      rw [Int.toNat_of_nonneg h3] at this
      rw [show prunedRes defs p s fuel = srch defs p s fuel.toNat (takeAt s (least p) (first p)) (s.size + 1) 0 .none 0 by simp [prunedRes, hm, ha]]
      exact this

end Go.Proofs.Ytndefbecoahfhaa
