/- Both pruned searches answer as one plain function. -/
import Derived.Test.YtndefbecoahfhaaZD1
import Derived.Test.YtndefbecoahfhaaZF1
import Derived.Test.YtndefbecoahfhaaZC2
import Derived.Test.YtndefbecoahfhaaZC4

/- impl's searchFrom with the test of a pruned search: the walk. Printed by gen_prsrchb.py. -/
namespace Go.Proofs.Ytndefbecoahfhaa
open Go.RowKit

theorem SFrom.later' {w wr x : World} {PB RB OB : Nat} {box : Array Value} {q : Res} {fr : Int} {cv xv ev : Value} {es : List Cap} (h : SFrom w wr PB RB OB box q fr cv xv ev es) (hl : Later wr x) : SFrom w x PB RB OB box q fr cv xv ev es :=
  ⟨hl.has h.pb, hl.has h.rb, h.out.later hl, row_keep h.evs (KeepT.later hl), h.apart, h.later.trans hl⟩
theorem srch_skip {defs : List Pat} {p : Pat} {s : ByteArray} {fuel : Nat} {take : Nat → Bool} {k : Nat} {r : Res} {fr : Int} (hk : k ≤ s.size) (ht : take k = false) :
    srch defs p s fuel take (s.size + 1 - k) k r fr = srch defs p s fuel take (s.size + 1 - (k + 1)) (k + 1) r fr := by
  rw [show s.size + 1 - k = (s.size - k) + 1 by omega, show s.size + 1 - (k + 1) = s.size - k by omega]
  simp [srch, ht]

/-- The relation at the head of the loop. -/
def LoopP (take : Nat → Bool) (w : World) (PB RB OB : Nat) (box : Array Value) (defs : List Pat) (p : Pat) (s : ByteArray) (fuel : Nat) (RES : Res × Int) (sv ev av : Value) (wr : World) : Prop :=
  ∃ (k st : Nat) (q : Res) (fr : Int) (cv xv : Value) (es : List Cap), av = .int .i64 k ∧ k ≤ s.size + 1 ∧ sv = .int .i64 st ∧ st ≤ fuel ∧ es.length ≤ st ∧ SFrom w wr PB RB OB box q fr cv xv ev es ∧
    srch defs p s fuel take (s.size + 1 - k) k { q with steps := st, events := es } fr = RES

set_option maxRecDepth 100000 in
set_option maxHeartbeats 2000000 in
theorem searchFrom_pr (least : Int) (f : First) (SB LB EB CB : Nat) (defs : List Pat) (dA : Option Addr) (dc : Nat) (p : Pat) (kv : Value) (s : ByteArray) (fuel : Nat) (w : World) (hs : Smalls defs) (hp : Small p) (hd : RowIn w dA 0 defs) (hin : KidsIn w p kv) (hvd : validD defs p = true)
    (hss : s.size ≤ 120) (hfu : fuel ≤ 4000) (hSB : w.heap[SB]? = some (.cells #[.string s] 9 (0, 0))) (hLB : w.heap[LB]? = some (.cells #[.int .i64 least] 3 (0, 0))) (hEB : w.heap[EB]? = some (.cells #[.bool f.op_] 4 (0, 0))) (hCB : w.heap[CB]? = some (.cells #[.int .i64 f.lo, .int .i64 f.hi] TCs (0, 0))) (h0 : 0 ≤ least) (h1 : least ≤ 121) (RES : Res × Int) (hR : srch defs p s fuel (takeAt s least f) (s.size + 1) 0 .none 0 = RES) :
    Calls Try.prog 49 #[.slice dA defs.length dc, p.v kv, .string s, .int .i64 fuel, .func (.func 55) #[] #[.pointer (some ⟨SB, 0, none⟩), .pointer (some ⟨LB, 0, none⟩), .pointer (some ⟨EB, 0, none⟩), .pointer (some ⟨CB, 0, none⟩)]] w (MatchIs w RES.1 RES.2) := by
  obtain ⟨kA, kc, rfl, _, _⟩ := hin.form
  obtain ⟨hdok, hpv⟩ := validD_defs hvd hs
  have hlen := hdok.len
  have HD := Lib.hid hdok
  have HPV := Lib.hid hpv
  have HROW := Lib.hid hd
  have HIN := Lib.hid hin
  have HS := Lib.hid hs
  have HP := Lib.hid hp
  have HVD := Lib.hid hvd
  have HRES := Lib.hid hR
  have HSB := Lib.hid hSB
  have HLB := Lib.hid hLB
  have HEB := Lib.hid hEB
  have HCB := Lib.hid hCB
  clear hSB hLB hEB hCB
  clear hR hdok hpv hd hin hs hp hvd
  have i1 : (s.size : Int) ≤ 120 := by omega
  have i3 : (fuel : Int) ≤ 4000 := by omega
  go_enter Try.func49, Try.ntmps49
  go_wp2_with fail
  have HST := Lib.hid (sfrom_start w #[.int .i64 p.op, .string p.text, .int .i64 p.num, .int .i64 p.lo, .int .i64 p.hi, .slice kA p.kids.length kc])
  obtain ⟨RB, hRB⟩ : ∃ b, w.heap.size + 1 = b := ⟨_, rfl⟩
  obtain ⟨OB, hOB⟩ : ∃ b, RB + 1 = b := ⟨_, rfl⟩
  obtain ⟨PB, hPB⟩ : ∃ b, w.heap.size = b := ⟨_, rfl⟩
  have hob : w.heap.size ≤ OB := by omega
  have hrb : w.heap.size ≤ RB := by omega
  have hRO : ¬ RB = OB := by omega
  have hOR : ¬ OB = RB := by omega
  have hPO : ¬ PB = OB := by omega
  have HST : Hid (SFrom w _ PB RB OB #[.int .i64 p.op, .string p.text, .int .i64 p.num, .int .i64 p.lo, .int .i64 p.hi, .slice kA p.kids.length kc] .none 0 (.slice none 0 0) (.slice none 0 0) (.slice (some ⟨OB + 1, 0, none⟩) 0 0) []) := Lib.hid (by have h := HST.out; rw [hRB, hOB, hPB] at h; exact h)
  rw [hRB, hOB, hPB]
  clear hRB hOB hPB
  go_loopw [12, 13, 14] (fun sv ev av wr => LoopP (takeAt s least f) w PB RB OB #[.int .i64 p.op, .string p.text, .int .i64 p.num, .int .i64 p.lo, .int .i64 p.hi, .slice kA p.kids.length kc] defs p s fuel RES sv ev av wr) (fun _ _ av _ => s.size + 1 - (intOf av).toNat)
  case atStart => exact ⟨0, 0, .none, 0, _, _, [], rfl, by omega, rfl, by omega, by simp, HST.out, HRES.out⟩
  case round =>
    obtain ⟨k, st, q, fr, cv, xv, es, rfl, hk, rfl, hst, hes, hF, hsr⟩ := hrel
    obtain ⟨eA, ec, rfl, hec, _⟩ := hF.evs.form
    obtain ⟨cA, cc, rfl, _, _⟩ := hF.out.caps.form
    obtain ⟨xA, xc, rfl, _, _⟩ := hF.out.evs.form
    have HF := Lib.hid hF
    have HSR := Lib.hid hsr
    clear hF hsr HST HRES
    have i5 : (st : Int) ≤ fuel := by omega
    by_cases hle : k ≤ s.size
    · have hle' : (k : Int) ≤ s.size := by omega
      cases htk : takeAt s least f k with
      | false =>
        have HTK := Lib.hid htk
        clear htk
        go_wp2_with fail
        refine (take_any s least f k SB LB EB CB _ (HF.out.later.has HSB.out) (HF.out.later.has HLB.out) (HF.out.later.has HEB.out) (HF.out.later.has HCB.out) hss hle h0 h1 false HTK.out).mono ?_
        rintro e wt ⟨rfl, hbt⟩
        replace HF := Lib.hid (HF.out.later' hbt)
        clear hbt
        go_wp2_with fail
        go_roundw
        case rel => exact ⟨k + 1, st, q, fr, _, _, es, by go_num, by omega, rfl, by omega, by omega, HF.out, (srch_skip hle HTK.out).symm.trans HSR.out⟩
        case measure => simp [intOf]; omega
      | true =>
        have HTK := Lib.hid htk
        clear htk
        go_wp2_with fail
        refine (take_any s least f k SB LB EB CB _ (HF.out.later.has HSB.out) (HF.out.later.has HLB.out) (HF.out.later.has HEB.out) (HF.out.later.has HCB.out) hss hle h0 h1 true HTK.out).mono ?_
        rintro e wt ⟨rfl, hbt⟩
        replace HF := Lib.hid (HF.out.later' hbt)
        clear hbt
        obtain ⟨p0, p1, p2, p3, p4, p5⟩ := cells_p HF.out.pb
        go_wp2_with fail
        refine (matchPattern_z defs dA dc p _ s k (fuel - st) _ HS.out HP.out (RowIn.later HF.out.later _ _ _ HROW.out) (KidsIn.later HF.out.later _ _ HIN.out) HVD.out hss hle (by omega) _ (by omega)).mono ?_
        clear p0 p1 p2 p3 p4 p5
        have hev := play_events HD.out hss (fuel - st) 0 [⟨0, p, 0⟩] (.start k) (ok_start HPV.out HP.out hle)
        have hstep := play_steps (defs := defs) (s := s) (fuel - st) 0 [⟨0, p, 0⟩] (.start k)
        obtain ⟨q2, hq2⟩ : ∃ q2, play defs s (fuel - st) 0 [⟨0, p, 0⟩] (.start k) = q2 := ⟨_, rfl⟩
        rw [srch_step hle HTK.out hq2] at HSR
        rw [hq2] at hev hstep ⊢
        clear hq2
        rintro e w2 ⟨cv2, xv2, rfl, hc2, hx2, ha2, hl2⟩
        obtain ⟨cA2, cc2, rfl, _, _⟩ := hc2.form
        obtain ⟨xA2, xc2, rfl, _, _⟩ := hx2.form
        have HC2 := Lib.hid hc2
        have HX2 := Lib.hid hx2
        have HA2 := Lib.hid ha2
        have HL2 := Lib.hid hl2
        have HOB2 := Lib.hid ((hl2.block OB (has_lt HF.out.out.blk)).trans HF.out.out.blk)
        clear hc2 hx2 ha2 hl2
        have HO3 : Hid (OnlyAt OB w2 ((((((((w2.setCell ⟨OB, 0, none⟩ (.bool q2.found)).setCell ⟨OB, 1, none⟩ (.bool q2.stopped)).setCell ⟨OB, 2, none⟩ (.bool q2.exhausted)).setCell ⟨OB, 3, none⟩ (.int .i64 (matchFrom q2 k))).setCell ⟨OB, 4, none⟩ (.int .i64 q2.at_)).setCell ⟨OB, 5, none⟩ (.int .i64 q2.steps)).setCell ⟨OB, 6, none⟩ (.slice cA2 q2.caps.length cc2)).setCell ⟨OB, 7, none⟩ (.slice xA2 q2.events.length xc2))) := Lib.hid (((((((((OnlyAt.refl _ _).set _ _).set _ _).set _ _).set _ _).set _ _).set _ _).set _ _).set _ _)
        have HB3 := Lib.hid (stored_blk HOB2.out (.bool q2.found) (.bool q2.stopped) (.bool q2.exhausted) (.int .i64 (matchFrom q2 k)) (.int .i64 q2.at_) (.int .i64 q2.steps) (.slice cA2 q2.caps.length cc2) (.slice xA2 q2.events.length xc2))
        have HE3 := Lib.hid (HO3.out.row (row_keep HF.out.evs (KeepT.later HL2.out)) HOB2.out (by decide))
        have HX3 := Lib.hid (HO3.out.row HX2.out HOB2.out (by decide))
        obtain ⟨r0, r1, r2, r3, r4, r5, r6, r7⟩ := cells_r HOB2.out
        obtain ⟨f0, f1, f2, f3, f4, f5, f6, f7⟩ := frozen_r HOB2.out
        have i6 : (st : Int) + q2.steps ≤ 4000 := by omega
        obtain ⟨i, hi, hz0, hz1, hz2⟩ := info_parts infoK
        go_wp2_with (at_builtin; refine wpList_append_row _ rfl _ _ _ rfl w.heap.size wt.heap.size TK i _ 3 24 Try.underlying31 hi hz0 hz1 hz2 rfl rfl HE3.out rfl HX3.out (capCells_one _) ?a3 ?a4 (by omega) ?a5 ?_; fail_if_success done)
        case a3 => omega
        case a4 => omega
        case a5 => have := HL2.out.size; have := HF.out.later.size; simp; omega
        intro v' w4 hrow hgrow hbl
        have HF4 := Lib.hid (HF.out.next (fr2 := matchFrom q2 k) hob HL2.out HC2.out HX2.out HA2.out HO3.out hPO hRO HB3.out hrow hgrow hbl)
        obtain ⟨vA, vc, rfl, _, _⟩ := hrow.form
        clear hrow hgrow hbl r0 r1 r2 r3 r4 r5 r6 r7 f0 f1 f2 f3 f4 f5 f6 f7 hi hz0 hz1 hz2
        cases hf : q2.found with
        | true =>
          rw [if_pos (by simp [Res.ends, hf])] at HSR
          obtain ⟨r0, r1, r2, r3, r4, r5, r6, r7⟩ := cells_r HF4.out.out.blk
          obtain ⟨f0, f1, f2, f3, f4, f5, f6, f7⟩ := frozen_r HF4.out.out.blk
          obtain ⟨z0, z1, z2, z3, z4, z5, z6, z7⟩ := cells_r HF4.out.rb
          obtain ⟨g0, g1, g2, g3, g4, g5, g6, g7⟩ := frozen_r HF4.out.rb
          rw [hf] at r0
          go_wp2_with fail
          refine bodyPost_ret (v := matchV { q2 with steps := st + q2.steps, events := es ++ q2.events } (matchFrom q2 k) (.slice cA2 q2.caps.length cc2) (.slice vA (es.length + q2.events.length) vc)) (by simp [results, Try.results49, go_sem, r0, r1, r2, r3, r4, r5, r6, r7, z0, z1, z2, z3, z4, z5, z6, z7, hRO, hOR, hf]) rfl ?_
          obtain rfl := HSR.out
          exact searchIs_mk HF4.out hob hrb hRO (((OnlyAt.refl _ _).set _ _).set _ _) (((((((((OnlyAt.refl _ _).set _ _).set _ _).set _ _).set _ _).set _ _).set _ _).set _ _).set _ _)
        | false =>
          cases hp : q2.stopped with
          | true =>
            rw [if_pos (by simp [Res.ends, hf, hp])] at HSR
            obtain ⟨r0, r1, r2, r3, r4, r5, r6, r7⟩ := cells_r HF4.out.out.blk
            obtain ⟨f0, f1, f2, f3, f4, f5, f6, f7⟩ := frozen_r HF4.out.out.blk
            obtain ⟨z0, z1, z2, z3, z4, z5, z6, z7⟩ := cells_r HF4.out.rb
            obtain ⟨g0, g1, g2, g3, g4, g5, g6, g7⟩ := frozen_r HF4.out.rb
            rw [hf] at r0
            rw [hp] at r1
            go_wp2_with fail
            refine bodyPost_ret (v := matchV { q2 with steps := st + q2.steps, events := es ++ q2.events } (matchFrom q2 k) (.slice cA2 q2.caps.length cc2) (.slice vA (es.length + q2.events.length) vc)) (by simp [results, Try.results49, go_sem, r0, r1, r2, r3, r4, r5, r6, r7, z0, z1, z2, z3, z4, z5, z6, z7, hRO, hOR, hf, hp]) rfl ?_
            obtain rfl := HSR.out
            exact searchIs_mk HF4.out hob hrb hRO (((OnlyAt.refl _ _).set _ _).set _ _) (((((((((OnlyAt.refl _ _).set _ _).set _ _).set _ _).set _ _).set _ _).set _ _).set _ _).set _ _)
          | false =>
            cases hx : q2.exhausted with
            | true =>
              rw [if_pos (by simp [Res.ends, hf, hp, hx])] at HSR
              obtain ⟨r0, r1, r2, r3, r4, r5, r6, r7⟩ := cells_r HF4.out.out.blk
              obtain ⟨f0, f1, f2, f3, f4, f5, f6, f7⟩ := frozen_r HF4.out.out.blk
              obtain ⟨z0, z1, z2, z3, z4, z5, z6, z7⟩ := cells_r HF4.out.rb
              obtain ⟨g0, g1, g2, g3, g4, g5, g6, g7⟩ := frozen_r HF4.out.rb
              rw [hf] at r0
              rw [hp] at r1
              rw [hx] at r2
              go_wp2_with fail
              refine bodyPost_ret (v := matchV { q2 with steps := st + q2.steps, events := es ++ q2.events } (matchFrom q2 k) (.slice cA2 q2.caps.length cc2) (.slice vA (es.length + q2.events.length) vc)) (by simp [results, Try.results49, go_sem, r0, r1, r2, r3, r4, r5, r6, r7, z0, z1, z2, z3, z4, z5, z6, z7, hRO, hOR, hf, hp, hx]) rfl ?_
              obtain rfl := HSR.out
              exact searchIs_mk HF4.out hob hrb hRO (((OnlyAt.refl _ _).set _ _).set _ _) (((((((((OnlyAt.refl _ _).set _ _).set _ _).set _ _).set _ _).set _ _).set _ _).set _ _).set _ _)
            | false =>
              rw [if_neg (by simp [Res.ends, hf, hp, hx])] at HSR
              obtain ⟨r0, r1, r2, r3, r4, r5, r6, r7⟩ := cells_r HF4.out.out.blk
              rw [hf] at r0
              rw [hp] at r1
              rw [hx] at r2
              go_wp2_with fail
              go_roundw
              case rel => exact ⟨k + 1, st + q2.steps, q2, matchFrom q2 k, _, _, es ++ q2.events, by go_num, by omega, by go_num, by omega, by simp; omega, HF4.out, HSR.out⟩
              case measure => simp [intOf]; omega
    · skip
      have hgt : (s.size : Int) < k := by omega
      rw [show s.size + 1 - k = 0 by omega] at HSR
      simp only [srch] at HSR
      obtain ⟨r0, r1, r2, r3, r4, r5, r6, r7⟩ := cells_r HF.out.out.blk
      obtain ⟨f0, f1, f2, f3, f4, f5, f6, f7⟩ := frozen_r HF.out.out.blk
      obtain ⟨z0, z1, z2, z3, z4, z5, z6, z7⟩ := cells_r HF.out.rb
      obtain ⟨g0, g1, g2, g3, g4, g5, g6, g7⟩ := frozen_r HF.out.rb
      go_wp2_with fail
      refine bodyPost_ret (v := matchV { q with steps := st, events := es } (fr) (.slice cA q.caps.length cc) (.slice eA es.length ec)) (by simp [results, Try.results49, go_sem, r0, r1, r2, r3, r4, r5, r6, r7, z0, z1, z2, z3, z4, z5, z6, z7, hRO, hOR]) rfl ?_
      obtain rfl := HSR.out
      exact searchIs_mk HF.out hob hrb hRO (((OnlyAt.refl _ _).set _ _).set _ _) (((((((((OnlyAt.refl _ _).set _ _).set _ _).set _ _).set _ _).set _ _).set _ _).set _ _).set _ _)

end Go.Proofs.Ytndefbecoahfhaa

/- Whether a pattern holds a fence or an abort: hasStop, l21Stops, MayStop of both sides. Printed by gen_prstop.py. -/
namespace Go.Proofs.Ytndefbecoahfhaa
open Go.RowKit

mutual
def stops : Pat → Bool
  | .mk op _ _ _ _ kids => (op == 19 || op == 21) || stopsAll kids
def stopsAll : List Pat → Bool
  | [] => false
  | p :: ps => stops p || stopsAll ps
end
theorem stops_eq (p : Pat) : stops p = ((p.op == 19 || p.op == 21) || stopsAll p.kids) := by cases p; simp only [stops, Pat.op, Pat.kids]
theorem stopsAll_append (a b : List Pat) : stopsAll (a ++ b) = (stopsAll a || stopsAll b) := by
  induction a with
  | nil => simp [stopsAll]
  | cons p ps ih => simp only [List.cons_append, stopsAll, ih, Bool.or_assoc]
/-- None of the first j stops. -/
def NoStop (ps : List Pat) (j : Nat) : Prop := stopsAll (ps.take j) = false
theorem NoStop.zero (ps : List Pat) : NoStop ps 0 := by simp [NoStop, stopsAll]
theorem NoStop.next {ps : List Pat} {j : Nat} (h : NoStop ps j) (hj : j < ps.length) (hs : stops ps[j] = false) : NoStop ps (j + 1) := by
  unfold NoStop at h ⊢
  rw [List.take_succ_eq_append_getElem hj, stopsAll_append, h]
  simp [stopsAll, hs]
theorem NoStop.all {ps : List Pat} {j : Nat} (h : NoStop ps j) (hj : ¬ j < ps.length) : stopsAll ps = false := by
  unfold NoStop at h
  rwa [List.take_of_length_le (by omega)] at h
theorem NoStop.some {ps : List Pat} {j : Nat} (hj : j < ps.length) (hs : stops ps[j] = true) : stopsAll ps = true := by
  have e : ps = ps.take j ++ (ps[j] :: ps.drop (j + 1)) := by rw [List.getElem_cons_drop, List.take_append_drop]
  rw [e, stopsAll_append]
  simp [stopsAll, hs]
theorem stops_head {p : Pat} (h : p.op = 19 ∨ p.op = 21) : stops p = true := by rw [stops_eq]; rcases h with h | h <;> simp [h]
theorem stops_rest {p : Pat} (h : ¬ (p.op = 19 ∨ p.op = 21)) : stops p = stopsAll p.kids := by
  rw [stops_eq, show (p.op == 19) = false by simp; omega, show (p.op == 21) = false by simp; omega]; rfl

set_option maxRecDepth 100000 in
set_option maxHeartbeats 1000000 in
theorem hasStop_any (k : Nat) : ∀ (p : Pat) (kv : Value) (w : World), count p ≤ k → k ≤ 1099511627776 → KidsIn w p kv →
    Calls Try.prog 74 #[p.v kv] w fun e w' => e = .returned (.bool (stops p)) ∧ Below w.heap.size w w' := by
  induction k with
  | zero => intro p kv w h; have := count_pos p; omega
  | succ k ih =>
    intro p kv w hk hk2 hin
    obtain ⟨A, c, rfl, hc, hrow⟩ := hin.form
    have hlen := countAll_len p.kids
    have hce := count_eq p
    have hn : p.kids.length ≤ 1099511627776 := by omega
    have IH := Lib.hid ih
    have HK := Lib.hid hk
    have HROW := Lib.hid hrow
    clear ih hce hk hlen hrow hin
    by_cases ho : p.op = 19 ∨ p.op = 21
    · have HV := Lib.hid (stops_head ho)
      rcases ho with ho | ho
      · have t1 : (p.op == 19) = true := by simp [ho]
        clear ho
        go_enter Try.func74, Try.ntmps74
        go_wp2_with fail
        go_ret
        exact ⟨ret_bool HV.out.symm, (Below.refl _ _).alloc (Nat.le_refl _) _⟩
      · have t1 : (p.op == 19) = false := by simp [ho]
        have t2 : (p.op == 21) = true := by simp [ho]
        clear ho
        go_enter Try.func74, Try.ntmps74
        go_wp2_with fail
        go_ret
        exact ⟨ret_bool HV.out.symm, (Below.refl _ _).alloc (Nat.le_refl _) _⟩
    have HV := Lib.hid (stops_rest ho)
    have t1 : (p.op == 19) = false := by simp; omega
    have t2 : (p.op == 21) = false := by simp; omega
    clear ho
    go_enter Try.func74, Try.ntmps74
    go_wp2_with fail
    go_loopw [16] (fun i wr => ∃ j : Nat, j ≤ p.kids.length ∧ i = .int .i64 j ∧ NoStop p.kids j ∧ RowIn wr A 0 p.kids ∧ Below w.heap.size w wr) (fun i _ => p.kids.length - (intOf i).toNat)
    case atStart => exact ⟨0, Nat.zero_le _, rfl, NoStop.zero _, RowIn.later ((Later.refl w).alloc _) A 0 _ HROW.out, (Below.refl _ _).alloc (Nat.le_refl _) _⟩
    case round =>
      obtain ⟨j, hj, rfl, hns, hr, hbel⟩ := hrel
      have hsz := hbel.size
      have HN := Lib.hid hns
      clear hns
      by_cases hlt : j < p.kids.length
      · have hlt' : (j : Int) < p.kids.length := by omega
        obtain ⟨g, kv', rfl, hg, he, hkid⟩ := rowOf wr p.kids hr hlt
        have HKL := Lib.hid (count_kid_lt p j hlt)
        obtain ⟨A', c', rfl, _, _⟩ := hkid.form
        obtain ⟨e0, e1, e2, e3, e4, e5⟩ := he
        have HKid := Lib.hid hkid
        have HR := Lib.hid hr
        clear hkid hr
        go_wp2_with fail
        refine (IH.out p.kids[j] _ _ (by have := HKL.out; have := HK.out; omega) (by omega) (KidsIn.later ((Later.refl wr).alloc _) _ _ HKid.out)).mono ?_
        rintro e w2 ⟨he, hb2⟩
        have hb3 : Below w.heap.size w w2 := (hbel.alloc hsz _).trans (Below.mono hb2 (by simp; omega))
        have HR2 := Lib.hid (RowIn.later (Later.trans ((Later.refl wr).alloc _) hb2) _ 0 _ HR.out)
        clear hb2
        cases hs : stops p.kids[j] with
        | true =>
          rw [hs] at he
          subst he
          have HS := Lib.hid hs
          clear hs
          go_wp2_with fail
          go_ret
          exact ⟨ret_bool (by rw [HV.out, NoStop.some hlt HS.out]), hb3⟩
        | false =>
          rw [hs] at he
          subst he
          have HS := Lib.hid hs
          clear hs
          go_wp2_with fail
          go_roundw
          case rel => exact ⟨j + 1, by omega, by go_num, HN.out.next hlt HS.out, HR2.out, hb3⟩
          case measure => simp [intOf]; omega
      · go_wp2_with fail
        go_ret
        exact ⟨ret_bool (by rw [HV.out, HN.out.all hlt]), hbel⟩

set_option maxRecDepth 100000 in
set_option maxHeartbeats 1000000 in
theorem l21Stops_any (k : Nat) : ∀ (p : Pat) (kv : Value) (w : World), count p ≤ k → k ≤ 1099511627776 → KidsIn w p kv →
    Calls Try.prog 83 #[p.v kv] w fun e w' => e = .returned (.bool (stops p)) ∧ Below w.heap.size w w' := by
  induction k with
  | zero => intro p kv w h; have := count_pos p; omega
  | succ k ih =>
    intro p kv w hk hk2 hin
    obtain ⟨A, c, rfl, hc, hrow⟩ := hin.form
    have hlen := countAll_len p.kids
    have hce := count_eq p
    have hn : p.kids.length ≤ 1099511627776 := by omega
    have IH := Lib.hid ih
    have HK := Lib.hid hk
    have HROW := Lib.hid hrow
    clear ih hce hk hlen hrow hin
    by_cases ho : p.op = 19 ∨ p.op = 21
    · have HV := Lib.hid (stops_head ho)
      rcases ho with ho | ho
      · have t1 : (p.op == 19) = true := by simp [ho]
        clear ho
        go_enter Try.func83, Try.ntmps83
        go_wp2_with fail
        go_ret
        exact ⟨ret_bool HV.out.symm, (Below.refl _ _).alloc (Nat.le_refl _) _⟩
      · have t1 : (p.op == 19) = false := by simp [ho]
        have t2 : (p.op == 21) = true := by simp [ho]
        clear ho
        go_enter Try.func83, Try.ntmps83
        go_wp2_with fail
        go_ret
        exact ⟨ret_bool HV.out.symm, (Below.refl _ _).alloc (Nat.le_refl _) _⟩
    have HV := Lib.hid (stops_rest ho)
    have t1 : (p.op == 19) = false := by simp; omega
    have t2 : (p.op == 21) = false := by simp; omega
    clear ho
    go_enter Try.func83, Try.ntmps83
    go_wp2_with fail
    go_loopw [3] (fun i wr => ∃ j : Nat, j ≤ p.kids.length ∧ i = .int .i64 j ∧ NoStop p.kids j ∧ RowIn wr A 0 p.kids ∧ w.heap.size < wr.heap.size ∧ wr.cell? ⟨w.heap.size, 5, none⟩ = some (.slice A p.kids.length c) ∧ Below w.heap.size w wr) (fun i _ => p.kids.length - (intOf i).toNat)
    case atStart => exact ⟨0, Nat.zero_le _, rfl, NoStop.zero _, RowIn.later ((Later.refl w).alloc _) A 0 _ HROW.out, by simp, cell_of_row _ w.heap.size 5 _ _ _ (heap_alloc_new w _), (Below.refl _ _).alloc (Nat.le_refl _) _⟩
    case round =>
      obtain ⟨j, hj, rfl, hns, hr, hN, hc5, hbel⟩ := hrel
      have hsz := hbel.size
      have HN := Lib.hid hns
      clear hns
      by_cases hlt : j < p.kids.length
      · have hlt' : (j : Int) < p.kids.length := by omega
        obtain ⟨g, kv', rfl, hg, he, hkid⟩ := rowOf wr p.kids hr hlt
        have HKL := Lib.hid (count_kid_lt p j hlt)
        obtain ⟨A', c', rfl, _, _⟩ := hkid.form
        obtain ⟨e0, e1, e2, e3, e4, e5⟩ := he
        have HKid := Lib.hid hkid
        have HR := Lib.hid hr
        clear hkid hr
        go_wp2_with fail
        refine (IH.out p.kids[j] _ _ (by have := HKL.out; have := HK.out; omega) (by omega) HKid.out).mono ?_
        rintro e w2 ⟨he, hb2⟩
        have hb3 : Below w.heap.size w w2 := hbel.trans (Below.mono hb2 hsz)
        have HR2 := Lib.hid (RowIn.later hb2 _ 0 _ HR.out)
        have hc5' : w2.cell? ⟨w.heap.size, 5, none⟩ = some (.slice (some ⟨g, 0, none⟩) p.kids.length c) := (hb2.cell hN).trans hc5
        have hN' : w.heap.size < w2.heap.size := Nat.lt_of_lt_of_le hN hb2.size
        clear hb2
        cases hs : stops p.kids[j] with
        | true =>
          rw [hs] at he
          subst he
          have HS := Lib.hid hs
          clear hs
          go_wp2_with fail
          go_ret
          exact ⟨ret_bool (by rw [HV.out, NoStop.some hlt HS.out]), hb3⟩
        | false =>
          rw [hs] at he
          subst he
          have HS := Lib.hid hs
          clear hs
          go_wp2_with fail
          go_roundw
          case rel => exact ⟨j + 1, by omega, by go_num, HN.out.next hlt HS.out, HR2.out, hN', hc5', hb3⟩
          case measure => simp [intOf]; omega
      · go_wp2_with fail
        go_ret
        exact ⟨ret_bool (by rw [HV.out, HN.out.all hlt]), hbel⟩

end Go.Proofs.Ytndefbecoahfhaa

/- MayStop of both sides. Printed by gen_prmay.py. -/
namespace Go.Proofs.Ytndefbecoahfhaa
open Go.RowKit

def mayStop (defs : List Pat) (p : Pat) : Bool := !validD defs p || (stops p || stopsAll defs)
theorem mayStop_invalid {defs : List Pat} {p : Pat} (h : validD defs p = false) : mayStop defs p = true := by simp [mayStop, h]
theorem mayStop_valid {defs : List Pat} {p : Pat} (h : validD defs p = true) : mayStop defs p = (stops p || stopsAll defs) := by simp [mayStop, h]

set_option maxRecDepth 100000 in
set_option maxHeartbeats 1000000 in
theorem implMay_any (defs : List Pat) (A : Option Addr) (c : Nat) (p : Pat) (kv : Value) (w : World) (hs : Smalls defs) (hp : Small p) (hd : RowIn w A 0 defs) (hin : KidsIn w p kv) (hdl : defs.length ≤ 1099511627776) :
    Calls Try.prog 52 #[.slice A defs.length c, p.v kv] w fun e w' => e = .returned (.bool (mayStop defs p)) ∧ Below w.heap.size w w' := by
  obtain ⟨kA, kc, rfl, _, _⟩ := hin.form
  have HIN := Lib.hid hin
  have HS := Lib.hid hs
  have HP := Lib.hid hp
  have HD := Lib.hid hd
  clear hin hs hp hd
  go_enter Try.func52, Try.ntmps52
  go_wp2_with fail
  have HLA := Lib.hid ((Later.refl w).alloc (Obj.cells #[.int .i64 p.op, .string p.text, .int .i64 p.num, .int .i64 p.lo, .int .i64 p.hi, .slice kA p.kids.length kc] TP))
  have HBA := Lib.hid (heap_alloc_new w (Obj.cells #[.int .i64 p.op, .string p.text, .int .i64 p.num, .int .i64 p.lo, .int .i64 p.hi, .slice kA p.kids.length kc] TP))
  refine (validDefinitions_any defs A c p _ _ HS.out HP.out (RowIn.later HLA.out _ _ _ HD.out) (KidsIn.later HLA.out _ _ HIN.out) hdl).mono ?_
  rintro e w2 ⟨he, hb2⟩
  have HL2 := Lib.hid (HLA.out.trans hb2)
  have HB2 := Lib.hid (Later.has hb2 HBA.out)
  clear hb2
  cases hv : validD defs p with
  | false =>
    rw [hv] at he
    subst he
    have HV := Lib.hid (mayStop_invalid hv)
    clear hv
    go_wp2_with fail
    go_ret
    exact ⟨ret_bool HV.out.symm, HL2.out⟩
  | true =>
    rw [hv] at he
    subst he
    have HV := Lib.hid (mayStop_valid hv)
    clear hv
    obtain ⟨p0, p1, p2, p3, p4, p5⟩ := cells_p HB2.out
    go_wp2_with fail
    clear p0 p1 p2 p3 p4 p5
    refine (hasStop_any (count p) p _ _ (Nat.le_refl _) HP.out (KidsIn.later HL2.out _ _ HIN.out)).mono ?_
    rintro e w3 ⟨he, hb3⟩
    have HL3 := Lib.hid (HL2.out.trans hb3)
    clear hb3
    cases hst : stops p with
    | true =>
      rw [hst] at he
      subst he
      have HT := Lib.hid hst
      clear hst
      go_wp2_with fail
      go_ret
      exact ⟨ret_bool (by rw [HV.out, HT.out]; rfl), HL3.out⟩
    | false =>
      rw [hst] at he
      subst he
      have HT := Lib.hid hst
      clear hst
      go_wp2_with fail
      go_loopw [17] (fun i wr => ∃ j : Nat, j ≤ defs.length ∧ i = .int .i64 j ∧ NoStop defs j ∧ RowIn wr A 0 defs ∧ Below w.heap.size w wr) (fun i _ => defs.length - (intOf i).toNat)
      case atStart => exact ⟨0, Nat.zero_le _, rfl, NoStop.zero _, RowIn.later HL3.out A 0 _ HD.out, HL3.out⟩
      case round =>
        obtain ⟨j, hj, rfl, hns, hr, hbel⟩ := hrel
        have HN := Lib.hid hns
        clear hns
        have hsz := hbel.size
        by_cases hlt : j < defs.length
        · obtain ⟨g, kv', rfl, hg, he, hkid⟩ := rowOf wr defs hr hlt
          obtain ⟨A'', c'', rfl, _, _⟩ := hkid.form
          obtain ⟨e0, e1, e2, e3, e4, e5⟩ := he
          have hlt' : (j : Int) < defs.length := by omega
          have HKid := Lib.hid hkid
          have HR := Lib.hid hr
          clear hkid hr
          go_wp2_with fail
          refine (hasStop_any (count defs[j]) defs[j] _ _ (Nat.le_refl _) (HS.out j hlt) (KidsIn.later ((Later.refl wr).alloc _) _ _ HKid.out)).mono ?_
          rintro e w4 ⟨he, hb4⟩
          have hb5 : Below w.heap.size w w4 := (hbel.alloc hsz _).trans (Below.mono hb4 (by simp; omega))
          have HR2 := Lib.hid (RowIn.later (Later.trans ((Later.refl wr).alloc _) hb4) _ 0 _ HR.out)
          clear hb4
          cases hsj : stops defs[j] with
          | true =>
            rw [hsj] at he
            subst he
            have HJ := Lib.hid hsj
            clear hsj
            go_wp2_with fail
            go_ret
            exact ⟨ret_bool (by rw [HV.out, NoStop.some hlt HJ.out, Bool.or_true]), hb5⟩
          | false =>
            rw [hsj] at he
            subst he
            have HJ := Lib.hid hsj
            clear hsj
            go_wp2_with fail
            go_roundw
            case rel => exact ⟨j + 1, by omega, by go_num, HN.out.next hlt HJ.out, HR2.out, hb5⟩
            case measure => simp [intOf]; omega
        · go_wp2_with fail
          go_ret
          exact ⟨ret_bool (by rw [HV.out, HT.out, HN.out.all hlt]; rfl), hbel⟩
theorem implMay_is (b : Bool) (defs : List Pat) (A : Option Addr) (c : Nat) (p : Pat) (kv : Value) (w : World) (hs : Smalls defs) (hp : Small p) (hd : RowIn w A 0 defs) (hin : KidsIn w p kv) (hdl : defs.length ≤ 1099511627776) (hb : mayStop defs p = b) :
    Calls Try.prog 52 #[.slice A defs.length c, p.v kv] w fun e w' => e = .returned (.bool b) ∧ Below w.heap.size w w' := by
  subst hb
  exact implMay_any defs A c p kv w hs hp hd hin hdl

set_option maxRecDepth 100000 in
set_option maxHeartbeats 1000000 in
theorem specMay_any (defs : List Pat) (A : Option Addr) (c : Nat) (p : Pat) (kv : Value) (w : World) (hs : Smalls defs) (hp : Small p) (hd : RowIn w A 0 defs) (hin : KidsIn w p kv) (hdl : defs.length ≤ 1099511627776) :
    Calls Try.prog 59 #[.slice A defs.length c, p.v kv] w fun e w' => e = .returned (.bool (mayStop defs p)) ∧ Below w.heap.size w w' := by
  obtain ⟨kA, kc, rfl, _, _⟩ := hin.form
  have HIN := Lib.hid hin
  have HS := Lib.hid hs
  have HP := Lib.hid hp
  have HD := Lib.hid hd
  clear hin hs hp hd
  go_enter Try.func59, Try.ntmps59
  go_wp2_with fail
  have HLA := Lib.hid ((Later.refl w).alloc (Obj.cells #[.int .i64 p.op, .string p.text, .int .i64 p.num, .int .i64 p.lo, .int .i64 p.hi, .slice kA p.kids.length kc] TP))
  have HBA := Lib.hid (heap_alloc_new w (Obj.cells #[.int .i64 p.op, .string p.text, .int .i64 p.num, .int .i64 p.lo, .int .i64 p.hi, .slice kA p.kids.length kc] TP))
  refine (l18Defs_any defs A c p _ _ HS.out HP.out (RowIn.later HLA.out _ _ _ HD.out) (KidsIn.later HLA.out _ _ HIN.out) hdl).mono ?_
  rintro e w2 ⟨he, hb2⟩
  have HL2 := Lib.hid (HLA.out.trans hb2)
  have HB2 := Lib.hid (Later.has hb2 HBA.out)
  clear hb2
  cases hv : validD defs p with
  | false =>
    rw [hv] at he
    subst he
    have HV := Lib.hid (mayStop_invalid hv)
    clear hv
    go_wp2_with fail
    go_ret
    exact ⟨ret_bool HV.out.symm, HL2.out⟩
  | true =>
    rw [hv] at he
    subst he
    have HV := Lib.hid (mayStop_valid hv)
    clear hv
    obtain ⟨p0, p1, p2, p3, p4, p5⟩ := cells_p HB2.out
    go_wp2_with fail
    clear p0 p1 p2 p3 p4 p5
    refine (l21Stops_any (count p) p _ _ (Nat.le_refl _) HP.out (KidsIn.later HL2.out _ _ HIN.out)).mono ?_
    rintro e w3 ⟨he, hb3⟩
    have HL3 := Lib.hid (HL2.out.trans hb3)
    clear hb3
    cases hst : stops p with
    | true =>
      rw [hst] at he
      subst he
      have HT := Lib.hid hst
      clear hst
      go_wp2_with fail
      go_ret
      exact ⟨ret_bool (by rw [HV.out, HT.out]; rfl), HL3.out⟩
    | false =>
      rw [hst] at he
      subst he
      have HT := Lib.hid hst
      clear hst
      go_wp2_with fail
      go_loopw [5] (fun i wr => ∃ j : Nat, j ≤ defs.length ∧ i = .int .i64 j ∧ NoStop defs j ∧ RowIn wr A 0 defs ∧ Below w.heap.size w wr) (fun i _ => defs.length - (intOf i).toNat)
      case atStart => exact ⟨0, Nat.zero_le _, rfl, NoStop.zero _, RowIn.later HL3.out A 0 _ HD.out, HL3.out⟩
      case round =>
        obtain ⟨j, hj, rfl, hns, hr, hbel⟩ := hrel
        have HN := Lib.hid hns
        clear hns
        have hsz := hbel.size
        by_cases hlt : j < defs.length
        · obtain ⟨g, kv', rfl, hg, he, hkid⟩ := rowOf wr defs hr hlt
          obtain ⟨A'', c'', rfl, _, _⟩ := hkid.form
          obtain ⟨e0, e1, e2, e3, e4, e5⟩ := he
          have hlt' : (j : Int) < defs.length := by omega
          have HKid := Lib.hid hkid
          have HR := Lib.hid hr
          clear hkid hr
          go_wp2_with fail
          refine (l21Stops_any (count defs[j]) defs[j] _ _ (Nat.le_refl _) (HS.out j hlt) HKid.out).mono ?_
          rintro e w4 ⟨he, hb4⟩
          have hb5 : Below w.heap.size w w4 := hbel.trans (Below.mono hb4 hsz)
          have HR2 := Lib.hid (RowIn.later hb4 _ 0 _ HR.out)
          clear hb4
          cases hsj : stops defs[j] with
          | true =>
            rw [hsj] at he
            subst he
            have HJ := Lib.hid hsj
            clear hsj
            go_wp2_with fail
            go_ret
            exact ⟨ret_bool (by rw [HV.out, NoStop.some hlt HJ.out, Bool.or_true]), hb5⟩
          | false =>
            rw [hsj] at he
            subst he
            have HJ := Lib.hid hsj
            clear hsj
            go_wp2_with fail
            go_roundw
            case rel => exact ⟨j + 1, by omega, by go_num, HN.out.next hlt HJ.out, HR2.out, hb5⟩
            case measure => simp [intOf]; omega
        · go_wp2_with fail
          go_ret
          exact ⟨ret_bool (by rw [HV.out, HT.out, HN.out.all hlt]; rfl), hbel⟩
theorem specMay_is (b : Bool) (defs : List Pat) (A : Option Addr) (c : Nat) (p : Pat) (kv : Value) (w : World) (hs : Smalls defs) (hp : Small p) (hd : RowIn w A 0 defs) (hin : KidsIn w p kv) (hdl : defs.length ≤ 1099511627776) (hb : mayStop defs p = b) :
    Calls Try.prog 59 #[.slice A defs.length c, p.v kv] w fun e w' => e = .returned (.bool b) ∧ Below w.heap.size w w' := by
  subst hb
  exact specMay_any defs A c p kv w hs hp hd hin hdl

end Go.Proofs.Ytndefbecoahfhaa
