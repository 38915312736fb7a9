/- Both pruned searches answer as one plain function. -/
import Derived.Test.YtndefbecoahfhaaZD1
import Derived.Test.YtndefbecoahfhaaZF2
import Derived.BigQuiet
import Derived.Test.YtndefbecoahfhaaZF3

/- spec's l20Search with the test of a pruned search: the walk. Printed by gen_prsrchs.py. -/
namespace Go.Proofs.Ytndefbecoahfhaa
open Go.RowKit

theorem keep_two {w6 x y : World} {NB OB SB : Nat} {o : Obj} (o1 : OnlyAt NB w6 x) (o2 : OnlyAt OB x y) (h1 : SB ≠ NB) (h2 : SB ≠ OB) (h : w6.heap[SB]? = some o) : y.heap[SB]? = some o := (o2.2 SB h2).trans ((o1.2 SB h1).trans h)
theorem srch_none {defs : List Pat} {p : Pat} {s : ByteArray} {fuel : Nat} {take : Nat → Bool} : ∀ (n k : Nat) (r : Res) (fr : Int), (∀ j, k ≤ j → take j = false) → srch defs p s fuel take n k r fr = (r, fr)
  | 0, k, r, fr, _ => by simp [srch]
  | n + 1, k, r, fr, h => by
    unfold srch
    rw [if_neg (by rw [h k (Nat.le_refl _)]; decide)]
    exact srch_none n (k + 1) r fr fun j hj => h j (by omega)
theorem takeAt_past {s : ByteArray} {least : Int} {f : First} {k : Nat} (h : (s.size : Int) - least < k) (j : Nat) (hj : k ≤ j) : takeAt s least f j = false := by
  unfold takeAt
  rw [decide_eq_false (by omega)]
  rfl
theorem sloop_set (w : World) (box sbox : Array Value) (T : TypeId) : ((((w.alloc (.cells box TP)).alloc (.cells sbox T)).alloc (.cells zeroM TR)).alloc (.cells zeroM TR)).heap[w.heap.size + 1]? = some (.cells sbox T (0, 0)) :=
  Later.has (((Later.refl _).alloc _).alloc _) (heap_alloc_two w (.cells box TP) (.cells sbox T))
def LoopQ (take : Nat → Bool) (w : World) (PB SB RB OB : Nat) (box sbox : Array Value) (defs : List Pat) (p : Pat) (s : ByteArray) (fuel : Nat) (RES : Res × Int) (av : Value) (wr : World) : Prop :=
  ∃ (k : Nat) (r : Res) (fr : Int) (cv ev : Value), av = .int .i64 k ∧ k ≤ s.size + 1 ∧ r.steps ≤ fuel ∧ r.events.length ≤ r.steps ∧ SLoop w wr PB RB OB box r fr cv ev ∧ wr.heap[SB]? = some (.cells sbox TCs (0, 0)) ∧
    srch defs p s fuel take (s.size + 1 - k) k r fr = RES

set_option maxRecDepth 100000 in
set_option maxHeartbeats 2000000 in
theorem l20Search_open (least lo hi : Int) (defs : List Pat) (dA : Option Addr) (dc : Nat) (p : Pat) (kv : Value) (s : ByteArray) (fuel : Nat) (w : World) (hs : Smalls defs) (hp : Small p) (hd : RowIn w dA 0 defs) (hin : KidsIn w p kv) (hvd : validD defs p = true)
    (hss : s.size ≤ 120) (hfu : fuel ≤ 4000) (h0 : 0 ≤ least) (h1 : least ≤ 121) (RES : Res × Int) (hR : srch defs p s fuel (takeAt s least ⟨lo, hi, true⟩) (s.size + 1) 0 .none 0 = RES) :
    Calls Try.prog 48 #[.slice dA defs.length dc, p.v kv, .string s, .int .i64 fuel, .int .i64 least, .agg #[.int .i64 lo, .int .i64 hi], .bool true] w (MatchIs w RES.1 RES.2) := by
  obtain ⟨kA, kc, rfl, _, _⟩ := hin.form
  obtain ⟨hdok, hpv⟩ := validD_defs hvd hs
  have hlen := hdok.len
  have HD := Lib.hid hdok
  have HPV := Lib.hid hpv
  have HROW := Lib.hid hd
  have HIN := Lib.hid hin
  have HS := Lib.hid hs
  have HP := Lib.hid hp
  have HVD := Lib.hid hvd
  have HRES := Lib.hid hR
  clear hR hdok hpv hd hin hs hp hvd
  have i1 : (s.size : Int) ≤ 120 := by omega
  have i3 : (fuel : Int) ≤ 4000 := by omega
  go_enter Try.func48, Try.ntmps48
  go_wp2_with fail
  have HST := Lib.hid (sloop_start w #[.int .i64 p.op, .string p.text, .int .i64 p.num, .int .i64 p.lo, .int .i64 p.hi, .slice kA p.kids.length kc] #[.int .i64 lo, .int .i64 hi] TCs)
  have HSXS := Lib.hid (sloop_set w #[.int .i64 p.op, .string p.text, .int .i64 p.num, .int .i64 p.lo, .int .i64 p.hi, .slice kA p.kids.length kc] #[.int .i64 lo, .int .i64 hi] TCs)
  obtain ⟨RB, hRB⟩ : ∃ b, w.heap.size + 1 + 1 = b := ⟨_, rfl⟩
  obtain ⟨OB, hOB⟩ : ∃ b, RB + 1 = b := ⟨_, rfl⟩
  obtain ⟨SB, hSB⟩ : ∃ b, w.heap.size + 1 = b := ⟨_, rfl⟩
  obtain ⟨PB, hPB⟩ : ∃ b, w.heap.size = b := ⟨_, rfl⟩
  have hob : w.heap.size ≤ OB := by omega
  have hrb : w.heap.size ≤ RB := by omega
  have hRO : ¬ RB = OB := by omega
  have hOR : ¬ OB = RB := by omega
  have hPO : ¬ PB = OB := by omega
  have hSO : ¬ SB = OB := by omega
  have HST : Hid (SLoop w _ PB RB OB #[.int .i64 p.op, .string p.text, .int .i64 p.num, .int .i64 p.lo, .int .i64 p.hi, .slice kA p.kids.length kc] .none 0 (.slice none 0 0) (.slice none 0 0)) := Lib.hid (by have h := HST.out; rw [hRB, hOB, hPB] at h; exact h)
  have HSXS := Lib.hid (by have h := HSXS.out; rw [hSB] at h; exact h)
  have hSBlt : SB < RB := by omega
  rw [hRB, hOB, hSB, hPB]
  clear hRB hOB hSB hPB
  go_loopw [16] (fun av wr => LoopQ (takeAt s least ⟨lo, hi, true⟩) w PB SB RB OB #[.int .i64 p.op, .string p.text, .int .i64 p.num, .int .i64 p.lo, .int .i64 p.hi, .slice kA p.kids.length kc] #[.int .i64 lo, .int .i64 hi] defs p s fuel RES av wr) (fun av _ => s.size + 1 - (intOf av).toNat)
  case atStart => exact ⟨0, .none, 0, _, _, rfl, by omega, by simp [Res.none], by simp [Res.none], HST.out, HSXS.out, HRES.out⟩
  case round =>
    obtain ⟨k, r, fr, cv, ev, rfl, hk, hst, hes, hF, hsx, hsr⟩ := hrel
    obtain ⟨eA, ec, rfl, hec, _⟩ := hF.out.evs.form
    obtain ⟨cA, cc, rfl, _, _⟩ := hF.out.caps.form
    have HF := Lib.hid hF
    have HSX := Lib.hid hsx
    have HSR := Lib.hid hsr
    clear hF hsr HST HRES HSXS hsx
    have i5 : (r.steps : Int) ≤ fuel := by omega
    by_cases hlq : (k : Int) ≤ (s.size : Int) - least
    · have hle : k ≤ s.size := by omega
      have hle' : (k : Int) ≤ s.size := by omega
      have hlt1 : decide ((k : Int) ≤ (s.size : Int) - least) = true := by simpa using hlq
      have HTK : Hid (takeAt s least ⟨lo, hi, true⟩ k = true) := Lib.hid (by unfold takeAt; rw [decide_eq_true (by omega)]; rfl)
      go_wp2_with fail
      go_quiet (skip)
      have HSXq := Lib.hid (Later.has (below_drewN' (Below.refl wr.heap.size wr) nq) HSX.out)
      have HQ := Lib.hid (HF.out.later' (below_drewN' (Below.refl wr.heap.size wr) nq))
      obtain ⟨wq, hwq⟩ : ∃ wq, wr.drewN nq = wq := ⟨_, rfl⟩
      rw [hwq] at HQ HSXq ⊢
      clear hwq
      obtain ⟨p0, p1, p2, p3, p4, p5⟩ := cells_p HQ.out.pb
      obtain ⟨r0, r1, r2, r3, r4, r5, r6, r7⟩ := cells_r HQ.out.out.blk
      go_wp2_with fail
      refine (l20Match_z defs dA dc p _ s k (fuel - r.steps) _ HS.out HP.out (RowIn.later HQ.out.later _ _ _ HROW.out) (KidsIn.later HQ.out.later _ _ HIN.out) HVD.out hss hle (by omega) _ (by omega)).mono ?_
      clear p0 p1 p2 p3 p4 p5 r0 r1 r2 r3 r4 r5 r6 r7
      have hev := play_events HD.out hss (fuel - r.steps) 0 [⟨0, p, 0⟩] (.start k) (ok_start HPV.out HP.out hle)
      have hstep := play_steps (defs := defs) (s := s) (fuel - r.steps) 0 [⟨0, p, 0⟩] (.start k)
      obtain ⟨q2, hq2⟩ : ∃ q2, play defs s (fuel - r.steps) 0 [⟨0, p, 0⟩] (.start k) = q2 := ⟨_, rfl⟩
      have HSR := Lib.hid ((srch_step (q := r) (st := r.steps) (es := r.events) hle HTK.out hq2).symm.trans HSR.out)
      rw [hq2] at hev hstep ⊢
      clear hq2
      rintro e w2 ⟨cv2, xv2, rfl, hc2, hx2, ha2, hl2⟩
      obtain ⟨cA2, cc2, rfl, _, _⟩ := hc2.form
      obtain ⟨xA2, xc2, rfl, _, _⟩ := hx2.form
      have HC2 := Lib.hid hc2
      have HX2 := Lib.hid hx2
      have HA2 := Lib.hid ha2
      have H2 := Lib.hid (HQ.out.later' hl2)
      have HSX2 := Lib.hid (Later.has hl2 HSXq.out)
      clear hc2 hx2 ha2 hl2
      have i6 : (q2.steps : Int) + r.steps ≤ 4000 := by omega
      obtain ⟨r0, r1, r2, r3, r4, r5, r6, r7⟩ := cells_r H2.out.out.blk
      have hlt := has_lt H2.out.out.blk
      go_wp2_with fail
      clear r0 r1 r2 r3 r4 r5 r6 r7 hlt
      -- region 8: 9 operations, the last [6, 7, 8]
      refine wpU_begin [6, 7, 8] [] (by kernel_rfl) (fun w3 hw3 => ?_)
      obtain ⟨hl3, hN3⟩ := drew_alloc hw3
      have H3 := Lib.hid (H2.out.later' hl3)
      have HN3 := Lib.hid hN3
      have HX3 := Lib.hid (row_keep HX2.out (KeepT.later hl3))
      have HC3 := Lib.hid (row_keep HC2.out (KeepT.later hl3))
      have HSX3 := Lib.hid (Later.has hl3 HSX2.out)
      clear hw3 hl3 hN3
      refine wpU_take 1 (some 59) (v := ?_) rfl rfl (by kernel_rfl) (fun _ _ _ h => h) rfl (fun x hx => ?_) ?_
      rotate_left 1
      · go_simp; first | done | with_reducible rfl | rw [if_neg (by omega)] | rw [if_pos (by omega)]
      simp only [Act.put, List.setIfInBounds_toArray, List.set_cons_zero, List.set_cons_succ]
      refine wpU_take 2 (some 60) (v := ?_) rfl rfl (by kernel_rfl) (fun _ _ _ h => h) rfl (fun x hx => ?_) ?_
      rotate_left 1
      · obtain ⟨r0, r1, r2, r3, r4, r5, r6, r7⟩ := cells_r (hx.has H3.out.out.blk); obtain ⟨n0, n1, n2, n3, n4, n5, n6, n7⟩ := cells_r (hx.has HN3.out); go_simp; first | done | with_reducible rfl | rw [if_neg (by omega)] | rw [if_pos (by omega)]
      simp only [Act.put, List.setIfInBounds_toArray, List.set_cons_zero, List.set_cons_succ]
      refine wpU_take 4 (some 62) (v := ?_) rfl rfl (by kernel_rfl) (fun _ _ _ h => h) rfl (fun x hx => ?_) ?_
      rotate_left 1
      · go_simp; first | done | with_reducible rfl | rw [if_neg (by omega)] | rw [if_pos (by omega)]
      simp only [Act.put, List.setIfInBounds_toArray, List.set_cons_zero, List.set_cons_succ]
      refine wpU_take 5 (some 63) (v := ?_) rfl rfl (by kernel_rfl) (fun _ _ _ h => h) rfl (fun x hx => ?_) ?_
      rotate_left 1
      · obtain ⟨r0, r1, r2, r3, r4, r5, r6, r7⟩ := cells_r (hx.has H3.out.out.blk); obtain ⟨n0, n1, n2, n3, n4, n5, n6, n7⟩ := cells_r (hx.has HN3.out); go_simp; first | done | with_reducible rfl | rw [if_neg (by omega)] | rw [if_pos (by omega)]
      simp only [Act.put, List.setIfInBounds_toArray, List.set_cons_zero, List.set_cons_succ]
      refine wpU_step 0 (by kernel_rfl) rfl rfl ?_  -- buildSlice 
      go_wp2_with fail
      refine ⟨(Later.refl _).alloc _, ?_⟩
      refine wpU_step 3 (by kernel_rfl) rfl rfl ?_  -- call builtin Go.Builtin.append
      obtain ⟨i, hi, hz0, hz1, hz2⟩ := info_parts infoK
      refine wpList_append_fresh _ rfl _ _ _ rfl w3.heap.size w.heap.size TK i _ 3 24 Try.underlying31 hi hz0 hz1 hz2 rfl rfl (heap_alloc_new w3 _) (Nat.le_refl _) rfl ((H3.out.later' ((Later.refl w3).alloc _)).out.evs) (by omega) (by omega) ?_
      intro v' w5 hrow hl5 hown
      obtain ⟨vA, vc, rfl, _, _⟩ := hrow.form
      have HL5 := Lib.hid (((Later.refl w3).alloc _).trans hl5)
      have H5 := Lib.hid (H3.out.later' HL5.out)
      have HN5 := Lib.hid (HL5.out.has HN3.out)
      have HX5 := Lib.hid (row_keep HX3.out (KeepT.later HL5.out))
      have HC5 := Lib.hid (row_keep HC3.out (KeepT.later HL5.out))
      have HROW5 := Lib.hid hrow
      refine wpList_nil ⟨hl5, ?_⟩
      clear hrow hl5 hown hi hz0 hz1 hz2
      refine wpU_last [_, _, _] (by kernel_rfl) rfl rfl ?_
      simp only [List.getElem_toArray, List.getElem_cons_succ, List.getElem_cons_zero]
      obtain ⟨i, hi, hz0, hz1, hz2⟩ := info_parts infoK
      go_wp2_with (at_builtin; refine wpList_append_row _ rfl _ _ _ rfl w3.heap.size wq.heap.size TK i _ 3 24 Try.underlying31 hi hz0 hz1 hz2 rfl rfl HROW5.out rfl HX5.out (capCells_one _) ?a3 ?a4 (by omega) ?a5 ?_; fail_if_success done)
      case a3 => omega
      case a4 => omega
      case a5 => exact HL5.out.size
      intro v6 w6 hrow hgrow _
      have HL6 := Lib.hid (Below.grown HL5.out hgrow HL5.out.size (fun k hk => (HROW5.out.lt k hk).1))
      have H6 := Lib.hid (H3.out.later' HL6.out)
      have HSX6 := Lib.hid (Later.has HL6.out HSX3.out)
      have HN6 := Lib.hid (Later.has HL6.out HN3.out)
      have HC6 := Lib.hid (row_keep HC3.out (KeepT.later HL6.out))
      have HROW6 := Lib.hid hrow
      obtain ⟨vB, vd, rfl, _, _⟩ := hrow.form
      clear hrow hgrow hi hz0 hz1 hz2
      have hSN : ¬ SB = w2.heap.size := by have := has_lt HSX2.out; omega
      have hNO : ¬ w2.heap.size = OB := by have := has_lt H2.out.out.blk; omega
      have hON : ¬ OB = w2.heap.size := fun e => hNO e.symm
      have hNR : ¬ w2.heap.size = RB := by have := has_lt H2.out.rb; omega
      have hRN : ¬ RB = w2.heap.size := fun e => hNR e.symm
      obtain ⟨n0, n1, n2, n3, n4, n5, n6, n7⟩ := cells_r HN6.out
      obtain ⟨m0, m1, m2, m3, m4, m5, m6, m7⟩ := frozen_r HN6.out
      obtain ⟨r0, r1, r2, r3, r4, r5, r6, r7⟩ := cells_r H6.out.out.blk
      obtain ⟨f0, f1, f2, f3, f4, f5, f6, f7⟩ := frozen_r H6.out.out.blk
      obtain ⟨z0, z1, z2, z3, z4, z5, z6, z7⟩ := cells_r H6.out.rb
      obtain ⟨g0, g1, g2, g3, g4, g5, g6, g7⟩ := frozen_r H6.out.rb
      have HSZ1 := Lib.hid HQ.out.later.size
      have HSZ3 := Lib.hid H3.out.later.size
      have hsz2 := H2.out.later.size
      have hPN : ¬ PB = w2.heap.size := by have := has_lt H2.out.pb; omega
      have HAP : Hid ((Value.slice cA2 q2.caps.length cc2).ownBlock = none ∨ (Value.slice cA2 q2.caps.length cc2).ownBlock ≠ (Value.slice vB (r.events.length + q2.events.length) vd).ownBlock) := Lib.hid (by
        cases hc : (Value.slice cA2 q2.caps.length cc2).ownBlock with
        | none => exact .inl rfl
        | some a => exact .inr fun e => by have := (HC3.out.lt a hc).2.1; have := (HROW6.out.lt a e.symm).1; omega)
      cases hf : q2.found with
      | true =>
        rw [hf] at n0
        rw [if_pos (by simp [Res.ends, hf])] at HSR
        have HY : Hid (SLoop w (((((((((w6.setCell ⟨w2.heap.size, 7, none⟩ (.slice vB (r.events.length + q2.events.length) vd)).setCell ⟨OB, 0, none⟩ (.bool true)).setCell ⟨OB, 1, none⟩ (.bool q2.stopped)).setCell ⟨OB, 2, none⟩ (.bool q2.exhausted)).setCell ⟨OB, 3, none⟩ (.int .i64 (matchFrom q2 k))).setCell ⟨OB, 4, none⟩ (.int .i64 q2.at_)).setCell ⟨OB, 5, none⟩ (.int .i64 ((q2.steps : Int) + r.steps))).setCell ⟨OB, 6, none⟩ (.slice cA2 q2.caps.length cc2)).setCell ⟨OB, 7, none⟩ (.slice vB (r.events.length + q2.events.length) vd)) PB RB OB #[.int .i64 p.op, .string p.text, .int .i64 p.num, .int .i64 p.lo, .int .i64 p.hi, .slice kA p.kids.length kc] { q2 with steps := r.steps + q2.steps, events := r.events ++ q2.events } (matchFrom q2 k) (.slice cA2 q2.caps.length cc2) (.slice vB (r.events.length + q2.events.length) vd)) := Lib.hid (SLoop.put (NB := w2.heap.size) (r2 := { q2 with steps := r.steps + q2.steps, events := r.events ++ q2.events }) H6.out HN6.out HC6.out (by simpa [capCells_append] using HROW6.out) HSZ1.out HSZ3.out HAP.out hob hsz2 hPN hRN hON hPO hRO ((OnlyAt.refl _ _).set _ _) (((((((((OnlyAt.refl _ _).set _ _).set _ _).set _ _).set _ _).set _ _).set _ _).set _ _).set _ _) (by
          have hb := stored_blk (((((OnlyAt.refl _ _).set _ _) : OnlyAt w2.heap.size w6 (w6.setCell ⟨w2.heap.size, 7, none⟩ (.slice vB (r.events.length + q2.events.length) vd))).2 OB hON).trans H6.out.out.blk) (.bool true) (.bool q2.stopped) (.bool q2.exhausted) (.int .i64 (matchFrom q2 k)) (.int .i64 q2.at_) (.int .i64 ((q2.steps : Int) + r.steps)) (.slice cA2 q2.caps.length cc2) (.slice vB (r.events.length + q2.events.length) vd)
          simpa [hf, Int.add_comm] using hb))
        go_wp2_with fail
        refine bodyPost_ret (v := matchV { q2 with steps := r.steps + q2.steps, events := r.events ++ q2.events } (matchFrom q2 k) (.slice cA2 q2.caps.length cc2) (.slice vB (r.events.length + q2.events.length) vd)) (by simp [results, Try.results48, go_sem, r0, r1, r2, r3, r4, r5, r6, r7, z0, z1, z2, z3, z4, z5, z6, z7, hRO, hOR, hNR, hRN, hf, Int.add_comm]) rfl ?_
        obtain rfl := HSR.out
        exact HY.out.ret hrb (((((((((OnlyAt.refl _ _).set _ _).set _ _).set _ _).set _ _).set _ _).set _ _).set _ _).set _ _)
      | false =>
        cases hp : q2.stopped with
        | true =>
          rw [hf] at n0
          rw [hp] at n1
          rw [if_pos (by simp [Res.ends, hf, hp])] at HSR
          have HY : Hid (SLoop w (((((((((w6.setCell ⟨w2.heap.size, 7, none⟩ (.slice vB (r.events.length + q2.events.length) vd)).setCell ⟨OB, 0, none⟩ (.bool false)).setCell ⟨OB, 1, none⟩ (.bool true)).setCell ⟨OB, 2, none⟩ (.bool q2.exhausted)).setCell ⟨OB, 3, none⟩ (.int .i64 (matchFrom q2 k))).setCell ⟨OB, 4, none⟩ (.int .i64 q2.at_)).setCell ⟨OB, 5, none⟩ (.int .i64 ((q2.steps : Int) + r.steps))).setCell ⟨OB, 6, none⟩ (.slice cA2 q2.caps.length cc2)).setCell ⟨OB, 7, none⟩ (.slice vB (r.events.length + q2.events.length) vd)) PB RB OB #[.int .i64 p.op, .string p.text, .int .i64 p.num, .int .i64 p.lo, .int .i64 p.hi, .slice kA p.kids.length kc] { q2 with steps := r.steps + q2.steps, events := r.events ++ q2.events } (matchFrom q2 k) (.slice cA2 q2.caps.length cc2) (.slice vB (r.events.length + q2.events.length) vd)) := Lib.hid (SLoop.put (NB := w2.heap.size) (r2 := { q2 with steps := r.steps + q2.steps, events := r.events ++ q2.events }) H6.out HN6.out HC6.out (by simpa [capCells_append] using HROW6.out) HSZ1.out HSZ3.out HAP.out hob hsz2 hPN hRN hON hPO hRO ((OnlyAt.refl _ _).set _ _) (((((((((OnlyAt.refl _ _).set _ _).set _ _).set _ _).set _ _).set _ _).set _ _).set _ _).set _ _) (by
            have hb := stored_blk (((((OnlyAt.refl _ _).set _ _) : OnlyAt w2.heap.size w6 (w6.setCell ⟨w2.heap.size, 7, none⟩ (.slice vB (r.events.length + q2.events.length) vd))).2 OB hON).trans H6.out.out.blk) (.bool false) (.bool true) (.bool q2.exhausted) (.int .i64 (matchFrom q2 k)) (.int .i64 q2.at_) (.int .i64 ((q2.steps : Int) + r.steps)) (.slice cA2 q2.caps.length cc2) (.slice vB (r.events.length + q2.events.length) vd)
            simpa [hf, hp, Int.add_comm] using hb))
          go_wp2_with fail
          refine bodyPost_ret (v := matchV { q2 with steps := r.steps + q2.steps, events := r.events ++ q2.events } (matchFrom q2 k) (.slice cA2 q2.caps.length cc2) (.slice vB (r.events.length + q2.events.length) vd)) (by simp [results, Try.results48, go_sem, r0, r1, r2, r3, r4, r5, r6, r7, z0, z1, z2, z3, z4, z5, z6, z7, hRO, hOR, hNR, hRN, hf, hp, Int.add_comm]) rfl ?_
          obtain rfl := HSR.out
          exact HY.out.ret hrb (((((((((OnlyAt.refl _ _).set _ _).set _ _).set _ _).set _ _).set _ _).set _ _).set _ _).set _ _)
        | false =>
          cases hx : q2.exhausted with
          | true =>
            rw [hf] at n0
            rw [hp] at n1
            rw [hx] at n2
            rw [if_pos (by simp [Res.ends, hf, hp, hx])] at HSR
            have HY : Hid (SLoop w (((((((((w6.setCell ⟨w2.heap.size, 7, none⟩ (.slice vB (r.events.length + q2.events.length) vd)).setCell ⟨OB, 0, none⟩ (.bool false)).setCell ⟨OB, 1, none⟩ (.bool false)).setCell ⟨OB, 2, none⟩ (.bool true)).setCell ⟨OB, 3, none⟩ (.int .i64 (matchFrom q2 k))).setCell ⟨OB, 4, none⟩ (.int .i64 q2.at_)).setCell ⟨OB, 5, none⟩ (.int .i64 ((q2.steps : Int) + r.steps))).setCell ⟨OB, 6, none⟩ (.slice cA2 q2.caps.length cc2)).setCell ⟨OB, 7, none⟩ (.slice vB (r.events.length + q2.events.length) vd)) PB RB OB #[.int .i64 p.op, .string p.text, .int .i64 p.num, .int .i64 p.lo, .int .i64 p.hi, .slice kA p.kids.length kc] { q2 with steps := r.steps + q2.steps, events := r.events ++ q2.events } (matchFrom q2 k) (.slice cA2 q2.caps.length cc2) (.slice vB (r.events.length + q2.events.length) vd)) := Lib.hid (SLoop.put (NB := w2.heap.size) (r2 := { q2 with steps := r.steps + q2.steps, events := r.events ++ q2.events }) H6.out HN6.out HC6.out (by simpa [capCells_append] using HROW6.out) HSZ1.out HSZ3.out HAP.out hob hsz2 hPN hRN hON hPO hRO ((OnlyAt.refl _ _).set _ _) (((((((((OnlyAt.refl _ _).set _ _).set _ _).set _ _).set _ _).set _ _).set _ _).set _ _).set _ _) (by
              have hb := stored_blk (((((OnlyAt.refl _ _).set _ _) : OnlyAt w2.heap.size w6 (w6.setCell ⟨w2.heap.size, 7, none⟩ (.slice vB (r.events.length + q2.events.length) vd))).2 OB hON).trans H6.out.out.blk) (.bool false) (.bool false) (.bool true) (.int .i64 (matchFrom q2 k)) (.int .i64 q2.at_) (.int .i64 ((q2.steps : Int) + r.steps)) (.slice cA2 q2.caps.length cc2) (.slice vB (r.events.length + q2.events.length) vd)
              simpa [hf, hp, hx, Int.add_comm] using hb))
            go_wp2_with fail
            refine bodyPost_ret (v := matchV { q2 with steps := r.steps + q2.steps, events := r.events ++ q2.events } (matchFrom q2 k) (.slice cA2 q2.caps.length cc2) (.slice vB (r.events.length + q2.events.length) vd)) (by simp [results, Try.results48, go_sem, r0, r1, r2, r3, r4, r5, r6, r7, z0, z1, z2, z3, z4, z5, z6, z7, hRO, hOR, hNR, hRN, hf, hp, hx, Int.add_comm]) rfl ?_
            obtain rfl := HSR.out
            exact HY.out.ret hrb (((((((((OnlyAt.refl _ _).set _ _).set _ _).set _ _).set _ _).set _ _).set _ _).set _ _).set _ _)
          | false =>
            rw [hf] at n0
            rw [hp] at n1
            rw [hx] at n2
            rw [if_neg (by simp [Res.ends, hf, hp, hx])] at HSR
            have HY : Hid (SLoop w (((((((((w6.setCell ⟨w2.heap.size, 7, none⟩ (.slice vB (r.events.length + q2.events.length) vd)).setCell ⟨OB, 0, none⟩ (.bool false)).setCell ⟨OB, 1, none⟩ (.bool false)).setCell ⟨OB, 2, none⟩ (.bool false)).setCell ⟨OB, 3, none⟩ (.int .i64 (matchFrom q2 k))).setCell ⟨OB, 4, none⟩ (.int .i64 q2.at_)).setCell ⟨OB, 5, none⟩ (.int .i64 ((q2.steps : Int) + r.steps))).setCell ⟨OB, 6, none⟩ (.slice cA2 q2.caps.length cc2)).setCell ⟨OB, 7, none⟩ (.slice vB (r.events.length + q2.events.length) vd)) PB RB OB #[.int .i64 p.op, .string p.text, .int .i64 p.num, .int .i64 p.lo, .int .i64 p.hi, .slice kA p.kids.length kc] { q2 with steps := r.steps + q2.steps, events := r.events ++ q2.events } (matchFrom q2 k) (.slice cA2 q2.caps.length cc2) (.slice vB (r.events.length + q2.events.length) vd)) := Lib.hid (SLoop.put (NB := w2.heap.size) (r2 := { q2 with steps := r.steps + q2.steps, events := r.events ++ q2.events }) H6.out HN6.out HC6.out (by simpa [capCells_append] using HROW6.out) HSZ1.out HSZ3.out HAP.out hob hsz2 hPN hRN hON hPO hRO ((OnlyAt.refl _ _).set _ _) (((((((((OnlyAt.refl _ _).set _ _).set _ _).set _ _).set _ _).set _ _).set _ _).set _ _).set _ _) (by
              have hb := stored_blk (((((OnlyAt.refl _ _).set _ _) : OnlyAt w2.heap.size w6 (w6.setCell ⟨w2.heap.size, 7, none⟩ (.slice vB (r.events.length + q2.events.length) vd))).2 OB hON).trans H6.out.out.blk) (.bool false) (.bool false) (.bool false) (.int .i64 (matchFrom q2 k)) (.int .i64 q2.at_) (.int .i64 ((q2.steps : Int) + r.steps)) (.slice cA2 q2.caps.length cc2) (.slice vB (r.events.length + q2.events.length) vd)
              simpa [hf, hp, hx, Int.add_comm] using hb))
            go_wp2_with fail
            go_roundw
            case rel => exact ⟨k + 1, { q2 with steps := r.steps + q2.steps, events := r.events ++ q2.events }, matchFrom q2 k, _, _, by go_num, by omega, by simp; omega, by simp; omega, HY.out, keep_two ((OnlyAt.refl _ _).set _ _) (((((((((OnlyAt.refl _ _).set _ _).set _ _).set _ _).set _ _).set _ _).set _ _).set _ _).set _ _) hSN hSO HSX6.out, HSR.out⟩
            case measure => simp [intOf]; omega
    · skip
      have hgt : (s.size : Int) - least < k := by omega
      have hgt1 : decide ((k : Int) ≤ (s.size : Int) - least) = false := by simp; omega
      rw [srch_none _ _ _ _ (fun j hj => takeAt_past hgt j hj)] at HSR
      obtain ⟨r0, r1, r2, r3, r4, r5, r6, r7⟩ := cells_r HF.out.out.blk
      obtain ⟨f0, f1, f2, f3, f4, f5, f6, f7⟩ := frozen_r HF.out.out.blk
      obtain ⟨z0, z1, z2, z3, z4, z5, z6, z7⟩ := cells_r HF.out.rb
      obtain ⟨g0, g1, g2, g3, g4, g5, g6, g7⟩ := frozen_r HF.out.rb
      go_wp2_with fail
      refine bodyPost_ret (v := matchV r fr (.slice cA r.caps.length cc) (.slice eA r.events.length ec)) (by simp [results, Try.results48, go_sem, r0, r1, r2, r3, r4, r5, r6, r7, z0, z1, z2, z3, z4, z5, z6, z7, hRO, hOR]) rfl ?_
      obtain rfl := HSR.out
      exact HF.out.ret hrb (((((((((OnlyAt.refl _ _).set _ _).set _ _).set _ _).set _ _).set _ _).set _ _).set _ _).set _ _)


set_option maxRecDepth 100000 in
set_option maxHeartbeats 2000000 in
theorem l20Search_shut (least lo hi : Int) (defs : List Pat) (dA : Option Addr) (dc : Nat) (p : Pat) (kv : Value) (s : ByteArray) (fuel : Nat) (w : World) (hs : Smalls defs) (hp : Small p) (hd : RowIn w dA 0 defs) (hin : KidsIn w p kv) (hvd : validD defs p = true)
    (hss : s.size ≤ 120) (hfu : fuel ≤ 4000) (h0 : 0 ≤ least) (h1 : least ≤ 121) (RES : Res × Int) (hR : srch defs p s fuel (takeAt s least ⟨lo, hi, false⟩) (s.size + 1) 0 .none 0 = RES) :
    Calls Try.prog 48 #[.slice dA defs.length dc, p.v kv, .string s, .int .i64 fuel, .int .i64 least, .agg #[.int .i64 lo, .int .i64 hi], .bool false] w (MatchIs w RES.1 RES.2) := by
  obtain ⟨kA, kc, rfl, _, _⟩ := hin.form
  obtain ⟨hdok, hpv⟩ := validD_defs hvd hs
  have hlen := hdok.len
  have HD := Lib.hid hdok
  have HPV := Lib.hid hpv
  have HROW := Lib.hid hd
  have HIN := Lib.hid hin
  have HS := Lib.hid hs
  have HP := Lib.hid hp
  have HVD := Lib.hid hvd
  have HRES := Lib.hid hR
  clear hR hdok hpv hd hin hs hp hvd
  have i1 : (s.size : Int) ≤ 120 := by omega
  have i3 : (fuel : Int) ≤ 4000 := by omega
  go_enter Try.func48, Try.ntmps48
  go_wp2_with fail
  have HST := Lib.hid (sloop_start w #[.int .i64 p.op, .string p.text, .int .i64 p.num, .int .i64 p.lo, .int .i64 p.hi, .slice kA p.kids.length kc] #[.int .i64 lo, .int .i64 hi] TCs)
  have HSXS := Lib.hid (sloop_set w #[.int .i64 p.op, .string p.text, .int .i64 p.num, .int .i64 p.lo, .int .i64 p.hi, .slice kA p.kids.length kc] #[.int .i64 lo, .int .i64 hi] TCs)
  obtain ⟨RB, hRB⟩ : ∃ b, w.heap.size + 1 + 1 = b := ⟨_, rfl⟩
  obtain ⟨OB, hOB⟩ : ∃ b, RB + 1 = b := ⟨_, rfl⟩
  obtain ⟨SB, hSB⟩ : ∃ b, w.heap.size + 1 = b := ⟨_, rfl⟩
  obtain ⟨PB, hPB⟩ : ∃ b, w.heap.size = b := ⟨_, rfl⟩
  have hob : w.heap.size ≤ OB := by omega
  have hrb : w.heap.size ≤ RB := by omega
  have hRO : ¬ RB = OB := by omega
  have hOR : ¬ OB = RB := by omega
  have hPO : ¬ PB = OB := by omega
  have hSO : ¬ SB = OB := by omega
  have HST : Hid (SLoop w _ PB RB OB #[.int .i64 p.op, .string p.text, .int .i64 p.num, .int .i64 p.lo, .int .i64 p.hi, .slice kA p.kids.length kc] .none 0 (.slice none 0 0) (.slice none 0 0)) := Lib.hid (by have h := HST.out; rw [hRB, hOB, hPB] at h; exact h)
  have HSXS := Lib.hid (by have h := HSXS.out; rw [hSB] at h; exact h)
  have hSBlt : SB < RB := by omega
  rw [hRB, hOB, hSB, hPB]
  clear hRB hOB hSB hPB
  go_loopw [16] (fun av wr => LoopQ (takeAt s least ⟨lo, hi, false⟩) w PB SB RB OB #[.int .i64 p.op, .string p.text, .int .i64 p.num, .int .i64 p.lo, .int .i64 p.hi, .slice kA p.kids.length kc] #[.int .i64 lo, .int .i64 hi] defs p s fuel RES av wr) (fun av _ => s.size + 1 - (intOf av).toNat)
  case atStart => exact ⟨0, .none, 0, _, _, rfl, by omega, by simp [Res.none], by simp [Res.none], HST.out, HSXS.out, HRES.out⟩
  case round =>
    obtain ⟨k, r, fr, cv, ev, rfl, hk, hst, hes, hF, hsx, hsr⟩ := hrel
    obtain ⟨eA, ec, rfl, hec, _⟩ := hF.out.evs.form
    obtain ⟨cA, cc, rfl, _, _⟩ := hF.out.caps.form
    have HF := Lib.hid hF
    have HSX := Lib.hid hsx
    have HSR := Lib.hid hsr
    clear hF hsr HST HRES HSXS hsx
    have i5 : (r.steps : Int) ≤ fuel := by omega
    by_cases hlq : (k : Int) ≤ (s.size : Int) - least
    · have hle : k ≤ s.size := by omega
      have hle' : (k : Int) ≤ s.size := by omega
      have hlt1 : decide ((k : Int) ≤ (s.size : Int) - least) = true := by simpa using hlq
      by_cases hlt : k < s.size
      · have t2 : decide (s.size ≤ k) = false := by simp; omega
        have t3 : decide ((s.size : Int) ≤ k) = false := by simp; omega
        have t4 := byteAt_u8 s k hlt
        have hlt' : (k : Int) < s.size := by omega
        obtain ⟨hb0, hb1⟩ := byteAt_bd s k
        cases hhb : hb lo hi (byteAt s k) with
        | false =>
          have HHB := Lib.hid hhb
          have HTK : Hid (takeAt s least ⟨lo, hi, false⟩ k = false) := Lib.hid (by unfold takeAt; rw [hhb]; simp)
          clear hhb
          go_wp2_with fail
          -- region 5: 16 operations, the last []
          refine wpU_begin [] [] (by kernel_rfl) (fun w1 hw1 => ?_)
          have hl1 := drew_later hw1
          have H1 := Lib.hid (HF.out.later' hl1)
          have HSX1 := Lib.hid (Later.has hl1 HSX.out)
          clear hw1 hl1
          refine wpU_take 0 (some 27) (v := ?_) rfl rfl (by kernel_rfl) (fun _ _ _ h => h) rfl (fun x hx => ?_) ?_
          rotate_left 1
          · go_simp; first | done | with_reducible rfl | rw [if_neg (by omega)] | rw [if_pos (by omega)]
          simp only [Act.put, List.setIfInBounds_toArray, List.set_cons_zero, List.set_cons_succ]
          refine wpU_take 1 (some 28) (v := ?_) rfl rfl (by kernel_rfl) (fun _ _ _ h => h) rfl (fun x hx => ?_) ?_
          rotate_left 1
          · go_simp; first | done | with_reducible rfl | rw [if_neg (by omega)] | rw [if_pos (by omega)]
          simp only [Act.put, List.setIfInBounds_toArray, List.set_cons_zero, List.set_cons_succ]
          refine wpU_take 2 (some 29) (v := ?_) rfl rfl (by kernel_rfl) (fun _ _ _ h => h) rfl (fun x hx => ?_) ?_
          rotate_left 1
          · go_simp; first | done | with_reducible rfl | rw [if_neg (by omega)] | rw [if_pos (by omega)]
          simp only [Act.put, List.setIfInBounds_toArray, List.set_cons_zero, List.set_cons_succ]
          refine wpU_take 3 (some 30) (v := ?_) rfl rfl (by kernel_rfl) (fun _ _ _ h => h) rfl (fun x hx => ?_) ?_
          rotate_left 1
          · go_simp; first | done | with_reducible rfl | rw [if_neg (by omega)] | rw [if_pos (by omega)]
          simp only [Act.put, List.setIfInBounds_toArray, List.set_cons_zero, List.set_cons_succ]
          refine wpU_take 4 (some 31) (v := ?_) rfl rfl (by kernel_rfl) (fun _ _ _ h => h) rfl (fun x hx => ?_) ?_
          rotate_left 1
          · go_simp; first | done | with_reducible rfl | rw [if_neg (by omega)] | rw [if_pos (by omega)]
          simp only [Act.put, List.setIfInBounds_toArray, List.set_cons_zero, List.set_cons_succ]
          refine wpU_take 5 (some 32) (v := ?_) rfl rfl (by kernel_rfl) (fun _ _ _ h => h) rfl (fun x hx => ?_) ?_
          rotate_left 1
          · go_simp; first | done | with_reducible rfl | rw [if_neg (by omega)] | rw [if_pos (by omega)]
          simp only [Act.put, List.setIfInBounds_toArray, List.set_cons_zero, List.set_cons_succ]
          refine wpU_take 6 (some 33) (v := ?_) rfl rfl (by kernel_rfl) (fun _ _ _ h => h) rfl (fun x hx => ?_) ?_
          rotate_left 1
          · go_simp; first | done | with_reducible rfl | rw [if_neg (by omega)] | rw [if_pos (by omega)]
          simp only [Act.put, List.setIfInBounds_toArray, List.set_cons_zero, List.set_cons_succ]
          refine wpU_take 7 (some 34) (v := ?_) rfl rfl (by kernel_rfl) (fun _ _ _ h => h) rfl (fun x hx => ?_) ?_
          rotate_left 1
          · go_simp; first | done | with_reducible rfl | rw [if_neg (by omega)] | rw [if_pos (by omega)]
          simp only [Act.put, List.setIfInBounds_toArray, List.set_cons_zero, List.set_cons_succ]
          refine wpU_take 8 (some 35) (v := ?_) rfl rfl (by kernel_rfl) (fun _ _ _ h => h) rfl (fun x hx => ?_) ?_
          rotate_left 1
          · obtain ⟨c0, c1⟩ := cells_cs (hx.has HSX1.out); go_simp; first | done | with_reducible rfl | rw [if_neg (by omega)] | rw [if_pos (by omega)]
          simp only [Act.put, List.setIfInBounds_toArray, List.set_cons_zero, List.set_cons_succ]
          refine wpU_take 9 (some 36) (v := ?_) rfl rfl (by kernel_rfl) (fun _ _ _ h => h) rfl (fun x hx => ?_) ?_
          rotate_left 1
          · go_simp; first | done | with_reducible rfl | rw [if_neg (by omega)] | rw [if_pos (by omega)]
          simp only [Act.put, List.setIfInBounds_toArray, List.set_cons_zero, List.set_cons_succ]
          refine wpU_take 10 (some 37) (v := ?_) rfl rfl (by kernel_rfl) (fun _ _ _ h => h) rfl (fun x hx => ?_) ?_
          rotate_left 1
          · go_simp; first | done | with_reducible rfl | rw [if_neg (by omega)] | rw [if_pos (by omega)]
          simp only [Act.put, List.setIfInBounds_toArray, List.set_cons_zero, List.set_cons_succ]
          refine wpU_take 11 (some 38) (v := ?_) rfl rfl (by kernel_rfl) (fun _ _ _ h => h) rfl (fun x hx => ?_) ?_
          rotate_left 1
          · go_simp; first | done | with_reducible rfl | rw [if_neg (by omega)] | rw [if_pos (by omega)]
          simp only [Act.put, List.setIfInBounds_toArray, List.set_cons_zero, List.set_cons_succ]
          refine wpU_step 12 (by kernel_rfl) rfl rfl ?_  -- call value (Go.Operand.func 73)
          go_wp2_with fail
          refine (specHasByte_any lo hi (byteAt s k) _ hb0 hb1).mono ?_
          rw [HHB.out]
          rintro e wq ⟨rfl, hbq⟩
          go_wp2_with fail
          refine ⟨hbq, ?_⟩
          have HQ := Lib.hid (H1.out.later' hbq)
          have HSXq := Lib.hid (Later.has hbq HSX1.out)
          clear hbq
          refine wpU_take 13 (some 40) (v := ?_) rfl rfl (by kernel_rfl) (fun _ _ _ h => h) rfl (fun x hx => ?_) ?_
          rotate_left 1
          · go_simp; first | done | with_reducible rfl | rw [if_neg (by omega)] | rw [if_pos (by omega)]
          simp only [Act.put, List.setIfInBounds_toArray, List.set_cons_zero, List.set_cons_succ]
          refine wpU_take 14 (some 41) (v := ?_) rfl rfl (by kernel_rfl) (fun _ _ _ h => h) rfl (fun x hx => ?_) ?_
          rotate_left 1
          · go_simp; first | done | with_reducible rfl | rw [if_neg (by omega)] | rw [if_pos (by omega)]
          simp only [Act.put, List.setIfInBounds_toArray, List.set_cons_zero, List.set_cons_succ]
          refine wpU_take 15 (some 42) (v := ?_) rfl rfl (by kernel_rfl) (fun _ _ _ h => h) rfl (fun x hx => ?_) ?_
          rotate_left 1
          · go_simp; first | done | with_reducible rfl | rw [if_neg (by omega)] | rw [if_pos (by omega)]
          simp only [Act.put, List.setIfInBounds_toArray, List.set_cons_zero, List.set_cons_succ]
          refine wpU_last [] (by kernel_rfl) rfl rfl ?_
          go_wp2_with fail
          go_roundw
          case rel => exact ⟨k + 1, r, fr, _, _, by go_num, by omega, by omega, by omega, HQ.out, HSXq.out, (srch_skip hle HTK.out).symm.trans HSR.out⟩
          case measure => simp [intOf]; omega
        | true =>
          have HHB := Lib.hid hhb
          have HTK : Hid (takeAt s least ⟨lo, hi, false⟩ k = true) := Lib.hid (by unfold takeAt; rw [hhb, decide_eq_true (by omega), decide_eq_true hlt]; rfl)
          clear hhb
          go_wp2_with fail
          -- region 5: 16 operations, the last []
          refine wpU_begin [] [] (by kernel_rfl) (fun w1 hw1 => ?_)
          have hl1 := drew_later hw1
          have H1 := Lib.hid (HF.out.later' hl1)
          have HSX1 := Lib.hid (Later.has hl1 HSX.out)
          clear hw1 hl1
          refine wpU_take 0 (some 27) (v := ?_) rfl rfl (by kernel_rfl) (fun _ _ _ h => h) rfl (fun x hx => ?_) ?_
          rotate_left 1
          · go_simp; first | done | with_reducible rfl | rw [if_neg (by omega)] | rw [if_pos (by omega)]
          simp only [Act.put, List.setIfInBounds_toArray, List.set_cons_zero, List.set_cons_succ]
          refine wpU_take 1 (some 28) (v := ?_) rfl rfl (by kernel_rfl) (fun _ _ _ h => h) rfl (fun x hx => ?_) ?_
          rotate_left 1
          · go_simp; first | done | with_reducible rfl | rw [if_neg (by omega)] | rw [if_pos (by omega)]
          simp only [Act.put, List.setIfInBounds_toArray, List.set_cons_zero, List.set_cons_succ]
          refine wpU_take 2 (some 29) (v := ?_) rfl rfl (by kernel_rfl) (fun _ _ _ h => h) rfl (fun x hx => ?_) ?_
          rotate_left 1
          · go_simp; first | done | with_reducible rfl | rw [if_neg (by omega)] | rw [if_pos (by omega)]
          simp only [Act.put, List.setIfInBounds_toArray, List.set_cons_zero, List.set_cons_succ]
          refine wpU_take 3 (some 30) (v := ?_) rfl rfl (by kernel_rfl) (fun _ _ _ h => h) rfl (fun x hx => ?_) ?_
          rotate_left 1
          · go_simp; first | done | with_reducible rfl | rw [if_neg (by omega)] | rw [if_pos (by omega)]
          simp only [Act.put, List.setIfInBounds_toArray, List.set_cons_zero, List.set_cons_succ]
          refine wpU_take 4 (some 31) (v := ?_) rfl rfl (by kernel_rfl) (fun _ _ _ h => h) rfl (fun x hx => ?_) ?_
          rotate_left 1
          · go_simp; first | done | with_reducible rfl | rw [if_neg (by omega)] | rw [if_pos (by omega)]
          simp only [Act.put, List.setIfInBounds_toArray, List.set_cons_zero, List.set_cons_succ]
          refine wpU_take 5 (some 32) (v := ?_) rfl rfl (by kernel_rfl) (fun _ _ _ h => h) rfl (fun x hx => ?_) ?_
          rotate_left 1
          · go_simp; first | done | with_reducible rfl | rw [if_neg (by omega)] | rw [if_pos (by omega)]
          simp only [Act.put, List.setIfInBounds_toArray, List.set_cons_zero, List.set_cons_succ]
          refine wpU_take 6 (some 33) (v := ?_) rfl rfl (by kernel_rfl) (fun _ _ _ h => h) rfl (fun x hx => ?_) ?_
          rotate_left 1
          · go_simp; first | done | with_reducible rfl | rw [if_neg (by omega)] | rw [if_pos (by omega)]
          simp only [Act.put, List.setIfInBounds_toArray, List.set_cons_zero, List.set_cons_succ]
          refine wpU_take 7 (some 34) (v := ?_) rfl rfl (by kernel_rfl) (fun _ _ _ h => h) rfl (fun x hx => ?_) ?_
          rotate_left 1
          · go_simp; first | done | with_reducible rfl | rw [if_neg (by omega)] | rw [if_pos (by omega)]
          simp only [Act.put, List.setIfInBounds_toArray, List.set_cons_zero, List.set_cons_succ]
          refine wpU_take 8 (some 35) (v := ?_) rfl rfl (by kernel_rfl) (fun _ _ _ h => h) rfl (fun x hx => ?_) ?_
          rotate_left 1
          · obtain ⟨c0, c1⟩ := cells_cs (hx.has HSX1.out); go_simp; first | done | with_reducible rfl | rw [if_neg (by omega)] | rw [if_pos (by omega)]
          simp only [Act.put, List.setIfInBounds_toArray, List.set_cons_zero, List.set_cons_succ]
          refine wpU_take 9 (some 36) (v := ?_) rfl rfl (by kernel_rfl) (fun _ _ _ h => h) rfl (fun x hx => ?_) ?_
          rotate_left 1
          · go_simp; first | done | with_reducible rfl | rw [if_neg (by omega)] | rw [if_pos (by omega)]
          simp only [Act.put, List.setIfInBounds_toArray, List.set_cons_zero, List.set_cons_succ]
          refine wpU_take 10 (some 37) (v := ?_) rfl rfl (by kernel_rfl) (fun _ _ _ h => h) rfl (fun x hx => ?_) ?_
          rotate_left 1
          · go_simp; first | done | with_reducible rfl | rw [if_neg (by omega)] | rw [if_pos (by omega)]
          simp only [Act.put, List.setIfInBounds_toArray, List.set_cons_zero, List.set_cons_succ]
          refine wpU_take 11 (some 38) (v := ?_) rfl rfl (by kernel_rfl) (fun _ _ _ h => h) rfl (fun x hx => ?_) ?_
          rotate_left 1
          · go_simp; first | done | with_reducible rfl | rw [if_neg (by omega)] | rw [if_pos (by omega)]
          simp only [Act.put, List.setIfInBounds_toArray, List.set_cons_zero, List.set_cons_succ]
          refine wpU_step 12 (by kernel_rfl) rfl rfl ?_  -- call value (Go.Operand.func 73)
          go_wp2_with fail
          refine (specHasByte_any lo hi (byteAt s k) _ hb0 hb1).mono ?_
          rw [HHB.out]
          rintro e wq ⟨rfl, hbq⟩
          go_wp2_with fail
          refine ⟨hbq, ?_⟩
          have HQ := Lib.hid (H1.out.later' hbq)
          have HSXq := Lib.hid (Later.has hbq HSX1.out)
          clear hbq
          refine wpU_take 13 (some 40) (v := ?_) rfl rfl (by kernel_rfl) (fun _ _ _ h => h) rfl (fun x hx => ?_) ?_
          rotate_left 1
          · go_simp; first | done | with_reducible rfl | rw [if_neg (by omega)] | rw [if_pos (by omega)]
          simp only [Act.put, List.setIfInBounds_toArray, List.set_cons_zero, List.set_cons_succ]
          refine wpU_take 14 (some 41) (v := ?_) rfl rfl (by kernel_rfl) (fun _ _ _ h => h) rfl (fun x hx => ?_) ?_
          rotate_left 1
          · go_simp; first | done | with_reducible rfl | rw [if_neg (by omega)] | rw [if_pos (by omega)]
          simp only [Act.put, List.setIfInBounds_toArray, List.set_cons_zero, List.set_cons_succ]
          refine wpU_take 15 (some 42) (v := ?_) rfl rfl (by kernel_rfl) (fun _ _ _ h => h) rfl (fun x hx => ?_) ?_
          rotate_left 1
          · go_simp; first | done | with_reducible rfl | rw [if_neg (by omega)] | rw [if_pos (by omega)]
          simp only [Act.put, List.setIfInBounds_toArray, List.set_cons_zero, List.set_cons_succ]
          refine wpU_last [] (by kernel_rfl) rfl rfl ?_
          clear t2 t3 t4 hb0 hb1
          obtain ⟨p0, p1, p2, p3, p4, p5⟩ := cells_p HQ.out.pb
          obtain ⟨r0, r1, r2, r3, r4, r5, r6, r7⟩ := cells_r HQ.out.out.blk
          go_wp2_with fail
          refine (l20Match_z defs dA dc p _ s k (fuel - r.steps) _ HS.out HP.out (RowIn.later HQ.out.later _ _ _ HROW.out) (KidsIn.later HQ.out.later _ _ HIN.out) HVD.out hss hle (by omega) _ (by omega)).mono ?_
          clear p0 p1 p2 p3 p4 p5 r0 r1 r2 r3 r4 r5 r6 r7
          have hev := play_events HD.out hss (fuel - r.steps) 0 [⟨0, p, 0⟩] (.start k) (ok_start HPV.out HP.out hle)
          have hstep := play_steps (defs := defs) (s := s) (fuel - r.steps) 0 [⟨0, p, 0⟩] (.start k)
          obtain ⟨q2, hq2⟩ : ∃ q2, play defs s (fuel - r.steps) 0 [⟨0, p, 0⟩] (.start k) = q2 := ⟨_, rfl⟩
          have HSR := Lib.hid ((srch_step (q := r) (st := r.steps) (es := r.events) hle HTK.out hq2).symm.trans HSR.out)
          rw [hq2] at hev hstep ⊢
          clear hq2
          rintro e w2 ⟨cv2, xv2, rfl, hc2, hx2, ha2, hl2⟩
          obtain ⟨cA2, cc2, rfl, _, _⟩ := hc2.form
          obtain ⟨xA2, xc2, rfl, _, _⟩ := hx2.form
          have HC2 := Lib.hid hc2
          have HX2 := Lib.hid hx2
          have HA2 := Lib.hid ha2
          have H2 := Lib.hid (HQ.out.later' hl2)
          have HSX2 := Lib.hid (Later.has hl2 HSXq.out)
          clear hc2 hx2 ha2 hl2
          have i6 : (q2.steps : Int) + r.steps ≤ 4000 := by omega
          obtain ⟨r0, r1, r2, r3, r4, r5, r6, r7⟩ := cells_r H2.out.out.blk
          have hlt := has_lt H2.out.out.blk
          go_wp2_with fail
          clear r0 r1 r2 r3 r4 r5 r6 r7 hlt
          -- region 8: 9 operations, the last [6, 7, 8]
          refine wpU_begin [6, 7, 8] [] (by kernel_rfl) (fun w3 hw3 => ?_)
          obtain ⟨hl3, hN3⟩ := drew_alloc hw3
          have H3 := Lib.hid (H2.out.later' hl3)
          have HN3 := Lib.hid hN3
          have HX3 := Lib.hid (row_keep HX2.out (KeepT.later hl3))
          have HC3 := Lib.hid (row_keep HC2.out (KeepT.later hl3))
          have HSX3 := Lib.hid (Later.has hl3 HSX2.out)
          clear hw3 hl3 hN3
          refine wpU_take 1 (some 59) (v := ?_) rfl rfl (by kernel_rfl) (fun _ _ _ h => h) rfl (fun x hx => ?_) ?_
          rotate_left 1
          · go_simp; first | done | with_reducible rfl | rw [if_neg (by omega)] | rw [if_pos (by omega)]
          simp only [Act.put, List.setIfInBounds_toArray, List.set_cons_zero, List.set_cons_succ]
          refine wpU_take 2 (some 60) (v := ?_) rfl rfl (by kernel_rfl) (fun _ _ _ h => h) rfl (fun x hx => ?_) ?_
          rotate_left 1
          · obtain ⟨r0, r1, r2, r3, r4, r5, r6, r7⟩ := cells_r (hx.has H3.out.out.blk); obtain ⟨n0, n1, n2, n3, n4, n5, n6, n7⟩ := cells_r (hx.has HN3.out); go_simp; first | done | with_reducible rfl | rw [if_neg (by omega)] | rw [if_pos (by omega)]
          simp only [Act.put, List.setIfInBounds_toArray, List.set_cons_zero, List.set_cons_succ]
          refine wpU_take 4 (some 62) (v := ?_) rfl rfl (by kernel_rfl) (fun _ _ _ h => h) rfl (fun x hx => ?_) ?_
          rotate_left 1
          · go_simp; first | done | with_reducible rfl | rw [if_neg (by omega)] | rw [if_pos (by omega)]
          simp only [Act.put, List.setIfInBounds_toArray, List.set_cons_zero, List.set_cons_succ]
          refine wpU_take 5 (some 63) (v := ?_) rfl rfl (by kernel_rfl) (fun _ _ _ h => h) rfl (fun x hx => ?_) ?_
          rotate_left 1
          · obtain ⟨r0, r1, r2, r3, r4, r5, r6, r7⟩ := cells_r (hx.has H3.out.out.blk); obtain ⟨n0, n1, n2, n3, n4, n5, n6, n7⟩ := cells_r (hx.has HN3.out); go_simp; first | done | with_reducible rfl | rw [if_neg (by omega)] | rw [if_pos (by omega)]
          simp only [Act.put, List.setIfInBounds_toArray, List.set_cons_zero, List.set_cons_succ]
          refine wpU_step 0 (by kernel_rfl) rfl rfl ?_  -- buildSlice 
          go_wp2_with fail
          refine ⟨(Later.refl _).alloc _, ?_⟩
          refine wpU_step 3 (by kernel_rfl) rfl rfl ?_  -- call builtin Go.Builtin.append
          obtain ⟨i, hi, hz0, hz1, hz2⟩ := info_parts infoK
          refine wpList_append_fresh _ rfl _ _ _ rfl w3.heap.size w.heap.size TK i _ 3 24 Try.underlying31 hi hz0 hz1 hz2 rfl rfl (heap_alloc_new w3 _) (Nat.le_refl _) rfl ((H3.out.later' ((Later.refl w3).alloc _)).out.evs) (by omega) (by omega) ?_
          intro v' w5 hrow hl5 hown
          obtain ⟨vA, vc, rfl, _, _⟩ := hrow.form
          have HL5 := Lib.hid (((Later.refl w3).alloc _).trans hl5)
          have H5 := Lib.hid (H3.out.later' HL5.out)
          have HN5 := Lib.hid (HL5.out.has HN3.out)
          have HX5 := Lib.hid (row_keep HX3.out (KeepT.later HL5.out))
          have HC5 := Lib.hid (row_keep HC3.out (KeepT.later HL5.out))
          have HROW5 := Lib.hid hrow
          refine wpList_nil ⟨hl5, ?_⟩
          clear hrow hl5 hown hi hz0 hz1 hz2
          refine wpU_last [_, _, _] (by kernel_rfl) rfl rfl ?_
          simp only [List.getElem_toArray, List.getElem_cons_succ, List.getElem_cons_zero]
          obtain ⟨i, hi, hz0, hz1, hz2⟩ := info_parts infoK
          go_wp2_with (at_builtin; refine wpList_append_row _ rfl _ _ _ rfl w3.heap.size wq.heap.size TK i _ 3 24 Try.underlying31 hi hz0 hz1 hz2 rfl rfl HROW5.out rfl HX5.out (capCells_one _) ?a3 ?a4 (by omega) ?a5 ?_; fail_if_success done)
          case a3 => omega
          case a4 => omega
          case a5 => exact HL5.out.size
          intro v6 w6 hrow hgrow _
          have HL6 := Lib.hid (Below.grown HL5.out hgrow HL5.out.size (fun k hk => (HROW5.out.lt k hk).1))
          have H6 := Lib.hid (H3.out.later' HL6.out)
          have HSX6 := Lib.hid (Later.has HL6.out HSX3.out)
          have HN6 := Lib.hid (Later.has HL6.out HN3.out)
          have HC6 := Lib.hid (row_keep HC3.out (KeepT.later HL6.out))
          have HROW6 := Lib.hid hrow
          obtain ⟨vB, vd, rfl, _, _⟩ := hrow.form
          clear hrow hgrow hi hz0 hz1 hz2
          have hSN : ¬ SB = w2.heap.size := by have := has_lt HSX2.out; omega
          have hNO : ¬ w2.heap.size = OB := by have := has_lt H2.out.out.blk; omega
          have hON : ¬ OB = w2.heap.size := fun e => hNO e.symm
          have hNR : ¬ w2.heap.size = RB := by have := has_lt H2.out.rb; omega
          have hRN : ¬ RB = w2.heap.size := fun e => hNR e.symm
          obtain ⟨n0, n1, n2, n3, n4, n5, n6, n7⟩ := cells_r HN6.out
          obtain ⟨m0, m1, m2, m3, m4, m5, m6, m7⟩ := frozen_r HN6.out
          obtain ⟨r0, r1, r2, r3, r4, r5, r6, r7⟩ := cells_r H6.out.out.blk
          obtain ⟨f0, f1, f2, f3, f4, f5, f6, f7⟩ := frozen_r H6.out.out.blk
          obtain ⟨z0, z1, z2, z3, z4, z5, z6, z7⟩ := cells_r H6.out.rb
          obtain ⟨g0, g1, g2, g3, g4, g5, g6, g7⟩ := frozen_r H6.out.rb
          have HSZ1 := Lib.hid HQ.out.later.size
          have HSZ3 := Lib.hid H3.out.later.size
          have hsz2 := H2.out.later.size
          have hPN : ¬ PB = w2.heap.size := by have := has_lt H2.out.pb; omega
          have HAP : Hid ((Value.slice cA2 q2.caps.length cc2).ownBlock = none ∨ (Value.slice cA2 q2.caps.length cc2).ownBlock ≠ (Value.slice vB (r.events.length + q2.events.length) vd).ownBlock) := Lib.hid (by
            cases hc : (Value.slice cA2 q2.caps.length cc2).ownBlock with
            | none => exact .inl rfl
            | some a => exact .inr fun e => by have := (HC3.out.lt a hc).2.1; have := (HROW6.out.lt a e.symm).1; omega)
          cases hf : q2.found with
          | true =>
            rw [hf] at n0
            rw [if_pos (by simp [Res.ends, hf])] at HSR
            have HY : Hid (SLoop w (((((((((w6.setCell ⟨w2.heap.size, 7, none⟩ (.slice vB (r.events.length + q2.events.length) vd)).setCell ⟨OB, 0, none⟩ (.bool true)).setCell ⟨OB, 1, none⟩ (.bool q2.stopped)).setCell ⟨OB, 2, none⟩ (.bool q2.exhausted)).setCell ⟨OB, 3, none⟩ (.int .i64 (matchFrom q2 k))).setCell ⟨OB, 4, none⟩ (.int .i64 q2.at_)).setCell ⟨OB, 5, none⟩ (.int .i64 ((q2.steps : Int) + r.steps))).setCell ⟨OB, 6, none⟩ (.slice cA2 q2.caps.length cc2)).setCell ⟨OB, 7, none⟩ (.slice vB (r.events.length + q2.events.length) vd)) PB RB OB #[.int .i64 p.op, .string p.text, .int .i64 p.num, .int .i64 p.lo, .int .i64 p.hi, .slice kA p.kids.length kc] { q2 with steps := r.steps + q2.steps, events := r.events ++ q2.events } (matchFrom q2 k) (.slice cA2 q2.caps.length cc2) (.slice vB (r.events.length + q2.events.length) vd)) := Lib.hid (SLoop.put (NB := w2.heap.size) (r2 := { q2 with steps := r.steps + q2.steps, events := r.events ++ q2.events }) H6.out HN6.out HC6.out (by simpa [capCells_append] using HROW6.out) HSZ1.out HSZ3.out HAP.out hob hsz2 hPN hRN hON hPO hRO ((OnlyAt.refl _ _).set _ _) (((((((((OnlyAt.refl _ _).set _ _).set _ _).set _ _).set _ _).set _ _).set _ _).set _ _).set _ _) (by
              have hb := stored_blk (((((OnlyAt.refl _ _).set _ _) : OnlyAt w2.heap.size w6 (w6.setCell ⟨w2.heap.size, 7, none⟩ (.slice vB (r.events.length + q2.events.length) vd))).2 OB hON).trans H6.out.out.blk) (.bool true) (.bool q2.stopped) (.bool q2.exhausted) (.int .i64 (matchFrom q2 k)) (.int .i64 q2.at_) (.int .i64 ((q2.steps : Int) + r.steps)) (.slice cA2 q2.caps.length cc2) (.slice vB (r.events.length + q2.events.length) vd)
              simpa [hf, Int.add_comm] using hb))
            go_wp2_with fail
            refine bodyPost_ret (v := matchV { q2 with steps := r.steps + q2.steps, events := r.events ++ q2.events } (matchFrom q2 k) (.slice cA2 q2.caps.length cc2) (.slice vB (r.events.length + q2.events.length) vd)) (by simp [results, Try.results48, go_sem, r0, r1, r2, r3, r4, r5, r6, r7, z0, z1, z2, z3, z4, z5, z6, z7, hRO, hOR, hNR, hRN, hf, Int.add_comm]) rfl ?_
            obtain rfl := HSR.out
            exact HY.out.ret hrb (((((((((OnlyAt.refl _ _).set _ _).set _ _).set _ _).set _ _).set _ _).set _ _).set _ _).set _ _)
          | false =>
            cases hp : q2.stopped with
            | true =>
              rw [hf] at n0
              rw [hp] at n1
              rw [if_pos (by simp [Res.ends, hf, hp])] at HSR
              have HY : Hid (SLoop w (((((((((w6.setCell ⟨w2.heap.size, 7, none⟩ (.slice vB (r.events.length + q2.events.length) vd)).setCell ⟨OB, 0, none⟩ (.bool false)).setCell ⟨OB, 1, none⟩ (.bool true)).setCell ⟨OB, 2, none⟩ (.bool q2.exhausted)).setCell ⟨OB, 3, none⟩ (.int .i64 (matchFrom q2 k))).setCell ⟨OB, 4, none⟩ (.int .i64 q2.at_)).setCell ⟨OB, 5, none⟩ (.int .i64 ((q2.steps : Int) + r.steps))).setCell ⟨OB, 6, none⟩ (.slice cA2 q2.caps.length cc2)).setCell ⟨OB, 7, none⟩ (.slice vB (r.events.length + q2.events.length) vd)) PB RB OB #[.int .i64 p.op, .string p.text, .int .i64 p.num, .int .i64 p.lo, .int .i64 p.hi, .slice kA p.kids.length kc] { q2 with steps := r.steps + q2.steps, events := r.events ++ q2.events } (matchFrom q2 k) (.slice cA2 q2.caps.length cc2) (.slice vB (r.events.length + q2.events.length) vd)) := Lib.hid (SLoop.put (NB := w2.heap.size) (r2 := { q2 with steps := r.steps + q2.steps, events := r.events ++ q2.events }) H6.out HN6.out HC6.out (by simpa [capCells_append] using HROW6.out) HSZ1.out HSZ3.out HAP.out hob hsz2 hPN hRN hON hPO hRO ((OnlyAt.refl _ _).set _ _) (((((((((OnlyAt.refl _ _).set _ _).set _ _).set _ _).set _ _).set _ _).set _ _).set _ _).set _ _) (by
                have hb := stored_blk (((((OnlyAt.refl _ _).set _ _) : OnlyAt w2.heap.size w6 (w6.setCell ⟨w2.heap.size, 7, none⟩ (.slice vB (r.events.length + q2.events.length) vd))).2 OB hON).trans H6.out.out.blk) (.bool false) (.bool true) (.bool q2.exhausted) (.int .i64 (matchFrom q2 k)) (.int .i64 q2.at_) (.int .i64 ((q2.steps : Int) + r.steps)) (.slice cA2 q2.caps.length cc2) (.slice vB (r.events.length + q2.events.length) vd)
                simpa [hf, hp, Int.add_comm] using hb))
              go_wp2_with fail
              refine bodyPost_ret (v := matchV { q2 with steps := r.steps + q2.steps, events := r.events ++ q2.events } (matchFrom q2 k) (.slice cA2 q2.caps.length cc2) (.slice vB (r.events.length + q2.events.length) vd)) (by simp [results, Try.results48, go_sem, r0, r1, r2, r3, r4, r5, r6, r7, z0, z1, z2, z3, z4, z5, z6, z7, hRO, hOR, hNR, hRN, hf, hp, Int.add_comm]) rfl ?_
              obtain rfl := HSR.out
              exact HY.out.ret hrb (((((((((OnlyAt.refl _ _).set _ _).set _ _).set _ _).set _ _).set _ _).set _ _).set _ _).set _ _)
            | false =>
              cases hx : q2.exhausted with
              | true =>
                rw [hf] at n0
                rw [hp] at n1
                rw [hx] at n2
                rw [if_pos (by simp [Res.ends, hf, hp, hx])] at HSR
                have HY : Hid (SLoop w (((((((((w6.setCell ⟨w2.heap.size, 7, none⟩ (.slice vB (r.events.length + q2.events.length) vd)).setCell ⟨OB, 0, none⟩ (.bool false)).setCell ⟨OB, 1, none⟩ (.bool false)).setCell ⟨OB, 2, none⟩ (.bool true)).setCell ⟨OB, 3, none⟩ (.int .i64 (matchFrom q2 k))).setCell ⟨OB, 4, none⟩ (.int .i64 q2.at_)).setCell ⟨OB, 5, none⟩ (.int .i64 ((q2.steps : Int) + r.steps))).setCell ⟨OB, 6, none⟩ (.slice cA2 q2.caps.length cc2)).setCell ⟨OB, 7, none⟩ (.slice vB (r.events.length + q2.events.length) vd)) PB RB OB #[.int .i64 p.op, .string p.text, .int .i64 p.num, .int .i64 p.lo, .int .i64 p.hi, .slice kA p.kids.length kc] { q2 with steps := r.steps + q2.steps, events := r.events ++ q2.events } (matchFrom q2 k) (.slice cA2 q2.caps.length cc2) (.slice vB (r.events.length + q2.events.length) vd)) := Lib.hid (SLoop.put (NB := w2.heap.size) (r2 := { q2 with steps := r.steps + q2.steps, events := r.events ++ q2.events }) H6.out HN6.out HC6.out (by simpa [capCells_append] using HROW6.out) HSZ1.out HSZ3.out HAP.out hob hsz2 hPN hRN hON hPO hRO ((OnlyAt.refl _ _).set _ _) (((((((((OnlyAt.refl _ _).set _ _).set _ _).set _ _).set _ _).set _ _).set _ _).set _ _).set _ _) (by
                  have hb := stored_blk (((((OnlyAt.refl _ _).set _ _) : OnlyAt w2.heap.size w6 (w6.setCell ⟨w2.heap.size, 7, none⟩ (.slice vB (r.events.length + q2.events.length) vd))).2 OB hON).trans H6.out.out.blk) (.bool false) (.bool false) (.bool true) (.int .i64 (matchFrom q2 k)) (.int .i64 q2.at_) (.int .i64 ((q2.steps : Int) + r.steps)) (.slice cA2 q2.caps.length cc2) (.slice vB (r.events.length + q2.events.length) vd)
                  simpa [hf, hp, hx, Int.add_comm] using hb))
                go_wp2_with fail
                refine bodyPost_ret (v := matchV { q2 with steps := r.steps + q2.steps, events := r.events ++ q2.events } (matchFrom q2 k) (.slice cA2 q2.caps.length cc2) (.slice vB (r.events.length + q2.events.length) vd)) (by simp [results, Try.results48, go_sem, r0, r1, r2, r3, r4, r5, r6, r7, z0, z1, z2, z3, z4, z5, z6, z7, hRO, hOR, hNR, hRN, hf, hp, hx, Int.add_comm]) rfl ?_
                obtain rfl := HSR.out
                exact HY.out.ret hrb (((((((((OnlyAt.refl _ _).set _ _).set _ _).set _ _).set _ _).set _ _).set _ _).set _ _).set _ _)
              | false =>
                rw [hf] at n0
                rw [hp] at n1
                rw [hx] at n2
                rw [if_neg (by simp [Res.ends, hf, hp, hx])] at HSR
                have HY : Hid (SLoop w (((((((((w6.setCell ⟨w2.heap.size, 7, none⟩ (.slice vB (r.events.length + q2.events.length) vd)).setCell ⟨OB, 0, none⟩ (.bool false)).setCell ⟨OB, 1, none⟩ (.bool false)).setCell ⟨OB, 2, none⟩ (.bool false)).setCell ⟨OB, 3, none⟩ (.int .i64 (matchFrom q2 k))).setCell ⟨OB, 4, none⟩ (.int .i64 q2.at_)).setCell ⟨OB, 5, none⟩ (.int .i64 ((q2.steps : Int) + r.steps))).setCell ⟨OB, 6, none⟩ (.slice cA2 q2.caps.length cc2)).setCell ⟨OB, 7, none⟩ (.slice vB (r.events.length + q2.events.length) vd)) PB RB OB #[.int .i64 p.op, .string p.text, .int .i64 p.num, .int .i64 p.lo, .int .i64 p.hi, .slice kA p.kids.length kc] { q2 with steps := r.steps + q2.steps, events := r.events ++ q2.events } (matchFrom q2 k) (.slice cA2 q2.caps.length cc2) (.slice vB (r.events.length + q2.events.length) vd)) := Lib.hid (SLoop.put (NB := w2.heap.size) (r2 := { q2 with steps := r.steps + q2.steps, events := r.events ++ q2.events }) H6.out HN6.out HC6.out (by simpa [capCells_append] using HROW6.out) HSZ1.out HSZ3.out HAP.out hob hsz2 hPN hRN hON hPO hRO ((OnlyAt.refl _ _).set _ _) (((((((((OnlyAt.refl _ _).set _ _).set _ _).set _ _).set _ _).set _ _).set _ _).set _ _).set _ _) (by
                  have hb := stored_blk (((((OnlyAt.refl _ _).set _ _) : OnlyAt w2.heap.size w6 (w6.setCell ⟨w2.heap.size, 7, none⟩ (.slice vB (r.events.length + q2.events.length) vd))).2 OB hON).trans H6.out.out.blk) (.bool false) (.bool false) (.bool false) (.int .i64 (matchFrom q2 k)) (.int .i64 q2.at_) (.int .i64 ((q2.steps : Int) + r.steps)) (.slice cA2 q2.caps.length cc2) (.slice vB (r.events.length + q2.events.length) vd)
                  simpa [hf, hp, hx, Int.add_comm] using hb))
                go_wp2_with fail
                go_roundw
                case rel => exact ⟨k + 1, { q2 with steps := r.steps + q2.steps, events := r.events ++ q2.events }, matchFrom q2 k, _, _, by go_num, by omega, by simp; omega, by simp; omega, HY.out, keep_two ((OnlyAt.refl _ _).set _ _) (((((((((OnlyAt.refl _ _).set _ _).set _ _).set _ _).set _ _).set _ _).set _ _).set _ _).set _ _) hSN hSO HSX6.out, HSR.out⟩
                case measure => simp [intOf]; omega
      · have t2 : decide (s.size ≤ k) = true := by simp; omega
        have t3 : decide ((s.size : Int) ≤ k) = true := by simp; omega
        have HTK : Hid (takeAt s least ⟨lo, hi, false⟩ k = false) := Lib.hid (by unfold takeAt; rw [decide_eq_false hlt]; simp)
        go_wp2_with fail
        go_quiet (skip)
        have HSXq := Lib.hid (Later.has (below_drewN' (Below.refl wr.heap.size wr) nq) HSX.out)
        have HQ := Lib.hid (HF.out.later' (below_drewN' (Below.refl wr.heap.size wr) nq))
        obtain ⟨wq, hwq⟩ : ∃ wq, wr.drewN nq = wq := ⟨_, rfl⟩
        rw [hwq] at HQ HSXq ⊢
        clear hwq
        go_wp2_with fail
        go_roundw
        case rel => exact ⟨k + 1, r, fr, _, _, by go_num, by omega, by omega, by omega, HQ.out, HSXq.out, (srch_skip hle HTK.out).symm.trans HSR.out⟩
        case measure => simp [intOf]; omega
    · skip
      have hgt : (s.size : Int) - least < k := by omega
      have hgt1 : decide ((k : Int) ≤ (s.size : Int) - least) = false := by simp; omega
      rw [srch_none _ _ _ _ (fun j hj => takeAt_past hgt j hj)] at HSR
      obtain ⟨r0, r1, r2, r3, r4, r5, r6, r7⟩ := cells_r HF.out.out.blk
      obtain ⟨f0, f1, f2, f3, f4, f5, f6, f7⟩ := frozen_r HF.out.out.blk
      obtain ⟨z0, z1, z2, z3, z4, z5, z6, z7⟩ := cells_r HF.out.rb
      obtain ⟨g0, g1, g2, g3, g4, g5, g6, g7⟩ := frozen_r HF.out.rb
      go_wp2_with fail
      refine bodyPost_ret (v := matchV r fr (.slice cA r.caps.length cc) (.slice eA r.events.length ec)) (by simp [results, Try.results48, go_sem, r0, r1, r2, r3, r4, r5, r6, r7, z0, z1, z2, z3, z4, z5, z6, z7, hRO, hOR]) rfl ?_
      obtain rfl := HSR.out
      exact HF.out.ret hrb (((((((((OnlyAt.refl _ _).set _ _).set _ _).set _ _).set _ _).set _ _).set _ _).set _ _).set _ _)


theorem l20Search_pr (least : Int) (f : First) (defs : List Pat) (dA : Option Addr) (dc : Nat) (p : Pat) (kv : Value) (s : ByteArray) (fuel : Nat) (w : World) (hs : Smalls defs) (hp : Small p) (hd : RowIn w dA 0 defs) (hin : KidsIn w p kv) (hvd : validD defs p = true)
    (hss : s.size ≤ 120) (hfu : fuel ≤ 4000) (h0 : 0 ≤ least) (h1 : least ≤ 121) (RES : Res × Int) (hR : srch defs p s fuel (takeAt s least f) (s.size + 1) 0 .none 0 = RES) :
    Calls Try.prog 48 #[.slice dA defs.length dc, p.v kv, .string s, .int .i64 fuel, .int .i64 least, .agg #[.int .i64 f.lo, .int .i64 f.hi], .bool f.op_] w (MatchIs w RES.1 RES.2) := by
  obtain ⟨lo, hi, op⟩ := f
  cases op with
  | true => exact l20Search_open least lo hi defs dA dc p kv s fuel w hs hp hd hin hvd hss hfu h0 h1 RES hR
  | false => exact l20Search_shut least lo hi defs dA dc p kv s fuel w hs hp hd hin hvd hss hfu h0 h1 RES hR

end Go.Proofs.Ytndefbecoahfhaa

/- PrunedSearch of spec at every argument. Printed by gen_prsrcht.py. -/
namespace Go.Proofs.Ytndefbecoahfhaa
open Go.RowKit

set_option maxRecDepth 100000 in
set_option maxHeartbeats 4000000 in
theorem specPruned_stop (defs : List Pat) (dA : Option Addr) (dc : Nat) (p : Pat) (kv : Value) (s : ByteArray) (fuel : Int) (w : World) (hs : Smalls defs) (hp : Small p) (hd : RowIn w dA 0 defs) (hin : KidsIn w p kv) (hdl : defs.length ≤ 1099511627776) (hsl : s.size ≤ 1099511627776) (hm : mayStop defs p = true) :
    Calls Try.prog 32 #[.slice dA defs.length dc, p.v kv, .string s, .int .i64 fuel] w (MatchIs w (searchRes defs p s fuel).1 (searchRes defs p s fuel).2) := by
  obtain ⟨kA, kc, rfl, _, _⟩ := hin.form
  have HS := Lib.hid hs
  have HP := Lib.hid hp
  have HD := Lib.hid hd
  have HIN := Lib.hid hin
  clear hs hp hd hin
  have HM := Lib.hid hm
  clear hm
  obtain ⟨⟨R, FR⟩, hR⟩ : ∃ R, searchRes defs p s fuel = R := ⟨_, rfl⟩
  rw [hR]
  have HRR := Lib.hid hR
  clear hR
  show Calls Try.prog 32 #[.slice dA defs.length dc, p.v (.slice kA p.kids.length kc), .string s, .int .i64 fuel] w (MatchIs w R FR)
  go_enter Try.func32, Try.ntmps32
  go_wp2_with fail
  have HLA := Lib.hid (((Later.refl w).alloc (Obj.cells #[.int .i64 p.op, .string p.text, .int .i64 p.num, .int .i64 p.lo, .int .i64 p.hi, .slice kA p.kids.length kc] TP)).alloc (Obj.cells zeroM TR))
  have HPA := Lib.hid (Later.has ((Later.refl (w.alloc (Obj.cells #[.int .i64 p.op, .string p.text, .int .i64 p.num, .int .i64 p.lo, .int .i64 p.hi, .slice kA p.kids.length kc] TP))).alloc (Obj.cells zeroM TR)) (heap_alloc_new w (Obj.cells #[.int .i64 p.op, .string p.text, .int .i64 p.num, .int .i64 p.lo, .int .i64 p.hi, .slice kA p.kids.length kc] TP)))
  have HRA := Lib.hid (heap_alloc_two w (Obj.cells #[.int .i64 p.op, .string p.text, .int .i64 p.num, .int .i64 p.lo, .int .i64 p.hi, .slice kA p.kids.length kc] TP) (Obj.cells zeroM TR))
  refine (specMay_is true defs dA dc p _ _ HS.out HP.out (RowIn.later HLA.out _ _ _ HD.out) (KidsIn.later HLA.out _ _ HIN.out) hdl HM.out).mono ?_
  rintro e w2 ⟨rfl, hb2⟩
  have HP2 := Lib.hid (Later.has hb2 HPA.out)
  have HR2 := Lib.hid (Later.has hb2 HRA.out)
  have HL2 := Lib.hid (HLA.out.trans hb2)
  clear hb2 HLA HPA HRA
  obtain ⟨p0, p1, p2, p3, p4, p5⟩ := cells_p HP2.out
  go_wp2_with fail
  clear p0 p1 p2 p3 p4 p5
  refine (specSearch_any defs dA dc p _ s fuel _ HS.out HP.out (RowIn.later HL2.out _ _ _ HD.out) (KidsIn.later HL2.out _ _ HIN.out) hdl hsl).mono ?_
  rw [HRR.out]
  rintro e w9 ⟨cv, ev, rfl, h1, h2, h3, h4⟩
  dsimp only at h1 h2
  obtain ⟨cA, cc, rfl, _, _⟩ := h1.form
  obtain ⟨eA, ec, rfl, _, _⟩ := h2.form
  have H1 := Lib.hid h1
  have H2 := Lib.hid h2
  have H3 := Lib.hid h3
  have H4 := Lib.hid h4
  have HR9 := Lib.hid (Later.has h4 HR2.out)
  clear h1 h2 h3 h4
  obtain ⟨r0, r1, r2, r3, r4, r5, r6, r7⟩ := cells_r HR9.out
  obtain ⟨f0, f1, f2, f3, f4, f5, f6, f7⟩ := frozen_r HR9.out
  go_wp2_with fail
  refine bodyPost_ret (v := matchV R FR (.slice cA (R).caps.length cc) (.slice eA (R).events.length ec)) (by simp [results, Try.results32, go_sem, r0, r1, r2, r3, r4, r5, r6, r7]) rfl ?_
  exact matchIs_mk HL2.out H1.out H2.out H3.out H4.out HR9.out (by omega) (((((((((OnlyAt.refl _ _).set _ _).set _ _).set _ _).set _ _).set _ _).set _ _).set _ _).set _ _)

set_option maxRecDepth 100000 in
set_option maxHeartbeats 4000000 in
theorem specPruned_no (defs : List Pat) (dA : Option Addr) (dc : Nat) (p : Pat) (kv : Value) (s : ByteArray) (fuel : Int) (w : World) (hs : Smalls defs) (hp : Small p) (hd : RowIn w dA 0 defs) (hin : KidsIn w p kv) (hdl : defs.length ≤ 1099511627776) (hsl : s.size ≤ 1099511627776) (hm : mayStop defs p = false) (hno : inLimits s fuel = false) :
    Calls Try.prog 32 #[.slice dA defs.length dc, p.v kv, .string s, .int .i64 fuel] w (MatchIs w .none 0) := by
  obtain ⟨kA, kc, rfl, _, _⟩ := hin.form
  have HS := Lib.hid hs
  have HP := Lib.hid hp
  have HD := Lib.hid hd
  have HIN := Lib.hid hin
  clear hs hp hd hin
  have HM := Lib.hid hm
  clear hm
  by_cases c1 : (120 : Int) < s.size
  · clear hno
    have t1 : decide ((120 : Int) < s.size) = true := by simpa using c1
    go_enter Try.func32, Try.ntmps32
    go_wp2_with fail
    have HLA := Lib.hid (((Later.refl w).alloc (Obj.cells #[.int .i64 p.op, .string p.text, .int .i64 p.num, .int .i64 p.lo, .int .i64 p.hi, .slice kA p.kids.length kc] TP)).alloc (Obj.cells zeroM TR))
    have HPA := Lib.hid (Later.has ((Later.refl (w.alloc (Obj.cells #[.int .i64 p.op, .string p.text, .int .i64 p.num, .int .i64 p.lo, .int .i64 p.hi, .slice kA p.kids.length kc] TP))).alloc (Obj.cells zeroM TR)) (heap_alloc_new w (Obj.cells #[.int .i64 p.op, .string p.text, .int .i64 p.num, .int .i64 p.lo, .int .i64 p.hi, .slice kA p.kids.length kc] TP)))
    have HRA := Lib.hid (heap_alloc_two w (Obj.cells #[.int .i64 p.op, .string p.text, .int .i64 p.num, .int .i64 p.lo, .int .i64 p.hi, .slice kA p.kids.length kc] TP) (Obj.cells zeroM TR))
    refine (specMay_is false defs dA dc p _ _ HS.out HP.out (RowIn.later HLA.out _ _ _ HD.out) (KidsIn.later HLA.out _ _ HIN.out) hdl HM.out).mono ?_
    rintro e w2 ⟨rfl, hb2⟩
    have HP2 := Lib.hid (Later.has hb2 HPA.out)
    have HR2 := Lib.hid (Later.has hb2 HRA.out)
    have HL2 := Lib.hid (HLA.out.trans hb2)
    clear hb2 HLA HPA HRA
    obtain ⟨p0, p1, p2, p3, p4, p5⟩ := cells_p HP2.out
    obtain ⟨r0, r1, r2, r3, r4, r5, r6, r7⟩ := cells_r HR2.out
    obtain ⟨f0, f1, f2, f3, f4, f5, f6, f7⟩ := frozen_r HR2.out
    go_wp2_with fail
    refine bodyPost_ret (v := matchV .none 0 (.slice none 0 0) (.slice none 0 0)) (by simp [results, Try.results32, go_sem, r0, r1, r2, r3, r4, r5, r6, r7, Res.none]) rfl ?_
    exact ⟨_, _, rfl, HasRow.nil _ _ _ _, HasRow.nil _ _ _ _, .inl rfl, Below.trans HL2.out ((((((((((OnlyAt.refl _ _).set _ _).set _ _).set _ _).set _ _).set _ _).set _ _).set _ _).set _ _).1.mono (by omega))⟩
  · cases hu : (decide (0 ≤ fuel) && decide (fuel ≤ (4000 : Int))) with
    | false =>
      have HU := Lib.hid hu
      clear hu hno
      have t1 : decide ((120 : Int) < s.size) = false := by simpa using c1
      go_enter Try.func32, Try.ntmps32
      go_wp2_with fail
      have HLA := Lib.hid (((Later.refl w).alloc (Obj.cells #[.int .i64 p.op, .string p.text, .int .i64 p.num, .int .i64 p.lo, .int .i64 p.hi, .slice kA p.kids.length kc] TP)).alloc (Obj.cells zeroM TR))
      have HPA := Lib.hid (Later.has ((Later.refl (w.alloc (Obj.cells #[.int .i64 p.op, .string p.text, .int .i64 p.num, .int .i64 p.lo, .int .i64 p.hi, .slice kA p.kids.length kc] TP))).alloc (Obj.cells zeroM TR)) (heap_alloc_new w (Obj.cells #[.int .i64 p.op, .string p.text, .int .i64 p.num, .int .i64 p.lo, .int .i64 p.hi, .slice kA p.kids.length kc] TP)))
      have HRA := Lib.hid (heap_alloc_two w (Obj.cells #[.int .i64 p.op, .string p.text, .int .i64 p.num, .int .i64 p.lo, .int .i64 p.hi, .slice kA p.kids.length kc] TP) (Obj.cells zeroM TR))
      refine (specMay_is false defs dA dc p _ _ HS.out HP.out (RowIn.later HLA.out _ _ _ HD.out) (KidsIn.later HLA.out _ _ HIN.out) hdl HM.out).mono ?_
      rintro e w2 ⟨rfl, hb2⟩
      have HP2 := Lib.hid (Later.has hb2 HPA.out)
      have HR2 := Lib.hid (Later.has hb2 HRA.out)
      have HL2 := Lib.hid (HLA.out.trans hb2)
      clear hb2 HLA HPA HRA
      obtain ⟨p0, p1, p2, p3, p4, p5⟩ := cells_p HP2.out
      go_wp2_with fail
      refine (l1In_is false _ _ _ _ HU.out).mono ?_
      rintro e w3 ⟨rfl, rfl⟩
      obtain ⟨r0, r1, r2, r3, r4, r5, r6, r7⟩ := cells_r HR2.out
      obtain ⟨f0, f1, f2, f3, f4, f5, f6, f7⟩ := frozen_r HR2.out
      go_wp2_with fail
      refine bodyPost_ret (v := matchV .none 0 (.slice none 0 0) (.slice none 0 0)) (by simp [results, Try.results32, go_sem, r0, r1, r2, r3, r4, r5, r6, r7, Res.none]) rfl ?_
      exact ⟨_, _, rfl, HasRow.nil _ _ _ _, HasRow.nil _ _ _ _, .inl rfl, Below.trans HL2.out ((((((((((OnlyAt.refl _ _).set _ _).set _ _).set _ _).set _ _).set _ _).set _ _).set _ _).set _ _).1.mono (by omega))⟩
    | true =>
      exfalso
      simp only [Bool.and_eq_true, decide_eq_true_eq] at hu
      simp [inLimits] at hno
      omega

set_option maxRecDepth 100000 in
set_option maxHeartbeats 4000000 in
theorem specPruned_play (defs : List Pat) (dA : Option Addr) (dc : Nat) (p : Pat) (kv : Value) (s : ByteArray) (fuel : Nat) (w : World) (hs : Smalls defs) (hp : Small p) (hd : RowIn w dA 0 defs) (hin : KidsIn w p kv) (hm : mayStop defs p = false)
    (hss : s.size ≤ 120) (hfu : fuel ≤ 4000) (R : Res) (FR : Int) (hR : srch defs p s fuel (takeAt s (least p) (first p)) (s.size + 1) 0 .none 0 = (R, FR)) :
    Calls Try.prog 32 #[.slice dA defs.length dc, p.v kv, .string s, .int .i64 fuel] w (MatchIs w R FR) := by
  obtain ⟨kA, kc, rfl, _, _⟩ := hin.form
  have hvd := mayStop_false hm
  have hlen : defs.length ≤ 24 := (validD_defs hvd hs).1.len
  have hdl : defs.length ≤ 1099511627776 := by omega
  have hpv := (validD_defs hvd hs).2
  have b0 := least_nonneg p hpv
  have b1 := least_le p
  have HPV := Lib.hid hpv
  have HS := Lib.hid hs
  have HP := Lib.hid hp
  have HD := Lib.hid hd
  have HIN := Lib.hid hin
  clear hs hp hd hin
  have HM := Lib.hid hm
  have HV := Lib.hid hvd
  obtain ⟨L, hL⟩ : ∃ L, least p = L := ⟨_, rfl⟩
  obtain ⟨⟨flo, fhi, fop⟩, hf⟩ : ∃ f, first p = f := ⟨_, rfl⟩
  rw [hL] at b0 b1 hR
  rw [hf] at hR
  have HLE := Lib.hid hL
  have HFE := Lib.hid hf
  have HRES := Lib.hid hR
  clear hR hm hvd hL hf hpv
  have t1 : decide ((120 : Int) < s.size) = false := by simp; omega
  have HU : Hid ((decide (0 ≤ (fuel : Int)) && decide ((fuel : Int) ≤ (4000 : Int))) = true) := Lib.hid (by simp; omega)
  go_enter Try.func32, Try.ntmps32
  go_wp2_with fail
  have HLA := Lib.hid (((Later.refl w).alloc (Obj.cells #[.int .i64 p.op, .string p.text, .int .i64 p.num, .int .i64 p.lo, .int .i64 p.hi, .slice kA p.kids.length kc] TP)).alloc (Obj.cells zeroM TR))
  have HPA := Lib.hid (Later.has ((Later.refl (w.alloc (Obj.cells #[.int .i64 p.op, .string p.text, .int .i64 p.num, .int .i64 p.lo, .int .i64 p.hi, .slice kA p.kids.length kc] TP))).alloc (Obj.cells zeroM TR)) (heap_alloc_new w (Obj.cells #[.int .i64 p.op, .string p.text, .int .i64 p.num, .int .i64 p.lo, .int .i64 p.hi, .slice kA p.kids.length kc] TP)))
  have HRA := Lib.hid (heap_alloc_two w (Obj.cells #[.int .i64 p.op, .string p.text, .int .i64 p.num, .int .i64 p.lo, .int .i64 p.hi, .slice kA p.kids.length kc] TP) (Obj.cells zeroM TR))
  refine (specMay_is false defs dA dc p _ _ HS.out HP.out (RowIn.later HLA.out _ _ _ HD.out) (KidsIn.later HLA.out _ _ HIN.out) hdl HM.out).mono ?_
  rintro e w2 ⟨rfl, hb2⟩
  have HP2 := Lib.hid (Later.has hb2 HPA.out)
  have HR2 := Lib.hid (Later.has hb2 HRA.out)
  have HL2 := Lib.hid (HLA.out.trans hb2)
  clear hb2 HLA HPA HRA
  obtain ⟨p0, p1, p2, p3, p4, p5⟩ := cells_p HP2.out
  go_wp2_with fail
  refine (l1In_is true _ _ _ _ HU.out).mono ?_
  rintro e w3 ⟨rfl, rfl⟩
  go_wp2_with fail
  clear p0 p1 p2 p3 p4 p5
  refine (l21First_any defs.length (count p) p _ _ (Nat.le_refl _) HPV.out (KidsIn.later HL2.out _ _ HIN.out)).mono ?_
  rw [HFE.out]
  rintro e w4 ⟨rfl, hb4⟩
  have HP4 := Lib.hid (Later.has hb4 HP2.out)
  have HR4 := Lib.hid (Later.has hb4 HR2.out)
  have HL4 := Lib.hid (HL2.out.trans hb4)
  clear hb4 HP2 HR2
  have HLW := Lib.hid ((Later.refl w4).alloc (Obj.cells #[.int .i64 flo, .int .i64 fhi] TCs))
  have HC4 := Lib.hid (heap_alloc_new w4 (Obj.cells #[.int .i64 flo, .int .i64 fhi] TCs))
  go_wp2_with fail
  -- region 6: 10 operations, the last [8, 9]
  refine wpU_begin [8, 9] [] (by kernel_rfl) (fun w5 hw5 => ?_)
  have hl5 := drew_later hw5
  have HP5 := Lib.hid (Later.has hl5 (Later.has HLW.out HP4.out))
  have HR5 := Lib.hid (Later.has hl5 (Later.has HLW.out HR4.out))
  have HC5 := Lib.hid (Later.has hl5 HC4.out)
  have HL5 := Lib.hid ((HL4.out.trans HLW.out).trans hl5)
  clear hw5 hl5 HP4 HR4 HC4 HLW
  refine wpU_take 0 (some 33) (v := ?_) rfl rfl (by kernel_rfl) (fun _ _ _ h => h) rfl (fun x hx => ?_) ?_
  rotate_left 1
  · go_simp; first | done | with_reducible rfl | rw [if_neg (by omega)] | rw [if_pos (by omega)]
  simp only [Act.put, List.setIfInBounds_toArray, List.set_cons_zero, List.set_cons_succ]
  refine wpU_take 1 (some 34) (v := ?_) rfl rfl (by kernel_rfl) (fun _ _ _ h => h) rfl (fun x hx => ?_) ?_
  rotate_left 1
  · obtain ⟨p0, p1, p2, p3, p4, p5⟩ := cells_p (hx.has HP5.out); obtain ⟨c0, c1⟩ := cells_cs (hx.has HC5.out); go_simp; first | done | with_reducible rfl | rw [if_neg (by omega)] | rw [if_pos (by omega)]
  simp only [Act.put, List.setIfInBounds_toArray, List.set_cons_zero, List.set_cons_succ]
  refine wpU_take 2 (some 35) (v := ?_) rfl rfl (by kernel_rfl) (fun _ _ _ h => h) rfl (fun x hx => ?_) ?_
  rotate_left 1
  · go_simp; first | done | with_reducible rfl | rw [if_neg (by omega)] | rw [if_pos (by omega)]
  simp only [Act.put, List.setIfInBounds_toArray, List.set_cons_zero, List.set_cons_succ]
  refine wpU_take 3 (some 36) (v := ?_) rfl rfl (by kernel_rfl) (fun _ _ _ h => h) rfl (fun x hx => ?_) ?_
  rotate_left 1
  · go_simp; first | done | with_reducible rfl | rw [if_neg (by omega)] | rw [if_pos (by omega)]
  simp only [Act.put, List.setIfInBounds_toArray, List.set_cons_zero, List.set_cons_succ]
  refine wpU_take 4 (some 37) (v := ?_) rfl rfl (by kernel_rfl) (fun _ _ _ h => h) rfl (fun x hx => ?_) ?_
  rotate_left 1
  · obtain ⟨p0, p1, p2, p3, p4, p5⟩ := cells_p (hx.has HP5.out); obtain ⟨c0, c1⟩ := cells_cs (hx.has HC5.out); go_simp; first | done | with_reducible rfl | rw [if_neg (by omega)] | rw [if_pos (by omega)]
  simp only [Act.put, List.setIfInBounds_toArray, List.set_cons_zero, List.set_cons_succ]
  refine wpU_take 6 (some 39) (v := ?_) rfl rfl (by kernel_rfl) (fun _ _ _ h => h) rfl (fun x hx => ?_) ?_
  rotate_left 1
  · obtain ⟨p0, p1, p2, p3, p4, p5⟩ := cells_p (hx.has HP5.out); obtain ⟨c0, c1⟩ := cells_cs (hx.has HC5.out); go_simp; first | done | with_reducible rfl | rw [if_neg (by omega)] | rw [if_pos (by omega)]
  simp only [Act.put, List.setIfInBounds_toArray, List.set_cons_zero, List.set_cons_succ]
  refine wpU_take 7 (some 40) (v := ?_) rfl rfl (by kernel_rfl) (fun _ _ _ h => h) rfl (fun x hx => ?_) ?_
  rotate_left 1
  · go_simp; first | done | with_reducible rfl | rw [if_neg (by omega)] | rw [if_pos (by omega)]
  simp only [Act.put, List.setIfInBounds_toArray, List.set_cons_zero, List.set_cons_succ]
  refine wpU_step 5 (by kernel_rfl) rfl rfl ?_  -- call value (Go.Operand.func 61)
  go_wp2_with fail
  refine (l21Least_any defs.length (count p) p _ _ (Nat.le_refl _) HPV.out (KidsIn.later HL5.out _ _ HIN.out)).mono ?_
  rw [HLE.out]
  rintro e w6 ⟨rfl, hb6⟩
  go_wp2_with fail
  refine ⟨hb6, ?_⟩
  have HR6 := Lib.hid (Later.has hb6 HR5.out)
  have HL6 := Lib.hid (HL5.out.trans hb6)
  clear hb6
  refine wpU_last [_, _] (by kernel_rfl) rfl rfl ?_
  simp only [List.getElem_toArray, List.getElem_cons_succ, List.getElem_cons_zero]
  go_wp2_with fail
  refine (l20Search_pr L ⟨flo, fhi, fop⟩ defs dA dc p _ s fuel _ HS.out HP.out (RowIn.later HL6.out _ _ _ HD.out) (KidsIn.later HL6.out _ _ HIN.out) HV.out hss hfu b0 b1 _ HRES.out).mono ?_
  rintro e w9 ⟨cv, ev, rfl, h1, h2, h3, h4⟩
  dsimp only at h1 h2
  obtain ⟨cA, cc, rfl, _, _⟩ := h1.form
  obtain ⟨eA, ec, rfl, _, _⟩ := h2.form
  have H1 := Lib.hid h1
  have H2 := Lib.hid h2
  have H3 := Lib.hid h3
  have H4 := Lib.hid h4
  have HR9 := Lib.hid (Later.has h4 HR6.out)
  clear h1 h2 h3 h4
  obtain ⟨r0, r1, r2, r3, r4, r5, r6, r7⟩ := cells_r HR9.out
  obtain ⟨f0, f1, f2, f3, f4, f5, f6, f7⟩ := frozen_r HR9.out
  go_wp2_with fail
  refine bodyPost_ret (v := matchV R FR (.slice cA (R).caps.length cc) (.slice eA (R).events.length ec)) (by simp [results, Try.results32, go_sem, r0, r1, r2, r3, r4, r5, r6, r7]) rfl ?_
  exact matchIs_mk HL6.out H1.out H2.out H3.out H4.out HR9.out (by omega) (((((((((OnlyAt.refl _ _).set _ _).set _ _).set _ _).set _ _).set _ _).set _ _).set _ _).set _ _)

theorem specPruned_any (defs : List Pat) (dA : Option Addr) (dc : Nat) (p : Pat) (kv : Value) (s : ByteArray) (fuel : Int) (w : World) (hs : Smalls defs) (hp : Small p) (hd : RowIn w dA 0 defs) (hin : KidsIn w p kv) (hdl : defs.length ≤ 1099511627776) (hsl : s.size ≤ 1099511627776) : Calls Try.prog 32 #[.slice dA defs.length dc, p.v kv, .string s, .int .i64 fuel] w (MatchIs w (prunedRes defs p s fuel).1 (prunedRes defs p s fuel).2) := by
  cases hm : mayStop defs p with
  | true =>
    rw [show prunedRes defs p s fuel = searchRes defs p s fuel by simp [prunedRes, hm]]
    exact specPruned_stop defs dA dc p kv s fuel w hs hp hd hin hdl hsl hm
  | false =>
    cases ha : inLimits s fuel with
    | false =>
      rw [show prunedRes defs p s fuel = (.none, 0) by simp [prunedRes, hm, ha]]
      exact specPruned_no defs dA dc p kv s fuel w hs hp hd hin hdl hsl hm ha
    | true =>
      have hb := ha
      simp only [inLimits, Bool.and_eq_true, decide_eq_true_eq] at hb
      obtain ⟨⟨h2, h3⟩, h4⟩ := hb
      have := specPruned_play defs dA dc p kv s fuel.toNat w hs hp hd hin hm h2 (by omega) _ _ rfl
      rw [Int.toNat_of_nonneg h3] at this
      rw [show prunedRes defs p s fuel = srch defs p s fuel.toNat (takeAt s (least p) (first p)) (s.size + 1) 0 .none 0 by simp [prunedRes, hm, ha]]
      exact this

theorem prunedRes_len {defs : List Pat} {p : Pat} {s : ByteArray} {fuel : Int} (hs : Smalls defs) (hp : Small p) : (prunedRes defs p s fuel).1.caps.length ≤ 4000 ∧ (prunedRes defs p s fuel).1.events.length ≤ 4000 := by
  cases hm : mayStop defs p with
  | true =>
    rw [show prunedRes defs p s fuel = searchRes defs p s fuel by simp [prunedRes, hm]]
    exact searchRes_len hs hp
  | false =>
    cases ha : inLimits s fuel with
    | false =>
      rw [show prunedRes defs p s fuel = (.none, 0) by simp [prunedRes, hm, ha]]
      exact ⟨Nat.zero_le _, Nat.zero_le _⟩
    | true =>
      have hb := ha
      simp only [inLimits, Bool.and_eq_true, decide_eq_true_eq] at hb
      obtain ⟨⟨h2, h3⟩, h4⟩ := hb
      rw [show prunedRes defs p s fuel = srch defs p s fuel.toNat (takeAt s (least p) (first p)) (s.size + 1) 0 .none 0 by simp [prunedRes, hm, ha]]
      obtain ⟨hd, hv⟩ := validD_defs (mayStop_false hm) hs
      exact srch_len _ hd h2 hv hp (by omega) (s.size + 1) 0 .none 0 (by omega) (Nat.zero_le _) (Nat.zero_le _) (Nat.zero_le _)

end Go.Proofs.Ytndefbecoahfhaa
