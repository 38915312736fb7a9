/- Part of the walks that the claim stands on. -/
import Derived.Test.YtndefbecoahfhaaZQ11
import Derived.Deep.DeepCutAuto
import Derived.Test.YtndefbecoahfhaaZQ6
import Derived.IntWalk
import Derived.Test.YtndefbecoahfhaaZQ8
import Derived.ProofKit
import Derived.OpenShut
import Derived.Test.YtndefbecoahfhaaChecked
import Derived.Below

/- spec.l1New and spec.l18Match: a cursor; well-formed definitions, a pattern and a subject. Printed by gen_drmatch.py. -/
namespace Go.Proofs.Ytndefbecoahfhaa
open Go.RowKit

/-- The bytes of a slice that came in. -/
def BytesAt (w : World) (A : Option Addr) (n : Nat) : Prop := ∀ j, j < n → ∃ g o b, A = some ⟨g, o, none⟩ ∧ g < w.heap.size ∧ 0 ≤ b ∧ b < 256 ∧ w.cell? ⟨g, o + j, none⟩ = some (.int .u8 b)
theorem BytesAt.later {w x : World} {A : Option Addr} {n : Nat} (h : BytesAt w A n) (hl : Later w x) : BytesAt x A n := fun j hj => by
  obtain ⟨g, o, b, e, h2, h3, h4, h5⟩ := h j hj
  exact ⟨g, o, b, e, Nat.lt_of_lt_of_le h2 hl.size, h3, h4, (hl.cell _ h2).trans h5⟩
theorem BytesAt.in_ {w x : World} {C : Nat} {A : Option Addr} {n : Nat} (h : BytesAt w A n) (hC : w.heap.size ≤ C) (hl : Later w x) : BytesIn x C A n := fun j hj => by
  obtain ⟨g, o, b, e, h2, h3, h4, h5⟩ := h j hj
  exact ⟨g, o, b, e, by omega, Nat.lt_of_lt_of_le h2 hl.size, h3, h4, (hl.cell _ h2).trans h5⟩
def NewCur (A : Option Addr) (n c : Nat) (w : World) (e : Ending) (w' : World) : Prop := ∃ C, w.heap.size ≤ C ∧ e = .returned (.pointer (some ⟨C, 0, none⟩)) ∧ CurAt w' C A n c ∧ Later w w'
def NewLp (n : Nat) (w : World) (h i : Value) (wr : World) : Prop := ∃ (j : Nat) (x : Int), h = .int .i64 x ∧ i = .int .i64 j ∧ j ≤ n ∧ wr = w
set_option maxRecDepth 100000 in
set_option maxHeartbeats 1000000 in
theorem l1New_any (A : Option Addr) (n c : Nat) (w : World) (hby : BytesAt w A n) (hn : n ≤ 1048576) : Calls Try.prog 34 #[.slice A n c] w (NewCur A n c w) := by
  have HBY := Lib.hid hby
  clear hby
  go_enter Try.func34, Try.ntmps34
  go_wp2_with fail
  go_loopw [3, 4] (fun h i wr => NewLp n w h i wr) (fun _ i _ => n - (intOf i).toNat)
  case atStart => exact ⟨0, _, rfl, rfl, by omega, rfl⟩
  case round =>
    obtain ⟨j, x, rfl, rfl, hj, hwr⟩ := hrel
    obtain rfl : w = wr := hwr.symm
    by_cases hlt : j < n ∧ j < 4000
    · obtain ⟨g, o, b, hA, hg, hb0, hb1, hcell⟩ := HBY.out j hlt.1
      subst hA
      obtain ⟨hlt1, hlt2⟩ := hlt
      have t1 : decide ((j : Int) < n) = true := by simp; omega
      have t2 : decide ((j : Int) < 4000) = true := by simp; omega
      go_wp2_with fail
      go_roundw
      case rel => exact ⟨j + 1, _, rfl, by simp, by omega, rfl⟩
      case measure => simp [intOf]; omega
    · by_cases hl1 : j < n
      · have t1 : decide ((j : Int) < n) = true := by simp; omega
        have t2 : decide ((j : Int) < 4000) = false := by simp; omega
        clear hlt
        go_wp2_with fail
        go_ret
        exact ⟨_, Nat.le_refl _, rfl, ⟨0, _, by omega, heap_alloc_new _ _⟩, (Later.refl _).alloc _⟩
      · have t1 : decide ((j : Int) < n) = false := by simp; omega
        clear hlt
        go_wp2_with fail
        go_ret
        exact ⟨_, Nat.le_refl _, rfl, ⟨0, _, by omega, heap_alloc_new _ _⟩, (Later.refl _).alloc _⟩

structure DfSt (C : Nat) (A : Option Addr) (n c : Nat) (w3 : World) (ps : List Pat) (xs : List Value) (v : Value) (wr : World) : Prop where
  cur : CurAt wr C A n c
  drawn : Drawn C w3 wr
  hC : C < w3.heap.size
  row : HasRow wr w3.heap.size TP 6 v ps.length xs
  els : ElemsF (fun k => w3.heap.size ≤ k ∧ some k ≠ v.ownBlock) wr ps xs
  cnt : ∀ q ∈ ps, count q < 2 ^ (2 + 1)
section
variable {C : Nat} {A : Option Addr} {n c : Nat} {w3 : World} {ps : List Pat} {xs : List Value} {v : Value} {wr x : World}
theorem DfSt.step (h : DfSt C A n c w3 ps xs v wr) (hd : Drawn C wr x) (hc : CurAt x C A n c) : DfSt C A n c w3 ps xs v x := by
  have h1 := h.hC
  refine ⟨hc, h.drawn.trans hd, h.hC, h.row.same (fun k hk => ?_), ElemsF.keep (fun k hk hlt => hd.other k hlt (by omega)) hd.below.size (fun k hk _ => hk) _ _ h.els, h.cnt⟩
  have := h.row.lt k hk
  exact hd.other k this.2.1 (by omega)
theorem DfSt.later (h : DfSt C A n c w3 ps xs v wr) (hl : Later wr x) : DfSt C A n c w3 ps xs v x :=
  h.step (Drawn.later hl (Nat.le_of_lt h.cur.lt)) (h.cur.later hl)
theorem DfSt.grown (h : DfSt C A n c w3 ps xs v wr) {p : Pat} {kvp : Value} (hp : KidsF (fun k => w3.heap.size ≤ k ∧ some k ≠ v.ownBlock) wr p kvp) (hc : count p < 2 ^ (2 + 1)) {v' : Value} {w' : World}
    (hrow : HasRow w' w3.heap.size TP 6 v' (ps.length + 1) (xs ++ [.int .i64 p.op, .string p.text, .int .i64 p.num, .int .i64 p.lo, .int .i64 p.hi, kvp])) (hg : wr.grownBy w' v.ownBlock) (hb : v'.ownBlock = v.ownBlock ∨ v'.ownBlock = some wr.heap.size) :
    DfSt C A n c w3 (ps ++ [p]) (xs ++ [.int .i64 p.op, .string p.text, .int .i64 p.num, .int .i64 p.lo, .int .i64 p.hi, kvp]) v' w' := by
  have h1 := h.hC
  have hown : ∀ k, v.ownBlock = some k → w3.heap.size ≤ k ∧ k < wr.heap.size := fun k hk => ⟨(h.row.lt k hk).1, (h.row.lt k hk).2.1⟩
  have hne : ∀ k, k < w3.heap.size → some k ≠ v.ownBlock := fun k hk e => by have := hown k e.symm; omega
  have hw := h.drawn.below.size
  obtain ⟨ci, cy, hci, hcb⟩ := h.cur
  refine ⟨⟨ci, cy, hci, (hg.block C (by omega) (hne C h1)).trans hcb⟩, ⟨Below.grown h.drawn.below hg (by omega) (fun k hk => by have := hown k hk; omega), fun k hk hkc => (hg.block k (by omega) (hne k hk)).trans (h.drawn.other k hk hkc)⟩, h.hC, by simpa using hrow, ?_, ?_⟩
  · exact ElemsF.keep (G := fun k => w3.heap.size ≤ k ∧ some k ≠ v'.ownBlock) (x := w') (fun k hk hlt => hg.block k hlt hk.2) hg.size (fun k hk hlt => ⟨hk.1, by
      rcases hb with hb | hb
      · rw [hb]; exact hk.2
      · rw [hb]; intro e; cases e; omega⟩) _ _ (ElemsF.snoc hp ps xs h.els)
  · intro q hq
    rcases List.mem_append.1 hq with hq | hq
    · exact h.cnt q hq
    · rw [List.mem_singleton.1 hq]; exact hc
end
theorem RowF.drawn {base C : Nat} {w x : World} (h1 : Drawn C w x) (hC : C < base) {A : Option Addr} {j : Nat} {ps : List Pat} (h : RowF (fun k => base ≤ k) w A j ps) : RowF (fun k => base ≤ k) x A j ps :=
  RowF.keep (fun k hk hlt => h1.other k hlt (by omega)) h1.below.size (fun _ hk _ => hk) _ _ _ h
theorem KidsF.drawn {base C : Nat} {w x : World} (h1 : Drawn C w x) (hC : C < base) {p : Pat} {kv : Value} (h : KidsF (fun k => base ≤ k) w p kv) : KidsF (fun k => base ≤ k) x p kv :=
  KidsF.keep (fun k hk hlt => h1.other k hlt (by omega)) h1.below.size (fun _ hk _ => hk) _ _ h
theorem Later.drawn {C : Nat} {w w2 x : World} (h : Later w w2) (hd : Drawn C w2 x) (hC : w.heap.size ≤ C) : Later w x :=
  ⟨hd.below.os.trans h.os, hd.below.tape.trans h.tape, hd.below.output.trans h.output, Nat.le_trans h.size hd.below.size, fun k hk => (hd.other k (Nat.lt_of_lt_of_le hk h.size) (by omega)).trans (h.block k hk)⟩
def EndSt (C : Nat) (A : Option Addr) (n c : Nat) (w6 : World) (p : Pat) (kv : Value) (x : World) : Prop := ∃ num, x.heap[w6.heap.size]? = some (patCells p.op p.text num p.lo p.hi kv) ∧ CurAt x C A n c ∧ Drawn C w6 x
/-- What a draw of definitions, a pattern and a subject gives. -/
def Made (w : World) (defs : List Pat) (dA : Option Addr) (dc : Nat) (p : Pat) (kv : Value) (s : ByteArray) (w' : World) : Prop :=
  defs.length ≤ dc ∧ defs.length ≤ 3 ∧ Smalls defs ∧ Small p ∧ RowF (fun k => w.heap.size ≤ k) w' dA 0 defs ∧ KidsF (fun k => w.heap.size ≤ k) w' p kv ∧ s.size ≤ 9 ∧ Later w w'
def DrewMatch (w : World) (e : Ending) (w' : World) : Prop := ∃ (defs : List Pat) (dA : Option Addr) (dc : Nat) (p : Pat) (kv : Value) (s : ByteArray), e = .returned (.tuple #[.slice dA defs.length dc, p.v kv, .string s]) ∧ Made w defs dA dc p kv s w'
set_option maxRecDepth 100000 in
set_option maxHeartbeats 4000000 in
theorem l18Match_any (A : Option Addr) (n c : Nat) (w : World) (hby : BytesAt w A n) (hn : n ≤ 1048576) : Calls Try.prog 33 #[.slice A n c] w (DrewMatch w) := by
  have HBY := Lib.hid hby
  clear hby
  go_enter Try.func33, Try.ntmps33
  go_wp2_with fail
  have hl0 := Later.alloc (Later.refl w) (patCells 0 ⟨#[]⟩ 0 0 0 (.slice none 0 0))
  refine (l1New_any A n c _ (HBY.out.later hl0) hn).mono ?_
  rintro e w2 ⟨C, hC, rfl, hc2, hl2⟩
  have HBI := Lib.hid (HBY.out.in_ (C := C) (by have := hl0.size; omega) (hl0.trans hl2))
  have hCw : w.heap.size < C := by simp at hC; omega
  have HR2 := Lib.hid (Later.has hl2 (heap_alloc_new w (patCells 0 ⟨#[]⟩ 0 0 0 (.slice none 0 0))))
  have HL2 := Lib.hid (hl0.trans hl2)
  have HC2 := Lib.hid hc2
  clear hc2 hl2 hl0 hC
  go_wp2_with fail
  refine (l1Below_any C A n c _ HC2.out HBI.out hn 4 (by omega)).mono ?_
  rintro e w3 ⟨x, hx0, hx1, rfl, hc3, hd3⟩
  obtain ⟨m, rfl⟩ : ∃ m : Nat, x = m := ⟨x.toNat, by omega⟩
  have hC3 := hc3.lt
  have HR3 := Lib.hid (hd3.has HR2.out (by omega))
  have HL3 := Lib.hid hd3
  have HST : Hid (DfSt C A n c w3 [] [] (.slice (some ⟨w3.heap.size, 0, none⟩) 0 0) (w3.alloc (.cells #[] TP))) := Lib.hid ⟨hc3.later ((Later.refl _).alloc _), Drawn.later ((Later.refl _).alloc _) (by omega), hC3, ⟨rfl, .inr ⟨_, 0, #[], rfl, Nat.le_refl _, heap_alloc_new _ _, Nat.le_refl _, by simp [maxLen], by simp, rfl⟩⟩, rfl, by simp⟩
  have HB3 := Lib.hid (HBI.out.drawn hd3)
  clear hc3 hd3 HC2 HR2
  go_wp2_with fail
  go_loopw [7, 8] (fun v i wr => ∃ (ps : List Pat) (xs : List Value) (u : Value), u = v ∧ i = .int .i64 ps.length ∧ ps.length ≤ m ∧ DfSt C A n c w3 ps xs u wr) (fun _ i _ => m - (intOf i).toNat)
  case atStart => exact ⟨[], [], _, rfl, rfl, by simp, HST.out⟩
  case round =>
    obtain ⟨ps, xs, u, rfl, rfl, hlen, hst⟩ := hrel
    have HS := Lib.hid hst
    clear hst HST
    by_cases hlt : ps.length < m
    · have t1 : decide (ps.length < m) = true := by simp; omega
      go_wp2_with fail
      refine (l18Tree_any C A n c hn 2 2 m _ (by omega) (by omega) (by omega) (by omega) HS.out.cur (HB3.out.drawn HS.out.drawn)).mono ?_
      rintro e w4 ⟨p, kvp, hcp, rfl, hkp, hc4, hd4⟩
      have HS4 := Lib.hid (HS.out.step hd4 hc4)
      have HKP := Lib.hid (KidsF.keep (G := fun k => w3.heap.size ≤ k ∧ some k ≠ u.ownBlock) (fun _ _ _ => rfl) (Nat.le_refl _) (fun k hk _ => ⟨by have := HS.out.drawn.below.size; omega, fun e => by have := (HS.out.row.lt k e.symm).2.1; omega⟩) p kvp hkp)
      have HCP := Lib.hid hcp
      clear hcp hkp hc4 hd4 HS
      have hlw := Later.alloc (Later.refl w4) (patCells p.op p.text p.num p.lo p.hi kvp)
      obtain ⟨i, hi, hz0, hz1, hz2⟩ := info_parts infoPat
      go_wp2_with (at_builtin; refine wpList_append_has _ rfl _ _ _ rfl w3.heap.size TP i _ 6 72 Try.underlying24 hi hz0 hz1 hz2 rfl _ ps.length xs rfl ((HS4.out.later hlw).row) _ 1 1 [.int .i64 p.op, .string p.text, .int .i64 p.num, .int .i64 p.lo, .int .i64 p.hi, kvp] rfl rfl ?c1 ?c2 (by omega) ?c3 ?c4 ?c5 ?_; fail_if_success done)
      case c1 => exact cells_new _ [_, _, _, _, _, _] _
      case c2 =>
        intro u hu
        obtain ⟨ka, kc, rfl, _⟩ := HKP.out.form
        simp only [List.mem_cons, List.not_mem_nil, or_false] at hu
        rcases hu with rfl | rfl | rfl | rfl | rfl | rfl <;> rfl
      case c3 => simp only [maxLen]; omega
      case c4 => omega
      case c5 => have := HS4.out.drawn.below.size; simp; omega
      intro v' w' hrow hgrow hblock
      have HS5 := Lib.hid ((HS4.out.later hlw).grown (KidsF.keep (fun k _ hk => hlw.block k hk) hlw.size (fun k hk _ => hk) p kvp HKP.out) HCP.out hrow hgrow (by simpa using hblock))
      clear hrow hgrow hblock hlw HS4 HKP HCP
      go_wp2_with fail
      go_roundw
      case rel => exact ⟨ps ++ [p], _, _, rfl, by simp, by simp; omega, HS5.out⟩
      case measure => simp [intOf]; omega
    · have t1 : decide (ps.length < m) = false := by simp; omega
      have hw3 := HS.out.drawn.below.size
      obtain ⟨dA, dc, hu, hdc, hrf⟩ := rowF_mk HS.out.row HS.out.els (fun k hk => hk.1)
      subst hu
      have hsm : Smalls ps := fun j hj => by have := HS.out.cnt _ (List.getElem_mem hj); unfold Small; omega
      have HSM := Lib.hid hsm
      have HRF := Lib.hid hrf
      have HCU := Lib.hid HS.out.cur
      have HDR := Lib.hid HS.out.drawn
      clear HS hsm hrf hlt
      go_wp2_with fail
      refine (l1Size_any A n c hn _).mono ?_
      rintro e w' ⟨q, hq0, hq1, rfl, hw'⟩
      obtain rfl : wr = w' := hw'.symm
      go_wp2_with fail
      refine (l1Below_any C A n c _ HCU.out (HB3.out.drawn HDR.out) hn q (by omega)).mono ?_
      rintro e w5 ⟨x, hx2, hx3, rfl, hc5, hd5⟩
      have HRF5 := Lib.hid (RowF.drawn hd5 hC3 HRF.out)
      have HDR5 := Lib.hid (HDR.out.trans hd5)
      have HCU5 := Lib.hid hc5
      have hsz5 := hd5.below.size
      clear hc5 hd5 HCU HDR HRF
      go_wp2_with fail
      refine (l18Tree_any C A n c hn 4 (1 + x) m _ (by omega) (by omega) (by omega) (by omega) HCU5.out (HB3.out.drawn HDR5.out)).mono ?_
      rintro e w6 ⟨p, kv, hcp, rfl, hkp, hc6, hd6⟩
      have HRF6 := Lib.hid (RowF.drawn hd6 hC3 HRF5.out)
      have HKP6 := Lib.hid (KidsF.keep (G := fun k => w3.heap.size ≤ k) (fun _ _ _ => rfl) (Nat.le_refl _) (fun k hk _ => by omega) p kv hkp)
      have HDR6 := Lib.hid (HDR5.out.trans hd6)
      have HCU6 := Lib.hid hc6
      have HCP := Lib.hid (show Small p by unfold Small; omega)
      have hsz6 := hd6.below.size
      clear hc6 hd6 hkp HCU5 HDR5 HRF5 hcp
      obtain ⟨ka, kc, hkv, _, _⟩ := HKP6.out.form
      subst hkv
      go_wp2_with fail
      have hl7 := Later.alloc (Later.refl w6) (patCells p.op p.text p.num p.lo p.hi (.slice ka p.kids.length kc))
      have hC6 := HCU6.out.lt
      refine (l1Once_any C A n c _ (HCU6.out.later hl7) ((HB3.out.drawn HDR6.out).later hl7) hn 25 (by omega)).mono ?_
      rintro e w7 ⟨b, rfl, hc7, hd7⟩
      have HE7 : Hid (w7.heap[w6.heap.size]? = some (patCells p.op p.text p.num p.lo p.hi (.slice ka p.kids.length kc))) := Lib.hid (hd7.has (heap_alloc_new w6 _) (by omega))
      have HC7 := Lib.hid hc7
      have HD7 := Lib.hid ((Drawn.later hl7 (by omega)).trans hd7)
      clear hc7 hd7 hl7
      go_upto_if 35 with (fail)
      go_cut [] (fun wr => EndSt C A n c w6 p (.slice ka p.kids.length kc) wr)
      case first =>
        cases b
        · go_wp2_with fail
          go_meet
          exact ⟨_, HE7.out, HC7.out, HD7.out⟩
        · go_wp2_with fail
          refine (l1Below_any C A n c _ HC7.out ((HB3.out.drawn HDR6.out).drawn HD7.out) hn 200 (by omega)).mono ?_
          rintro e w8 ⟨y, hy0, hy1, rfl, hc8, hd8⟩
          have HE8 := Lib.hid (hd8.has HE7.out (by omega))
          have HC8 := Lib.hid hc8
          have HD8 := Lib.hid (HD7.out.trans hd8)
          clear hc8 hd8
          obtain ⟨p0, p1, p2, p3, p4, p5⟩ := cells_p HE8.out
          obtain ⟨f0, f1, f2, f3, f4, f5⟩ := frozen_p HE8.out
          go_wp2_with fail
          go_meet
          exact ⟨_, (set6 HE8.out _).2.2.1, HC8.out.own (by omega) _ _, HD8.out.own hC6 (Nat.le_refl _) _ _⟩
      case rest =>
      obtain ⟨w8, hnm⟩ : ∃ x, x = wc := ⟨_, rfl⟩
      rw [← hnm] at hcut ⊢
      clear hnm wc HE7 HC7 HD7
      obtain ⟨num, he8, hc8, hd8⟩ := hcut
      have HE8 := Lib.hid he8
      have HC8 := Lib.hid hc8
      have HD8 := Lib.hid hd8
      clear he8 hc8 hd8
      go_wp2_with fail
      -- region 11: 8 operations, the last [6, 7]
      refine wpV_begin [6, 7] [] (fun x => x.heap[w6.heap.size]? = some (patCells p.op p.text num p.lo p.hi (.slice ka p.kids.length kc))) (by kernel_rfl) (fun w9 hw9 => ?_)
      have HE9 := Lib.hid ((drew_later hw9).has HE8.out)
      have HC9 := Lib.hid (HC8.out.later (drew_later hw9))
      have HD9 := Lib.hid (HD8.out.trans (Drawn.later (drew_later hw9) (Nat.le_of_lt HC8.out.lt)))
      clear hw9 HE8 HC8 HD8
      have HS : Hid ((fun x => x.heap[w6.heap.size]? = some (patCells p.op p.text num p.lo p.hi (.slice ka p.kids.length kc))) w9) := Lib.hid HE9.out
      refine wpV_take 0 (some 40) (v := ?_) rfl rfl (by kernel_rfl) (fun _ _ _ h => h) rfl HS.out (fun x hx => ?_) ?_
      rotate_left 1
      · go_simp; first | done | with_reducible rfl | rw [if_neg (by omega)] | rw [if_pos (by omega)]
      simp only [Act.put, nA, nB, nC]
      refine wpV_take 1 (some 41) (v := ?_) rfl rfl (by kernel_rfl) (fun _ _ _ h => h) rfl HS.out (fun x hx => ?_) ?_
      rotate_left 1
      · obtain ⟨p0, p1, p2, p3, p4, p5⟩ := cells_p hx; go_simp; first | done | with_reducible rfl | rw [if_neg (by omega)] | rw [if_pos (by omega)]
      simp only [Act.put, nA, nB, nC]
      refine wpV_take 2 (some 42) (v := ?_) rfl rfl (by kernel_rfl) (fun _ _ _ h => h) rfl HS.out (fun x hx => ?_) ?_
      rotate_left 1
      · go_simp; first | done | with_reducible rfl | rw [if_neg (by omega)] | rw [if_pos (by omega)]
      simp only [Act.put, nA, nB, nC]
      refine wpV_step 3 (by kernel_rfl) rfl rfl ?_  -- buildSlice 
      go_wp2_with fail
      have hl10 := Later.alloc (Later.refl w9) (.cells #[.string ⟨#[98, 97, 110, 97, 110, 97]⟩, .string ⟨#[]⟩, .string ⟨#[97]⟩, .string ⟨#[110, 97, 98]⟩, .string ⟨#[98, 97, 110, 97, 110, 97, 98, 97, 110]⟩, .string ⟨#[97, 98, 44, 99]⟩, .string ⟨#[97, 97, 97, 97]⟩] 9)
      refine ⟨hl10.has HS.out, ?_⟩
      refine wpV_step 4 (by kernel_rfl) rfl rfl ?_  -- call value (Go.Operand.func 65)
      go_wp2_with fail
      have hC9 := HC9.out.lt
      refine (l1Pick_any C A n c _ (HC9.out.later hl10) (((HB3.out.drawn HDR6.out).drawn HD9.out).later hl10) hn w9.heap.size 7 7 (fun v => v.size ≤ 9) (by omega) (by omega) (by simp) (by omega) (fun j hj => ?_)).mono ?_
      · have hr := fun j => cell_of_row _ w9.heap.size j _ _ _ (heap_alloc_new w9 (.cells #[.string ⟨#[98, 97, 110, 97, 110, 97]⟩, .string ⟨#[]⟩, .string ⟨#[97]⟩, .string ⟨#[110, 97, 98]⟩, .string ⟨#[98, 97, 110, 97, 110, 97, 98, 97, 110]⟩, .string ⟨#[97, 98, 44, 99]⟩, .string ⟨#[97, 97, 97, 97]⟩] 9))
        rcases j with _ | _ | _ | _ | _ | _ | _ | j
        all_goals first | omega | exact ⟨_, by decide, hr _⟩
      rintro e w10 ⟨s, hs, rfl, hc10, hd10⟩
      have HE10 := Lib.hid (hd10.has (hl10.has HE9.out) (by omega))
      have HD10 := Lib.hid ((HD9.out.trans (Drawn.later hl10 (Nat.le_of_lt hC9))).trans hd10)
      clear hl10 hc10 hd10 HS HC9 HD9 HE9
      have HS : Hid ((fun x => x.heap[w6.heap.size]? = some (patCells p.op p.text num p.lo p.hi (.slice ka p.kids.length kc))) w10) := Lib.hid HE10.out
      go_wp2_with fail
      refine ⟨HS.out, ?_⟩
      refine wpV_take 5 (some 2) (v := ?_) rfl rfl (by kernel_rfl) (fun _ _ _ h => h) rfl HS.out (fun x hx => ?_) ?_
      rotate_left 1
      · go_simp; first | done | with_reducible rfl | rw [if_neg (by omega)] | rw [if_pos (by omega)]
      simp only [Act.put, nA, nB, nC]
      refine wpV_last [_, _] (by kernel_rfl) rfl rfl ?_
      simp only [List.getElem_toArray, List.getElem_cons_succ, List.getElem_cons_zero]
      have HR10 := Lib.hid (HD10.out.has (HDR6.out.has HR3.out (by omega)) (by omega))
      have hR10 := has_lt' HR10.out
      have hRw := has_lt' HR3.out
      have HRF10 := Lib.hid (RowF.drawn HD10.out hC3 HRF6.out)
      have HKP10 := Lib.hid (KidsF.drawn HD10.out hC3 HKP6.out)
      have HLL := Lib.hid ((((HL2.out.drawn HL3.out (by omega)).drawn HDR6.out (by omega)).drawn HD10.out (by omega)))
      clear HE10 HD10 HDR6 HR3 HRF6 HKP6 HS
      obtain ⟨q0, q1, q2, q3, q4, q5⟩ := cells_p HR10.out
      obtain ⟨f0, f1, f2, f3, f4, f5⟩ := frozen_p HR10.out
      go_wp2_with fail
      have HO := fun k hk => Lib.hid (set6_other (wr := w10) (R := w.heap.size) (k := k) hk (.int .i64 p.op) (.string p.text) (.int .i64 num) (.int .i64 p.lo) (.int .i64 p.hi) (.slice ka p.kids.length kc))
      refine bodyPost_ret (v := .tuple #[.slice dA ps.length dc, (Pat.mk p.op p.text num p.lo p.hi p.kids).v (.slice ka p.kids.length kc), .string s]) (by simp [results, Try.results33, go_sem, q0, q1, q2, q3, q4, q5, f0, f1, f2, f3, f4, f5, hR10]; exact ⟨rfl, rfl, rfl, rfl, rfl⟩) rfl ?_
      refine ⟨ps, dA, dc, .mk p.op p.text num p.lo p.hi p.kids, _, s, rfl, hdc, by omega, HSM.out, ?_, ?_, ?_, hs, ?_⟩
      · have := HCP.out; unfold Small at this ⊢; rw [count_eq] at this ⊢; exact this
      · exact RowF.keep (fun k hk _ => (HO k (by omega)).out) (by simp) (fun k hk _ => by omega) _ _ _ HRF10.out
      · have := (KidsF.keep (G := fun k => w.heap.size ≤ k) (fun k hk _ => (HO k (by omega)).out) (by simp) (fun k hk _ => by omega) _ _ HKP10.out).form
        simpa only [KidsF, Pat.kids] using this
      · exact (((((HLL.out.setCell (by simp) _).setCell (by simp) _).setCell (by simp) _).setCell (by simp) _).setCell (by simp) _).setCell (by simp) _
end Go.Proofs.Ytndefbecoahfhaa

/- The walk of a drawn region under a fact S of the worlds, where either of two operations may come next. -/
namespace Go.Proofs.Ytndefbecoahfhaa
open Go.RowKit

section
variable {P : Program} {ops : Array Oper} {Q : Exit → Act → World → Prop} {S : World → Prop}
theorem wpV_now {i : Nat} {L U : List Nat} {o : Oper} {fuel : Nat} {listed : Array Bool} {a : Act} {w : World} (hu : U.contains i = false) (ho : ops[i]? = some o)
    (h : wpList P ops (StepV Q S (fun a' w' => wpV P ops Q L U S fuel (listed.setIfInBounds i true) a' w')) [o] a w) :
    wpOp P ops Q i (fun a' w' => ((tlOf L U i = false → S w') ∧ (puOf U i = true → w' = w)) ∧ wpAnyU P .any ops Q (tlOf L U) (puOf U) S fuel (listed.setIfInBounds i true) a' w') a w := by
  unfold wpList at h
  unfold wpOp
  rw [ho]
  have hK : ∀ a' w', wpList P ops (StepV Q S (fun a' w' => wpV P ops Q L U S fuel (listed.setIfInBounds i true) a' w')) [] a' w' →
      (((tlOf L U i = false → S w') ∧ (puOf U i = true → w' = w)) ∧ wpAnyU P .any ops Q (tlOf L U) (puOf U) S fuel (listed.setIfInBounds i true) a' w') := fun a' w' h' =>
    ⟨⟨fun _ => h'.1, fun h0 => (by unfold puOf at h0; rw [hu] at h0; cases h0)⟩, h'.2⟩
  have hup : o.wp P a w (wpList P ops (StepV Q S (fun a' w' => wpV P ops Q L U S fuel (listed.setIfInBounds i true) a' w')) []) (StepV Q S (fun a' w' => wpV P ops Q L U S fuel (listed.setIfInBounds i true) a' w')) →
      o.wp P a w (wpList P ops (StepV Q S (fun a' w' => wpV P ops Q L U S fuel (listed.setIfInBounds i true) a' w')) []) Q := fun h' => by
    unfold Oper.wp at *
    generalize (execOp a.eval o).run P w = r at *
    cases r with
    | ok n w' => cases n <;> exact h'
    | halt x w' => cases x <;> exact h'
  show if Region.wanted o (yielded ops a.tmps) = true then _ else _
  split
  · rename_i hw
    rw [if_pos hw] at h
    rcases h with h | ⟨h1, h2⟩
    · exact .inl (Oper.wp_mono hK (hup h))
    · exact .inr ⟨h1, h2⟩
  · rename_i hw
    rw [if_neg hw] at h
    exact hK _ _ h
/-- Either of two comes next. -/
theorem wpV_two (i j : Nat) {L U : List Nat} {oi oj : Oper} {fuel : Nat} {listed : Array Bool} {a : Act} {w : World} (hr : Region.ready .any ops listed = [i, j]) (hui : U.contains i = false) (huj : U.contains j = false) (hoi : ops[i]? = some oi) (hoj : ops[j]? = some oj)
    (h1 : wpList P ops (StepV Q S (fun a' w' => wpV P ops Q L U S fuel (listed.setIfInBounds i true) a' w')) [oi] a w)
    (h2 : wpList P ops (StepV Q S (fun a' w' => wpV P ops Q L U S fuel (listed.setIfInBounds j true) a' w')) [oj] a w) : wpV P ops Q L U S (fuel + 1) listed a w := by
  refine ⟨fun h0 => (by rw [hr] at h0; cases h0), fun k hk => ?_⟩
  rw [hr] at hk
  simp only [List.mem_cons, List.not_mem_nil, or_false] at hk
  rcases hk with rfl | rfl
  · exact wpV_now hui hoi h1
  · exact wpV_now huj hoj h2
end
end Go.Proofs.Ytndefbecoahfhaa

/- spec.DrawMatchPattern, DrawSearchPattern, DrawPrunedSearch, DrawEndingsOf: well-formed arguments. Printed by gen_drdraw.py. -/
namespace Go.Proofs.Ytndefbecoahfhaa
open Go.RowKit

def DrewFull (w : World) (e : Ending) (w' : World) : Prop := ∃ (defs : List Pat) (dA : Option Addr) (dc : Nat) (p : Pat) (kv : Value) (s : ByteArray) (fr fuel : Int), 0 ≤ fr ∧ fr ≤ 2 ∧ 0 ≤ fuel ∧ fuel ≤ 4001 ∧ e = .returned (.tuple #[.slice dA defs.length dc, p.v kv, .string s, .int .i64 fr, .int .i64 fuel]) ∧ Made w defs dA dc p kv s w'
def DrewFour (w : World) (e : Ending) (w' : World) : Prop := ∃ (defs : List Pat) (dA : Option Addr) (dc : Nat) (p : Pat) (kv : Value) (s : ByteArray) (x : Int), -1 ≤ x ∧ x ≤ 4001 ∧ e = .returned (.tuple #[.slice dA defs.length dc, p.v kv, .string s, .int .i64 x]) ∧ Made w defs dA dc p kv s w'
theorem end_at (n : Nat) : IntKind.i64.wrap ((n : Int).tmod 3 - IntKind.i64.wrap (((n : Int).tmod 17).tdiv 16)) = (n : Int) % 3 - (n : Int) % 17 / 16 := by
  rw [Int.tmod_eq_emod_of_nonneg (by omega), Int.tmod_eq_emod_of_nonneg (by omega), Int.tdiv_eq_ediv_of_nonneg (by omega), IntWalk.i64_in ((n : Int) % 17 / 16) (by omega), IntWalk.i64_in _ (by omega)]
/-- The result is stored into its block, the first that the call made. -/
theorem Made.store {w w2 x : World} {defs : List Pat} {dA : Option Addr} {dc : Nat} {p : Pat} {kv : Value} {s : ByteArray} {o : Obj} (h : Made (w.alloc o) defs dA dc p kv s w2) (hl : Later w2 x) (v0 v1 v2 v3 v4 v5 : Value) :
    Made w defs dA dc p kv s ((((((x.setCell ⟨w.heap.size, 0, none⟩ v0).setCell ⟨w.heap.size, 1, none⟩ v1).setCell ⟨w.heap.size, 2, none⟩ v2).setCell ⟨w.heap.size, 3, none⟩ v3).setCell ⟨w.heap.size, 4, none⟩ v4).setCell ⟨w.heap.size, 5, none⟩ v5) := by
  obtain ⟨h1, h2, h3, h4, h5, h6, h7, h8⟩ := h
  have hs := hl.size
  have hO := fun k hk => set6_other (wr := x) (R := w.heap.size) (k := k) hk v0 v1 v2 v3 v4 v5
  have hF : ∀ k, (w.alloc o).heap.size ≤ k → k ≠ w.heap.size ∧ w.heap.size ≤ k := fun k hk => by simp at hk; omega
  refine ⟨h1, h2, h3, h4, RowF.keep (fun k hk hlt => (hO k (hF k hk).1).trans (hl.block k hlt)) (by simpa using hs) (fun k hk _ => (hF k hk).2) _ _ _ h5, KidsF.keep (fun k hk hlt => (hO k (hF k hk).1).trans (hl.block k hlt)) (by simpa using hs) (fun k hk _ => (hF k hk).2) _ _ h6, h7, ?_⟩
  have hl0 : Later w x := (((Later.refl w).alloc o).trans h8).trans hl
  exact (((((hl0.setCell (Nat.le_refl _) _).setCell (Nat.le_refl _) _).setCell (Nat.le_refl _) _).setCell (Nat.le_refl _) _).setCell (Nat.le_refl _) _).setCell (Nat.le_refl _) _

section
variable (A : Option Addr) (n c : Nat) (w : World) (hby : BytesAt w A n) (hn : n ≤ 1048576)
include hby hn
set_option maxRecDepth 100000 in
set_option maxHeartbeats 4000000 in
theorem drawMatch_any : Calls Try.prog 10 #[.slice A n c] w (DrewFull w) := by
  have HBY := Lib.hid hby
  clear hby
  go_enter Try.func10, Try.ntmps10
  go_wp2_with fail
  have hl0 := Later.alloc (Later.refl w) (patCells 0 ⟨#[]⟩ 0 0 0 (.slice none 0 0))
  refine (l18Match_any A n c _ (HBY.out.later hl0) hn).mono ?_
  rintro e w2 ⟨defs, dA, dc, p, kv, s, rfl, hmd⟩
  have HMD := Lib.hid hmd
  obtain ⟨ka, kc, hkv, _, _⟩ := hmd.2.2.2.2.2.1.form
  subst hkv
  clear hmd
  go_wp2_with fail
  have hl2 := Later.alloc (Later.refl w2) (patCells p.op p.text p.num p.lo p.hi (.slice ka p.kids.length kc))
  refine (l1New_any A n c _ (((HBY.out.later hl0).later HMD.out.2.2.2.2.2.2.2).later hl2) hn).mono ?_
  rintro e w3 ⟨C, hC, rfl, hc3, hl3⟩
  have hCw : w2.heap.size < C := by simp at hC; omega
  have hw2 : w.heap.size < w2.heap.size := by have := HMD.out.2.2.2.2.2.2.2.size; simp at this; omega
  have HL3 := Lib.hid hl3
  have HC3 := Lib.hid hc3
  clear hc3 hl3 hl2 hC
  go_wp2_with fail
  -- region 3: 13 operations, the last [9, 10, 11, 12]
  refine wpV_begin [9, 10, 11, 12] [2] (fun x => x.heap[w2.heap.size]? = some (patCells p.op p.text p.num p.lo p.hi (.slice ka p.kids.length kc))) (by kernel_rfl) (fun w4 hw4 => ?_)
  have HL4 := Lib.hid (HL3.out.trans (drew_later hw4))
  have HC4 := Lib.hid (HC3.out.later (drew_later hw4))
  have HE4 := Lib.hid (HL4.out.has (heap_alloc_new w2 (patCells p.op p.text p.num p.lo p.hi (.slice ka p.kids.length kc))))
  clear hw4 HL3 HC3
  have hC4 := HC4.out.lt
  have HS : Hid ((fun x => x.heap[w2.heap.size]? = some (patCells p.op p.text p.num p.lo p.hi (.slice ka p.kids.length kc))) w4) := Lib.hid HE4.out
  have HR4 := Lib.hid (((Later.refl w2).alloc _).trans HL4.out)
  have HB4 := Lib.hid (HBY.out.in_ (C := C) (by omega) ((hl0.trans HMD.out.2.2.2.2.2.2.2).trans HR4.out))
  refine wpV_take 0 (some 19) (v := ?_) rfl rfl (by kernel_rfl) (fun _ _ _ h => h) rfl HS.out (fun x hx => ?_) ?_
  rotate_left 1
  · go_simp; first | done | with_reducible rfl | rw [if_neg (by omega)] | rw [if_pos (by omega)]
  simp only [Act.put, nA, nB, nC]
  refine wpV_take 1 (some 20) (v := ?_) rfl rfl (by kernel_rfl) (fun _ _ _ h => h) rfl HS.out (fun x hx => ?_) ?_
  rotate_left 1
  · obtain ⟨p0, p1, p2, p3, p4, p5⟩ := cells_p hx; go_simp; first | done | with_reducible rfl | rw [if_neg (by omega)] | rw [if_pos (by omega)]
  simp only [Act.put, nA, nB, nC]
  refine wpV_pure 2 (some 21) (v := ?_) rfl rfl (by kernel_rfl) (fun _ _ _ h => h) rfl (fun x => ?_) ?_
  rotate_left 1
  · go_simp; first | done | with_reducible rfl | rw [if_neg (by omega)] | rw [if_pos (by omega)]
  simp only [Act.put, nA, nB, nC]
  refine wpV_take 3 (some 22) (v := ?_) rfl rfl (by kernel_rfl) (fun _ _ _ h => h) rfl HS.out (fun x hx => ?_) ?_
  rotate_left 1
  · go_simp; first | done | with_reducible rfl | rw [if_neg (by omega)] | rw [if_pos (by omega)]
  simp only [Act.put, nA, nB, nC]
  refine wpV_take 5 (some 24) (v := ?_) rfl rfl (by kernel_rfl) (fun _ _ _ h => h) rfl HS.out (fun x hx => ?_) ?_
  rotate_left 1
  · go_simp; first | done | with_reducible rfl | rw [if_neg (by omega)] | rw [if_pos (by omega)]
  simp only [Act.put, nA, nB, nC]
  refine wpV_two 4 6 (by kernel_rfl) rfl rfl rfl rfl ?_ ?_
  · go_wp2_with fail
    refine (l1Below_any C A n c _ HC4.out HB4.out hn 3 (by omega)).mono ?_
    rintro e w5 ⟨fr, hf0, hf1, rfl, hc5, hd5⟩
    have HC5 := Lib.hid hc5
    have HD5 := Lib.hid hd5
    clear HS
    have HS : Hid ((fun x => x.heap[w2.heap.size]? = some (patCells p.op p.text p.num p.lo p.hi (.slice ka p.kids.length kc))) w5) := Lib.hid (hd5.has HE4.out (by omega))
    clear hc5 hd5
    go_wp2_with fail
    refine ⟨HS.out, ?_⟩
    refine wpV_step 6 (by kernel_rfl) rfl rfl ?_
    go_wp2_with fail
    have hl6 := Later.alloc (Later.refl w5) (.cells #[.int .i64 0, .int .i64 5, .int .i64 30, .int .i64 600, .int .i64 600, .int .i64 4000, .int .i64 4001] 3)
    have hrow := fun j => cell_of_row _ w5.heap.size j _ _ _ (heap_alloc_new w5 (.cells #[.int .i64 0, .int .i64 5, .int .i64 30, .int .i64 600, .int .i64 600, .int .i64 4000, .int .i64 4001] 3))
    have HROW := Lib.hid hrow
    clear hrow
    have HL6 := Lib.hid hl6
    clear hl6
    have HST := HS
    clear HS
    have HS : Hid ((fun x => x.heap[w2.heap.size]? = some (patCells p.op p.text p.num p.lo p.hi (.slice ka p.kids.length kc))) (w5.alloc (.cells #[.int .i64 0, .int .i64 5, .int .i64 30, .int .i64 600, .int .i64 600, .int .i64 4000, .int .i64 4001] 3))) := Lib.hid (HL6.out.has HST.out)
    refine ⟨HS.out, ?_⟩
    refine wpV_step 7 (by kernel_rfl) rfl rfl ?_
    go_wp2_with fail
    have hC5 := HC5.out.lt
    refine (l1PickInt_any C A n c _ (HC5.out.later HL6.out) ((HB4.out.drawn HD5.out).later HL6.out) hn w5.heap.size 7 7 (fun v => 0 ≤ v ∧ v ≤ 4001) (by omega) (by omega) (by simp) (by omega) (fun j hj => ?_)).mono ?_
    · rcases j with _ | _ | _ | _ | _ | _ | _ | j
      all_goals first | omega | exact ⟨_, by decide, HROW.out _⟩
    rintro e w7 ⟨fuel, hfu, rfl, hc7, hd7⟩
    have HD7 := Lib.hid ((HD5.out.trans (Drawn.later HL6.out (Nat.le_of_lt hC5))).trans hd7)
    clear HS hc7 hd7
    have HS : Hid ((fun x => x.heap[w2.heap.size]? = some (patCells p.op p.text p.num p.lo p.hi (.slice ka p.kids.length kc))) w7) := Lib.hid (HD7.out.has HE4.out (by omega))
    go_wp2_with fail
    refine ⟨HS.out, ?_⟩
    refine wpV_take 8 (some 2) (v := ?_) rfl rfl (by kernel_rfl) (fun _ _ _ h => h) rfl HS.out (fun x hx => ?_) ?_
    rotate_left 1
    · go_simp; first | done | with_reducible rfl | rw [if_neg (by omega)] | rw [if_pos (by omega)]
    simp only [Act.put, nA, nB, nC]
    refine wpV_last [_, _, _, _] (by kernel_rfl) rfl rfl ?_
    simp only [List.getElem_toArray, List.getElem_cons_succ, List.getElem_cons_zero]
    have HL7 := Lib.hid (HR4.out.drawn HD7.out (by omega))
    have HR7 := Lib.hid (HL7.out.has (Later.has HMD.out.2.2.2.2.2.2.2 (heap_alloc_new w (patCells 0 ⟨#[]⟩ 0 0 0 (.slice none 0 0)))))
    have hR7 := has_lt' HR7.out
    clear HS HE4
    obtain ⟨q0, q1, q2, q3, q4, q5⟩ := cells_p HR7.out
    obtain ⟨f0, f1, f2, f3, f4, f5⟩ := frozen_p HR7.out
    go_wp2_with fail
    refine bodyPost_ret (v := .tuple #[.slice dA defs.length dc, p.v (.slice ka p.kids.length kc), .string s, .int .i64 fr, .int .i64 fuel]) (by simp [results, Try.results10, go_sem, q0, q1, q2, q3, q4, q5, f0, f1, f2, f3, f4, f5, hR7]) rfl ?_
    exact ⟨defs, dA, dc, p, _, s, fr, fuel, hf0, by omega, hfu.1, hfu.2, rfl, HMD.out.store HL7.out _ _ _ _ _ _⟩
  · go_wp2_with fail
    have hl5 := Later.alloc (Later.refl w4) (.cells #[.int .i64 0, .int .i64 5, .int .i64 30, .int .i64 600, .int .i64 600, .int .i64 4000, .int .i64 4001] 3)
    have hrow := fun j => cell_of_row _ w4.heap.size j _ _ _ (heap_alloc_new w4 (.cells #[.int .i64 0, .int .i64 5, .int .i64 30, .int .i64 600, .int .i64 600, .int .i64 4000, .int .i64 4001] 3))
    have HROW := Lib.hid hrow
    clear hrow
    have HL5 := Lib.hid hl5
    clear hl5
    have HST := HS
    clear HS
    have HS : Hid ((fun x => x.heap[w2.heap.size]? = some (patCells p.op p.text p.num p.lo p.hi (.slice ka p.kids.length kc))) (w4.alloc (.cells #[.int .i64 0, .int .i64 5, .int .i64 30, .int .i64 600, .int .i64 600, .int .i64 4000, .int .i64 4001] 3))) := Lib.hid (HL5.out.has HST.out)
    refine ⟨HS.out, ?_⟩
    refine wpV_step 4 (by kernel_rfl) rfl rfl ?_
    go_wp2_with fail
    refine (l1Below_any C A n c _ (HC4.out.later HL5.out) (HB4.out.later HL5.out) hn 3 (by omega)).mono ?_
    rintro e w5 ⟨fr, hf0, hf1, rfl, hc5, hd5⟩
    have HC5 := Lib.hid hc5
    have HD5 := Lib.hid ((Drawn.later HL5.out (Nat.le_of_lt hC4)).trans hd5)
    have HROW5 := Lib.hid (fun j => (hd5.cell (g := w4.heap.size) j (by simp) (by omega)).trans (HROW.out j))
    have hg5 : w4.heap.size < w5.heap.size := by have := hd5.below.size; simp at this; omega
    clear HS
    have HS : Hid ((fun x => x.heap[w2.heap.size]? = some (patCells p.op p.text p.num p.lo p.hi (.slice ka p.kids.length kc))) w5) := Lib.hid (hd5.has (HL5.out.has HE4.out) (by omega))
    clear hc5 hd5
    go_wp2_with fail
    refine ⟨HS.out, ?_⟩
    refine wpV_step 7 (by kernel_rfl) rfl rfl ?_
    go_wp2_with fail
    have hC5 := HC5.out.lt
    refine (l1PickInt_any C A n c _ HC5.out (HB4.out.drawn HD5.out) hn w4.heap.size 7 7 (fun v => 0 ≤ v ∧ v ≤ 4001) (by omega) (by omega) hg5 (by omega) (fun j hj => ?_)).mono ?_
    · rcases j with _ | _ | _ | _ | _ | _ | _ | j
      all_goals first | omega | exact ⟨_, by decide, HROW5.out _⟩
    rintro e w7 ⟨fuel, hfu, rfl, hc7, hd7⟩
    have HD7 := Lib.hid (HD5.out.trans hd7)
    clear HS hc7 hd7
    have HS : Hid ((fun x => x.heap[w2.heap.size]? = some (patCells p.op p.text p.num p.lo p.hi (.slice ka p.kids.length kc))) w7) := Lib.hid (HD7.out.has HE4.out (by omega))
    go_wp2_with fail
    refine ⟨HS.out, ?_⟩
    refine wpV_take 8 (some 2) (v := ?_) rfl rfl (by kernel_rfl) (fun _ _ _ h => h) rfl HS.out (fun x hx => ?_) ?_
    rotate_left 1
    · go_simp; first | done | with_reducible rfl | rw [if_neg (by omega)] | rw [if_pos (by omega)]
    simp only [Act.put, nA, nB, nC]
    refine wpV_last [_, _, _, _] (by kernel_rfl) rfl rfl ?_
    simp only [List.getElem_toArray, List.getElem_cons_succ, List.getElem_cons_zero]
    have HL7 := Lib.hid (HR4.out.drawn HD7.out (by omega))
    have HR7 := Lib.hid (HL7.out.has (Later.has HMD.out.2.2.2.2.2.2.2 (heap_alloc_new w (patCells 0 ⟨#[]⟩ 0 0 0 (.slice none 0 0)))))
    have hR7 := has_lt' HR7.out
    clear HS HE4
    obtain ⟨q0, q1, q2, q3, q4, q5⟩ := cells_p HR7.out
    obtain ⟨f0, f1, f2, f3, f4, f5⟩ := frozen_p HR7.out
    go_wp2_with fail
    refine bodyPost_ret (v := .tuple #[.slice dA defs.length dc, p.v (.slice ka p.kids.length kc), .string s, .int .i64 fr, .int .i64 fuel]) (by simp [results, Try.results10, go_sem, q0, q1, q2, q3, q4, q5, f0, f1, f2, f3, f4, f5, hR7]) rfl ?_
    exact ⟨defs, dA, dc, p, _, s, fr, fuel, hf0, by omega, hfu.1, hfu.2, rfl, HMD.out.store HL7.out _ _ _ _ _ _⟩

set_option maxRecDepth 100000 in
set_option maxHeartbeats 4000000 in
theorem drawSearch_any : Calls Try.prog 51 #[.slice A n c] w (DrewFour w) := by
  have HBY := Lib.hid hby
  clear hby
  go_enter Try.func51, Try.ntmps51
  go_wp2_with fail
  have hl0 := Later.alloc (Later.refl w) (patCells 0 ⟨#[]⟩ 0 0 0 (.slice none 0 0))
  refine (drawMatch_any A n c _ (HBY.out.later hl0) hn).mono ?_
  rintro e w2 ⟨defs, dA, dc, p, kv, s, fr, fuel, hfr0, hfr1, hfu0, hfu1, rfl, hmd⟩
  have HMD := Lib.hid hmd
  obtain ⟨ka, kc, hkv, _, _⟩ := hmd.2.2.2.2.2.1.form
  subst hkv
  clear hmd
  go_wp2_with fail
  have hl2 := Later.alloc (Later.refl w2) (patCells p.op p.text p.num p.lo p.hi (.slice ka p.kids.length kc))
  have HE3 := Lib.hid (heap_alloc_new w2 (patCells p.op p.text p.num p.lo p.hi (.slice ka p.kids.length kc)))
  have HL3 := Lib.hid hl2
  clear hl2
  -- region 2: 8 operations, the last [5, 6, 7]
  refine wpU_begin [5, 6, 7] [2, 3] (by kernel_rfl) (fun w4 hw4 => ?_)
  have HE4 := Lib.hid ((drew_later hw4).has HE3.out)
  have HL4 := Lib.hid (HL3.out.trans (drew_later hw4))
  clear hw4 HE3 HL3
  refine wpU_take 0 (some 19) (v := ?_) rfl rfl (by kernel_rfl) (fun _ _ _ h => h) rfl (fun x hx => ?_) ?_
  rotate_left 1
  · go_simp; first | done | with_reducible rfl | rw [if_neg (by omega)] | rw [if_pos (by omega)]
  simp only [Act.put, nA, nB, nC]
  refine wpU_take 1 (some 20) (v := ?_) rfl rfl (by kernel_rfl) (fun _ _ _ h => h) rfl (fun x hx => ?_) ?_
  rotate_left 1
  · obtain ⟨p0, p1, p2, p3, p4, p5⟩ := cells_p (hx.has HE4.out); go_simp; first | done | with_reducible rfl | rw [if_neg (by omega)] | rw [if_pos (by omega)]
  simp only [Act.put, nA, nB, nC]
  refine wpU_pure 2 (some 21) (v := ?_) rfl rfl (by kernel_rfl) (fun _ _ _ h => h) rfl (fun x => ?_) ?_
  rotate_left 1
  · go_simp; first | done | with_reducible rfl | rw [if_neg (by omega)] | rw [if_pos (by omega)]
  simp only [Act.put, nA, nB, nC]
  refine wpU_pure 3 (some 22) (v := ?_) rfl rfl (by kernel_rfl) (fun _ _ _ h => h) rfl (fun x => ?_) ?_
  rotate_left 1
  · go_simp; first | done | with_reducible rfl | rw [if_neg (by omega)] | rw [if_pos (by omega)]
  simp only [Act.put, nA, nB, nC]
  refine wpU_take 4 (some 2) (v := ?_) rfl rfl (by kernel_rfl) (fun _ _ _ h => h) rfl (fun x hx => ?_) ?_
  rotate_left 1
  · go_simp; first | done | with_reducible rfl | rw [if_neg (by omega)] | rw [if_pos (by omega)]
  simp only [Act.put, nA, nB, nC]
  refine wpU_last [_, _, _] (by kernel_rfl) rfl rfl ?_
  simp only [List.getElem_toArray, List.getElem_cons_succ, List.getElem_cons_zero]
  have HR4 := Lib.hid (HL4.out.has (Later.has HMD.out.2.2.2.2.2.2.2 (heap_alloc_new w (patCells 0 ⟨#[]⟩ 0 0 0 (.slice none 0 0)))))
  have hR4 := has_lt' HR4.out
  obtain ⟨q0, q1, q2, q3, q4, q5⟩ := cells_p HR4.out
  obtain ⟨f0, f1, f2, f3, f4, f5⟩ := frozen_p HR4.out
  go_wp2_with fail
  refine bodyPost_ret (v := .tuple #[.slice dA defs.length dc, p.v (.slice ka p.kids.length kc), .string s, .int .i64 fuel]) (by simp [results, Try.results51, go_sem, q0, q1, q2, q3, q4, q5, f0, f1, f2, f3, f4, f5, hR4]) rfl ?_
  exact ⟨defs, dA, dc, p, _, s, fuel, by omega, by omega, rfl, HMD.out.store HL4.out _ _ _ _ _ _⟩

set_option maxRecDepth 100000 in
set_option maxHeartbeats 4000000 in
theorem drawPruned_any : Calls Try.prog 27 #[.slice A n c] w (DrewFour w) := by
  have HBY := Lib.hid hby
  clear hby
  go_enter Try.func27, Try.ntmps27
  go_wp2_with fail
  have hl0 := Later.alloc (Later.refl w) (patCells 0 ⟨#[]⟩ 0 0 0 (.slice none 0 0))
  refine (drawSearch_any A n c _ (HBY.out.later hl0) hn).mono ?_
  rintro e w2 ⟨defs, dA, dc, p, kv, s, fuel, hfu0, hfu1, rfl, hmd⟩
  have HMD := Lib.hid hmd
  obtain ⟨ka, kc, hkv, _, _⟩ := hmd.2.2.2.2.2.1.form
  subst hkv
  clear hmd
  have HL4 := Lib.hid (Later.refl w2)
  have HR4 := Lib.hid (HL4.out.has (Later.has HMD.out.2.2.2.2.2.2.2 (heap_alloc_new w (patCells 0 ⟨#[]⟩ 0 0 0 (.slice none 0 0)))))
  have hR4 := has_lt' HR4.out
  obtain ⟨q0, q1, q2, q3, q4, q5⟩ := cells_p HR4.out
  obtain ⟨f0, f1, f2, f3, f4, f5⟩ := frozen_p HR4.out
  go_wp2_with fail
  refine bodyPost_ret (v := .tuple #[.slice dA defs.length dc, p.v (.slice ka p.kids.length kc), .string s, .int .i64 fuel]) (by simp [results, Try.results27, go_sem, q0, q1, q2, q3, q4, q5, f0, f1, f2, f3, f4, f5, hR4]) rfl ?_
  exact ⟨defs, dA, dc, p, _, s, fuel, by omega, by omega, rfl, HMD.out.store HL4.out _ _ _ _ _ _⟩

set_option maxRecDepth 100000 in
set_option maxHeartbeats 4000000 in
theorem drawEndings_any : Calls Try.prog 29 #[.slice A n c] w (DrewFour w) := by
  have HBY := Lib.hid hby
  clear hby
  go_enter Try.func29, Try.ntmps29
  go_wp2_with fail
  have hl0 := Later.alloc (Later.refl w) (patCells 0 ⟨#[]⟩ 0 0 0 (.slice none 0 0))
  refine (l18Match_any A n c _ (HBY.out.later hl0) hn).mono ?_
  rintro e w2 ⟨defs, dA, dc, p, kv, s, rfl, hmd⟩
  have HMD := Lib.hid hmd
  obtain ⟨ka, kc, hkv, _, _⟩ := hmd.2.2.2.2.2.1.form
  subst hkv
  clear hmd
  go_wp2_with fail
  have hl2 := Later.alloc (Later.refl w2) (patCells p.op p.text p.num p.lo p.hi (.slice ka p.kids.length kc))
  have HE3 := Lib.hid (heap_alloc_new w2 (patCells p.op p.text p.num p.lo p.hi (.slice ka p.kids.length kc)))
  have HL3 := Lib.hid hl2
  clear hl2
  -- region 2: 15 operations, the last [12, 13, 14]
  refine wpU_begin [12, 13, 14] [2, 3, 4, 5, 6, 7, 8, 9, 10] (by kernel_rfl) (fun w4 hw4 => ?_)
  have HE4 := Lib.hid ((drew_later hw4).has HE3.out)
  have HL4 := Lib.hid (HL3.out.trans (drew_later hw4))
  clear hw4 HE3 HL3
  refine wpU_take 0 (some 15) (v := ?_) rfl rfl (by kernel_rfl) (fun _ _ _ h => h) rfl (fun x hx => ?_) ?_
  rotate_left 1
  · go_simp; first | done | with_reducible rfl | rw [if_neg (by omega)] | rw [if_pos (by omega)]
  simp only [Act.put, nA, nB, nC]
  refine wpU_take 1 (some 16) (v := ?_) rfl rfl (by kernel_rfl) (fun _ _ _ h => h) rfl (fun x hx => ?_) ?_
  rotate_left 1
  · obtain ⟨p0, p1, p2, p3, p4, p5⟩ := cells_p (hx.has HE4.out); go_simp; first | done | with_reducible rfl | rw [if_neg (by omega)] | rw [if_pos (by omega)]
  simp only [Act.put, nA, nB, nC]
  refine wpU_pure 2 (some 17) (v := ?_) rfl rfl (by kernel_rfl) (fun _ _ _ h => h) rfl (fun x => ?_) ?_
  rotate_left 1
  · go_simp; first | done | with_reducible rfl | rw [if_neg (by omega)] | rw [if_pos (by omega)]
  simp only [Act.put, nA, nB, nC]
  refine wpU_pure 3 (some 18) (v := ?_) rfl rfl (by kernel_rfl) (fun _ _ _ h => h) rfl (fun x => ?_) ?_
  rotate_left 1
  · go_simp; first | done | with_reducible rfl | rw [if_neg (by omega)] | rw [if_pos (by omega)]
  simp only [Act.put, nA, nB, nC]
  refine wpU_pure 4 (some 19) (v := ?_) rfl rfl (by kernel_rfl) (fun _ _ _ h => h) rfl (fun x => ?_) ?_
  rotate_left 1
  · go_simp; first | done | with_reducible rfl | rw [if_neg (by omega)] | rw [if_pos (by omega)]
  simp only [Act.put, nA, nB, nC]
  refine wpU_pure 5 (some 20) (v := ?_) rfl rfl (by kernel_rfl) (fun _ _ _ h => h) rfl (fun x => ?_) ?_
  rotate_left 1
  · go_simp; first | done | with_reducible rfl | rw [if_neg (by omega)] | rw [if_pos (by omega)]
  simp only [Act.put, nA, nB, nC]
  refine wpU_pure 6 (some 21) (v := ?_) rfl rfl (by kernel_rfl) (fun _ _ _ h => h) rfl (fun x => ?_) ?_
  rotate_left 1
  · go_simp; first | done | with_reducible rfl | rw [if_neg (by omega)] | rw [if_pos (by omega)]
  simp only [Act.put, nA, nB, nC]
  refine wpU_pure 7 (some 22) (v := ?_) rfl rfl (by kernel_rfl) (fun _ _ _ h => h) rfl (fun x => ?_) ?_
  rotate_left 1
  · go_simp; first | done | with_reducible rfl | rw [if_neg (by omega)] | rw [if_pos (by omega)]
  simp only [Act.put, nA, nB, nC]
  refine wpU_pure 8 (some 23) (v := ?_) rfl rfl (by kernel_rfl) (fun _ _ _ h => h) rfl (fun x => ?_) ?_
  rotate_left 1
  · go_simp; first | done | with_reducible rfl | rw [if_neg (by omega)] | rw [if_pos (by omega)]
  simp only [Act.put, nA, nB, nC]
  refine wpU_pure 9 (some 24) (v := ?_) rfl rfl (by kernel_rfl) (fun _ _ _ h => h) rfl (fun x => ?_) ?_
  rotate_left 1
  · go_simp; first | done | with_reducible rfl | rw [if_neg (by omega)] | rw [if_pos (by omega)]
  simp only [Act.put, nA, nB, nC]
  refine wpU_pure 10 (some 25) (v := ?_) rfl rfl (by kernel_rfl) (fun _ _ _ h => h) rfl (fun x => ?_) ?_
  rotate_left 1
  · go_simp; first | done | with_reducible rfl | rw [if_neg (by omega)] | rw [if_pos (by omega)]
  simp only [Act.put, nA, nB, nC]
  refine wpU_take 11 (some 2) (v := ?_) rfl rfl (by kernel_rfl) (fun _ _ _ h => h) rfl (fun x hx => ?_) ?_
  rotate_left 1
  · go_simp; first | done | with_reducible rfl | rw [if_neg (by omega)] | rw [if_pos (by omega)]
  simp only [Act.put, nA, nB, nC]
  refine wpU_last [_, _, _] (by kernel_rfl) rfl rfl ?_
  simp only [List.getElem_toArray, List.getElem_cons_succ, List.getElem_cons_zero]
  have HR4 := Lib.hid (HL4.out.has (Later.has HMD.out.2.2.2.2.2.2.2 (heap_alloc_new w (patCells 0 ⟨#[]⟩ 0 0 0 (.slice none 0 0)))))
  have hR4 := has_lt' HR4.out
  obtain ⟨q0, q1, q2, q3, q4, q5⟩ := cells_p HR4.out
  obtain ⟨f0, f1, f2, f3, f4, f5⟩ := frozen_p HR4.out
  go_wp2_with fail
  refine bodyPost_ret (v := .tuple #[.slice dA defs.length dc, p.v (.slice ka p.kids.length kc), .string s, .int .i64 ((n : Int) % 3 - (n : Int) % 17 / 16)]) (by simp [results, Try.results29, go_sem, q0, q1, q2, q3, q4, q5, f0, f1, f2, f3, f4, f5, hR4]; exact end_at n) rfl ?_
  exact ⟨defs, dA, dc, p, _, s, ((n : Int) % 3 - (n : Int) % 17 / 16), by omega, by omega, rfl, HMD.out.store HL4.out _ _ _ _ _ _⟩

end
end Go.Proofs.Ytndefbecoahfhaa

/- laws.sameCaptures of two rows of the same captures is true. Printed by gen_same.py. -/
namespace Go.Proofs.Ytndefbecoahfhaa
open Go.RowKit

set_option maxRecDepth 100000 in
set_option maxHeartbeats 1000000 in
theorem sameCaptures_any (l : List Cap) (u v : Value) (w : World) (b1 b2 : Nat) (hu : HasRow w b1 TK 3 u l.length (capCells l)) (hv : HasRow w b2 TK 3 v l.length (capCells l)) (hn : l.length ≤ 1000000) :
    Calls Try.prog 13 #[u, v] w fun e w' => e = .returned (.bool true) ∧ Below w.heap.size w w' := by
  obtain ⟨uA, uc, rfl, _, _⟩ := hu.form
  obtain ⟨vA, vc, rfl, _, _⟩ := hv.form
  have HU := Lib.hid hu
  have HV := Lib.hid hv
  clear hu hv
  have hb1 : (l.length : Int) ≤ 1000000 := by omega
  go_enter Try.func13, Try.ntmps13
  go_wp2_with fail
  go_loopw [5] (fun i wr => ∃ j : Nat, j ≤ l.length ∧ i = .int .i64 j ∧ Below w.heap.size w wr) (fun i _ => l.length - (intOf i).toNat)
  case atStart => exact ⟨0, Nat.zero_le _, rfl, Below.refl _ _⟩
  case round =>
    obtain ⟨j, hj, rfl, hbel⟩ := hrel
    have hsz := hbel.size
    by_cases hlt : j < l.length
    · obtain ⟨g1, c1, hv1, a0, a1, a2⟩ := cap_cells HU.out hlt hbel
      obtain ⟨rfl, rfl⟩ : uA = some ⟨g1, 0, none⟩ ∧ uc = c1 := by simpa using hv1
      obtain ⟨g2, c2, hv2, d0, d1, d2⟩ := cap_cells HV.out hlt hbel
      obtain ⟨rfl, rfl⟩ : vA = some ⟨g2, 0, none⟩ ∧ vc = c2 := by simpa using hv2
      clear hv1 hv2
      have hlt' : (j : Int) < l.length := by omega
      have HA := Lib.hid (And.intro a0 (And.intro a1 a2))
      have HD := Lib.hid (And.intro d0 (And.intro d1 d2))
      have HG1 := Lib.hid (Nat.lt_of_lt_of_le (HU.out.lt g1 rfl).2.1 hsz)
      have HG2 := Lib.hid (Nat.lt_of_lt_of_le (HV.out.lt g2 rfl).2.1 hsz)
      clear a0 a1 a2 d0 d1 d2
      go_wp2_with fail
      -- region 6: 9 operations, the last [8]
      refine wpU_begin [8] [] (by kernel_rfl) (fun w3 hw3 => ?_)
      have hl3 := drew_later hw3
      have HG1' := Lib.hid (Nat.lt_of_lt_of_le HG1.out hl3.size)
      have HG2' := Lib.hid (Nat.lt_of_lt_of_le HG2.out hl3.size)
      have HA' := Lib.hid (And.intro ((hl3.cell _ (show g1 < _ from HG1.out)).trans HA.out.1) (And.intro ((hl3.cell _ (show g1 < _ from HG1.out)).trans HA.out.2.1) ((hl3.cell _ (show g1 < _ from HG1.out)).trans HA.out.2.2)))
      have HD' := Lib.hid (And.intro ((hl3.cell _ (show g2 < _ from HG2.out)).trans HD.out.1) (And.intro ((hl3.cell _ (show g2 < _ from HG2.out)).trans HD.out.2.1) ((hl3.cell _ (show g2 < _ from HG2.out)).trans HD.out.2.2)))
      have HL3 := Lib.hid (Below.trans hbel (Below.mono hl3 hsz))
      clear hw3 hl3
      refine wpU_take 0 (some 17) (v := ?_) rfl rfl (by kernel_rfl) (fun _ _ _ h => h) rfl (fun x hx => ?_) ?_
      rotate_left 1
      · go_simp; first | done | with_reducible rfl | rw [if_neg (by omega)] | rw [if_pos (by omega)]
      simp only [Act.put, nA, nB, nC]
      refine wpU_take 1 (some 18) (v := ?_) rfl rfl (by kernel_rfl) (fun _ _ _ h => h) rfl (fun x hx => ?_) ?_
      rotate_left 1
      · go_simp; first | done | with_reducible rfl | rw [if_neg (by omega)] | rw [if_pos (by omega)]
      simp only [Act.put, nA, nB, nC]
      refine wpU_take 2 (some 19) (v := ?_) rfl rfl (by kernel_rfl) (fun _ _ _ h => h) rfl (fun x hx => ?_) ?_
      rotate_left 1
      · go_simp; first | done | with_reducible rfl | rw [if_neg (by omega)] | rw [if_pos (by omega)]
      simp only [Act.put, nA, nB, nC]
      refine wpU_take 3 (some 20) (v := ?_) rfl rfl (by kernel_rfl) (fun _ _ _ h => h) rfl (fun x hx => ?_) ?_
      rotate_left 1
      · have a0 := (hx.cell _ (show g1 < _ from HG1'.out)).trans HA'.out.1; have a1 := (hx.cell _ (show g1 < _ from HG1'.out)).trans HA'.out.2.1; have a2 := (hx.cell _ (show g1 < _ from HG1'.out)).trans HA'.out.2.2; have d0 := (hx.cell _ (show g2 < _ from HG2'.out)).trans HD'.out.1; have d1 := (hx.cell _ (show g2 < _ from HG2'.out)).trans HD'.out.2.1; have d2 := (hx.cell _ (show g2 < _ from HG2'.out)).trans HD'.out.2.2; go_simp; first | done | with_reducible rfl | rw [if_neg (by omega)] | rw [if_pos (by omega)]
      simp only [Act.put, nA, nB, nC]
      refine wpU_take 4 (some 21) (v := ?_) rfl rfl (by kernel_rfl) (fun _ _ _ h => h) rfl (fun x hx => ?_) ?_
      rotate_left 1
      · go_simp; first | done | with_reducible rfl | rw [if_neg (by omega)] | rw [if_pos (by omega)]
      simp only [Act.put, nA, nB, nC]
      refine wpU_take 5 (some 22) (v := ?_) rfl rfl (by kernel_rfl) (fun _ _ _ h => h) rfl (fun x hx => ?_) ?_
      rotate_left 1
      · go_simp; first | done | with_reducible rfl | rw [if_neg (by omega)] | rw [if_pos (by omega)]
      simp only [Act.put, nA, nB, nC]
      refine wpU_take 6 (some 23) (v := ?_) rfl rfl (by kernel_rfl) (fun _ _ _ h => h) rfl (fun x hx => ?_) ?_
      rotate_left 1
      · go_simp; first | done | with_reducible rfl | rw [if_neg (by omega)] | rw [if_pos (by omega)]
      simp only [Act.put, nA, nB, nC]
      refine wpU_take 7 (some 24) (v := ?_) rfl rfl (by kernel_rfl) (fun _ _ _ h => h) rfl (fun x hx => ?_) ?_
      rotate_left 1
      · have a0 := (hx.cell _ (show g1 < _ from HG1'.out)).trans HA'.out.1; have a1 := (hx.cell _ (show g1 < _ from HG1'.out)).trans HA'.out.2.1; have a2 := (hx.cell _ (show g1 < _ from HG1'.out)).trans HA'.out.2.2; have d0 := (hx.cell _ (show g2 < _ from HG2'.out)).trans HD'.out.1; have d1 := (hx.cell _ (show g2 < _ from HG2'.out)).trans HD'.out.2.1; have d2 := (hx.cell _ (show g2 < _ from HG2'.out)).trans HD'.out.2.2; go_simp; first | done | with_reducible rfl | rw [if_neg (by omega)] | rw [if_pos (by omega)]
      simp only [Act.put, nA, nB, nC]
      refine wpU_last [_] (by kernel_rfl) rfl rfl ?_
      simp only [List.getElem_toArray, List.getElem_cons_succ, List.getElem_cons_zero]
      go_wp2_with fail
      go_roundw
      case rel => exact ⟨j + 1, by omega, by go_num, HL3.out⟩
      case measure => simp [intOf]; omega
    · go_wp2_with fail
      go_ret
      exact ⟨rfl, hbel⟩
end Go.Proofs.Ytndefbecoahfhaa

/- The walk of FnPatternFirst: the matcher finds the first ending of the reference list. Printed by gen_first.py. -/
namespace Go.Proofs.Ytndefbecoahfhaa
open Go.RowKit

theorem first_of {defs : List Pat} {p : Pat} {s : ByteArray} {fr : Int} {l : List End} {st : Bool} {b' : Nat} (hs : Smalls defs) (hE : endRes defs p s fr = some (l, st, b')) (hx : (matchRes defs p s fr 4000).exhausted = false) :
    match l with
    | [] => (matchRes defs p s fr 4000).found = false ∧ (matchRes defs p s fr 4000).stopped = st
    | e :: _ => (matchRes defs p s fr 4000).found = true ∧ (matchRes defs p s fr 4000).at_ = e.at_ ∧ (matchRes defs p s fr 4000).caps = e.caps := by
  unfold endRes at hE
  split at hE
  · rename_i h
    simp only [Bool.and_eq_true, decide_eq_true_eq] at h
    obtain ⟨⟨⟨h1, h2⟩, h3⟩, h4⟩ := h
    have ha : answers defs p s fr 4000 = true := by simp [answers, h1, h2, h3, h4]
    have hr : matchRes defs p s fr 4000 = play defs s (4000 : Int).toNat 0 [⟨0, p, 0⟩] (.start fr.toNat) := by rw [matchRes, if_pos ha]
    rw [hr] at hx ⊢
    have hd := validD_defs h1 hs
    have hf := first_ending (show DefsOkV defs from hd.1.valid) hd.2 (by omega) hE hx
    cases l <;> exact hf
  · cases hE

set_option maxRecDepth 100000 in
set_option maxHeartbeats 8000000 in
theorem firstLaw_any (A : Option Addr) (n c : Nat) (w : World) (hby : BytesAt w A n) : Calls Try.prog 7 #[.slice A n c] w fun e w' => e = .returned (.bool true) ∧ Below w.heap.size w w' := by
  have HBY := Lib.hid hby
  clear hby
  by_cases hn : n ≤ 1048576
  rotate_left 1
  · have t1 : decide (1048576 < n) = true := by simp; omega
    go_enter Try.func7, Try.ntmps7
    go_wp2_with fail
    refine (big_any A n c _).mono ?_
    rintro e w' ⟨rfl, hw⟩
    obtain rfl : w = w' := hw.symm
    go_wp2_with fail
    go_ret
    exact ⟨rfl, Below.refl _ _⟩
  have t1 : decide (1048576 < n) = false := by simp; omega
  go_enter Try.func7, Try.ntmps7
  go_wp2_with fail
  refine (big_any A n c _).mono ?_
  rintro e w' ⟨rfl, hw⟩
  obtain rfl : w = w' := hw.symm
  go_wp2_with fail
  refine (drawEndings_any A n c _ HBY.out hn).mono ?_
  rintro e w2 ⟨defs, dA, dc, p, kv, s, fr, hfr0, hfr1, rfl, hmd⟩
  have HMD := Lib.hid hmd
  obtain ⟨ka, kc, hkv, _, _⟩ := hmd.2.2.2.2.2.1.form
  subst hkv
  have hdl : defs.length ≤ 1099511627776 := by have := hmd.2.1; omega
  have hsl : s.size ≤ 1099511627776 := by have := hmd.2.2.2.2.2.2.1; omega
  have HSM := Lib.hid hmd.2.2.1
  have HSP := Lib.hid hmd.2.2.2.1
  clear hmd t1
  obtain ⟨R, hR⟩ : ∃ R, matchRes defs p s fr 4000 = R := ⟨_, rfl⟩
  obtain ⟨FR, hFR⟩ : ∃ FR : Int, matchFrom (matchRes defs p s fr 4000) fr = FR := ⟨_, rfl⟩
  obtain ⟨E, hE⟩ : ∃ E, endRes defs p s fr = E := ⟨_, rfl⟩
  have hRl : R.caps.length ≤ 4000 ∧ R.events.length ≤ 4000 := by rw [← hR]; exact matchRes_len HSM.out HSP.out
  rw [hR] at hFR
  have HRE := Lib.hid hR
  have HFR := Lib.hid hFR
  have HEE := Lib.hid hE
  have hRc : R.caps.length ≤ 1000000 := by omega
  have hRe : R.events.length ≤ 1000000 := by omega
  clear hR hFR hRl hE
  obtain ⟨rf, rs, rx, ra, rst, rc, re⟩ := R
  simp only at hRc hRe
  have hl3 := Later.alloc (Later.refl w2) (patCells p.op p.text p.num p.lo p.hi (.slice ka p.kids.length kc))
  have HIN := Lib.hid (RowF.in_ _ _ _ HMD.out.2.2.2.2.1)
  have HKI := Lib.hid (KidsF.in_ _ _ HMD.out.2.2.2.2.2.1)
  have HLW := Lib.hid HMD.out.2.2.2.2.2.2.2
  have HL3 := Lib.hid hl3
  clear HMD hl3
  go_wp2_with fail
  refine (implEnds_any defs dA dc p _ s fr _ HSM.out HSP.out (RowIn.later HL3.out _ _ _ HIN.out) (KidsIn.later HL3.out _ _ HKI.out) hdl hsl).mono ?_
  rintro e w4 ⟨hb4, hm⟩
  rw [HEE.out] at hm
  have HP4 := Lib.hid (Later.has hb4 (heap_alloc_new w2 (patCells p.op p.text p.num p.lo p.hi (.slice ka p.kids.length kc))))
  have HL4 := Lib.hid (HL3.out.trans hb4)
  clear hb4 HL3
  cases E with
  | none =>
    simp only at hm
    subst hm
    obtain ⟨p0, p1, p2, p3, p4, p5⟩ := cells_p HP4.out
    go_wp2_with fail
    clear p0 p1 p2 p3 p4 p5
    refine (specEnds_any defs dA dc p _ s fr _ HSM.out HSP.out (RowIn.later HL4.out _ _ _ HIN.out) (KidsIn.later HL4.out _ _ HKI.out) hdl hsl).mono ?_
    rintro e w5 ⟨hb5, hm⟩
    rw [HEE.out] at hm
    simp only at hm
    subst hm
    have HP5 := Lib.hid (Later.has hb5 HP4.out)
    have HL5 := Lib.hid (HL4.out.trans hb5)
    clear hb5 HP4 HL4
    obtain ⟨p0, p1, p2, p3, p4, p5⟩ := cells_p HP5.out
    go_wp2_with fail
    clear p0 p1 p2 p3 p4 p5
    refine (implMatch_any defs dA dc p _ s fr 4000 _ HSM.out HSP.out (RowIn.later HL5.out _ _ _ HIN.out) (KidsIn.later HL5.out _ _ HKI.out) hdl hsl).mono ?_
    rintro e w6 hm
    rw [HRE.out, HFR.out] at hm
    obtain ⟨cv, ev, rfl, hcv, hev, hap, hb6⟩ := hm
    have hl7 := Later.alloc (Later.refl w6) (.cells #[.bool rf, .bool rs, .bool rx, .int .i64 FR, .int .i64 ra, .int .i64 rst, cv, ev] TR)
    have HM7 : Hid (MAt (w6.alloc (.cells #[.bool rf, .bool rs, .bool rx, .int .i64 FR, .int .i64 ra, .int .i64 rst, cv, ev] TR)) w6.heap.size 0 ⟨rf, rs, rx, ra, rst, rc, re⟩ FR cv ev) := Lib.hid ⟨heap_alloc_new _ _, (hcv.same (fun k hk => hl7.block k (hcv.lt k hk).2.1)).base0, (hev.same (fun k hk => hl7.block k (hev.lt k hk).2.1)).base0, hap⟩
    obtain ⟨cA, cc, rfl, _, _⟩ := hcv.form
    obtain ⟨eA, ec, rfl, _, _⟩ := hev.form
    have HL7 := Lib.hid ((HL5.out.trans hb6).trans hl7)
    have HP7 := Lib.hid (hl7.has (Later.has hb6 HP5.out))
    clear hcv hev hap hb6 hl7 HP5 HL5 
    obtain ⟨p0, p1, p2, p3, p4, p5⟩ := cells_p HP7.out
    go_wp2_with fail
    clear p0 p1 p2 p3 p4 p5
    obtain ⟨w7, hw7⟩ : ∃ x, x = w6.alloc (.cells #[.bool rf, .bool rs, .bool rx, .int .i64 FR, .int .i64 ra, .int .i64 rst, (.slice cA rc.length cc), (.slice eA re.length ec)] TR) := ⟨_, rfl⟩
    rw [← hw7] at HM7 HL7 HP7 ⊢
    clear hw7
    refine (specMatch_any defs dA dc p _ s fr 4000 _ HSM.out HSP.out (RowIn.later HL7.out _ _ _ HIN.out) (KidsIn.later HL7.out _ _ HKI.out) hdl hsl).mono ?_
    rintro e w8 hm
    rw [HRE.out, HFR.out] at hm
    obtain ⟨cv2, ev2, rfl, hcv2, hev2, hap2, hb8⟩ := hm
    obtain ⟨cA2, cc2, rfl, _, _⟩ := hcv2.form
    obtain ⟨eA2, ec2, rfl, _, _⟩ := hev2.form
    clear hcv2 hev2 hap2
    have hl9 := Later.alloc (Later.refl w8) (.cells #[.bool rf, .bool rs, .bool rx, .int .i64 FR, .int .i64 ra, .int .i64 rst, (.slice cA2 rc.length cc2), (.slice eA2 re.length ec2)] TR)
    have HN9 := Lib.hid (heap_alloc_new w8 (.cells #[.bool rf, .bool rs, .bool rx, .int .i64 FR, .int .i64 ra, .int .i64 rst, (.slice cA2 rc.length cc2), (.slice eA2 re.length ec2)] TR))
    have HM8 := Lib.hid (HM7.out.later hb8)
    have HM9 := Lib.hid ((HM7.out.later hb8).later hl9)
    have HL9 := Lib.hid ((HL7.out.trans hb8).trans hl9)
    have hlt6 : w6.heap.size < w8.heap.size := has_lt' HM8.out.blk
    clear hb8 hl9 HM7 HL7 HP7 
    obtain ⟨m0, m1, m2, m3, m4, m5, m6, m7⟩ := cells_r HM8.out.blk
    obtain ⟨n0, n1, n2, n3, n4, n5, n6, n7⟩ := cells_r HN9.out
    cases rx with
    | true =>
      go_wp2_with fail
      go_ret
      exact ⟨rfl, HLW.out.trans HL9.out⟩
    | false =>
      go_wp2_with fail
      go_ret
      exact ⟨rfl, HLW.out.trans HL9.out⟩
  | some r =>
    obtain ⟨l, st, b'⟩ := r
    simp only at hm
    obtain ⟨v, rfl, hrow⟩ := hm
    obtain ⟨lA, lc, rfl, _, _⟩ := hrow.form
    have HROW := Lib.hid (hrow.weak (Nat.zero_le _))
    clear hrow
    obtain ⟨p0, p1, p2, p3, p4, p5⟩ := cells_p HP4.out
    go_wp2_with fail
    clear p0 p1 p2 p3 p4 p5
    refine (specEnds_any defs dA dc p _ s fr _ HSM.out HSP.out (RowIn.later HL4.out _ _ _ HIN.out) (KidsIn.later HL4.out _ _ HKI.out) hdl hsl).mono ?_
    rintro e w5 ⟨hb5, hm⟩
    rw [HEE.out] at hm
    simp only at hm
    obtain ⟨v5, rfl, hrow5⟩ := hm
    obtain ⟨lA5, lc5, rfl, _, _⟩ := hrow5.form
    have HROW5 := Lib.hid (HROW.out.later hb5)
    clear hrow5 HROW
    have HP5 := Lib.hid (Later.has hb5 HP4.out)
    have HL5 := Lib.hid (HL4.out.trans hb5)
    clear hb5 HP4 HL4
    obtain ⟨p0, p1, p2, p3, p4, p5⟩ := cells_p HP5.out
    go_wp2_with fail
    clear p0 p1 p2 p3 p4 p5
    refine (implMatch_any defs dA dc p _ s fr 4000 _ HSM.out HSP.out (RowIn.later HL5.out _ _ _ HIN.out) (KidsIn.later HL5.out _ _ HKI.out) hdl hsl).mono ?_
    rintro e w6 hm
    rw [HRE.out, HFR.out] at hm
    obtain ⟨cv, ev, rfl, hcv, hev, hap, hb6⟩ := hm
    have hl7 := Later.alloc (Later.refl w6) (.cells #[.bool rf, .bool rs, .bool rx, .int .i64 FR, .int .i64 ra, .int .i64 rst, cv, ev] TR)
    have HM7 : Hid (MAt (w6.alloc (.cells #[.bool rf, .bool rs, .bool rx, .int .i64 FR, .int .i64 ra, .int .i64 rst, cv, ev] TR)) w6.heap.size 0 ⟨rf, rs, rx, ra, rst, rc, re⟩ FR cv ev) := Lib.hid ⟨heap_alloc_new _ _, (hcv.same (fun k hk => hl7.block k (hcv.lt k hk).2.1)).base0, (hev.same (fun k hk => hl7.block k (hev.lt k hk).2.1)).base0, hap⟩
    obtain ⟨cA, cc, rfl, _, _⟩ := hcv.form
    obtain ⟨eA, ec, rfl, _, _⟩ := hev.form
    have HL7 := Lib.hid ((HL5.out.trans hb6).trans hl7)
    have HP7 := Lib.hid (hl7.has (Later.has hb6 HP5.out))
    have HROW7 := Lib.hid ((HROW5.out.later hb6).later hl7)
    clear hcv hev hap hb6 hl7 HP5 HL5 HROW5
    obtain ⟨p0, p1, p2, p3, p4, p5⟩ := cells_p HP7.out
    go_wp2_with fail
    clear p0 p1 p2 p3 p4 p5
    obtain ⟨w7, hw7⟩ : ∃ x, x = w6.alloc (.cells #[.bool rf, .bool rs, .bool rx, .int .i64 FR, .int .i64 ra, .int .i64 rst, (.slice cA rc.length cc), (.slice eA re.length ec)] TR) := ⟨_, rfl⟩
    rw [← hw7] at HM7 HL7 HP7 HROW7 ⊢
    clear hw7
    refine (specMatch_any defs dA dc p _ s fr 4000 _ HSM.out HSP.out (RowIn.later HL7.out _ _ _ HIN.out) (KidsIn.later HL7.out _ _ HKI.out) hdl hsl).mono ?_
    rintro e w8 hm
    rw [HRE.out, HFR.out] at hm
    obtain ⟨cv2, ev2, rfl, hcv2, hev2, hap2, hb8⟩ := hm
    obtain ⟨cA2, cc2, rfl, _, _⟩ := hcv2.form
    obtain ⟨eA2, ec2, rfl, _, _⟩ := hev2.form
    clear hcv2 hev2 hap2
    have hl9 := Later.alloc (Later.refl w8) (.cells #[.bool rf, .bool rs, .bool rx, .int .i64 FR, .int .i64 ra, .int .i64 rst, (.slice cA2 rc.length cc2), (.slice eA2 re.length ec2)] TR)
    have HN9 := Lib.hid (heap_alloc_new w8 (.cells #[.bool rf, .bool rs, .bool rx, .int .i64 FR, .int .i64 ra, .int .i64 rst, (.slice cA2 rc.length cc2), (.slice eA2 re.length ec2)] TR))
    have HM8 := Lib.hid (HM7.out.later hb8)
    have HM9 := Lib.hid ((HM7.out.later hb8).later hl9)
    have HL9 := Lib.hid ((HL7.out.trans hb8).trans hl9)
    have HROW9 := Lib.hid ((HROW7.out.later hb8).later hl9)
    have hlt6 : w6.heap.size < w8.heap.size := has_lt' HM8.out.blk
    clear hb8 hl9 HM7 HL7 HP7 HROW7
    obtain ⟨m0, m1, m2, m3, m4, m5, m6, m7⟩ := cells_r HM8.out.blk
    obtain ⟨n0, n1, n2, n3, n4, n5, n6, n7⟩ := cells_r HN9.out
    cases rx with
    | true =>
      go_wp2_with fail
      go_ret
      exact ⟨rfl, HLW.out.trans HL9.out⟩
    | false =>
      have hfirst := first_of HSM.out HEE.out (by rw [HRE.out])
      rw [HRE.out] at hfirst
      have hFR := HFR.out
      cases l with
      | nil =>
        obtain ⟨h1, h2⟩ := hfirst
        simp only at h1 h2
        subst h1 h2
        cases rs
        · go_wp2_with fail
          go_ret
          exact ⟨rfl, HLW.out.trans HL9.out⟩
        · go_wp2_with fail
          go_ret
          exact ⟨rfl, HLW.out.trans HL9.out⟩
      | cons en es =>
        obtain ⟨h1, h2, h3⟩ := hfirst
        simp only at h1 h2 h3
        subst h1 h2 h3
        simp only [matchFrom, if_true] at hFR
        subst hFR
        have hlen : ¬ ((en :: es).length : Int) = 0 := by simp; omega
        have tl : decide (((en :: es).length : Int) = 0) = false := decide_eq_false hlen
        obtain ⟨L, hL⟩ : ∃ L, (en :: es).length = L := ⟨_, rfl⟩
        have hLp : 0 < L := by rw [← hL]; simp
        obtain ⟨g, lc', cvf, hfv, _, hg, a0, a1, hcvf⟩ := HROW9.out.cell (j := 0) (by simp)
        obtain ⟨rfl, rfl⟩ : lA = some ⟨g, 0, none⟩ ∧ lc = lc' := by simpa using hfv
        obtain ⟨cA0, cc0, hcf, _, _⟩ := hcvf.form
        subst hcf
        simp only [List.getElem_cons_zero, Nat.zero_mul, Nat.zero_add] at a0 a1 hcvf
        have HA00 := Lib.hid a0
        have HA01 := Lib.hid a1
        have HCC := Lib.hid hcvf
        rw [hL]
        rw [hL] at tl hlen
        clear hfv a0 a1 hcvf HROW9
        go_wp2_with fail
        clear m0 m1 m2 m3 m4 m5 m6 m7 n0 n1 n2 n3 n4 n5 n6 n7
        -- region 16: 27 operations, the last []
        refine wpU_begin [] [] (by kernel_rfl) (fun w10 hw10 => ?_)
        have HM10 := Lib.hid (HM9.out.later (drew_later hw10))
        have HL10 := Lib.hid (HL9.out.trans (drew_later hw10))
        have HA0 := Lib.hid (((drew_later hw10).cell _ hg).trans HA00.out)
        have HA1 := Lib.hid (((drew_later hw10).cell _ hg).trans HA01.out)
        have HCC10 := Lib.hid (HCC.out.keepT (KeepT.later (drew_later hw10)))
        have hg10 := Nat.lt_of_lt_of_le hg (drew_later hw10).size
        clear hw10 HA00 HA01 HCC
        refine wpU_take 0 (some 78) (v := ?_) rfl rfl (by kernel_rfl) (fun _ _ _ h => h) rfl (fun x hx => ?_) ?_
        rotate_left 1
        · go_simp; first | done | with_reducible rfl | rw [if_neg (by omega)] | rw [if_pos (by omega)]
        simp only [Act.put, nA, nB, nC]
        refine wpU_take 1 (some 79) (v := ?_) rfl rfl (by kernel_rfl) (fun _ _ _ h => h) rfl (fun x hx => ?_) ?_
        rotate_left 1
        · obtain ⟨m0, m1, m2, m3, m4, m5, m6, m7⟩ := cells_r (HM10.out.later hx).blk; have a0 := (hx.cell _ hg10).trans HA0.out; have a1 := (hx.cell _ hg10).trans HA1.out; have hgx : g < x.heap.size := Nat.lt_of_lt_of_le hg10 hx.size; go_simp; first | done | with_reducible rfl | rw [if_neg (by omega)] | rw [if_pos (by omega)]
        simp only [Act.put, nA, nB, nC]
        refine wpU_take 2 (some 80) (v := ?_) rfl rfl (by kernel_rfl) (fun _ _ _ h => h) rfl (fun x hx => ?_) ?_
        rotate_left 1
        · go_simp; first | done | with_reducible rfl | rw [if_neg (by omega)] | rw [if_pos (by omega)]
        simp only [Act.put, nA, nB, nC]
        refine wpU_take 3 (some 81) (v := ?_) rfl rfl (by kernel_rfl) (fun _ _ _ h => h) rfl (fun x hx => ?_) ?_
        rotate_left 1
        · go_simp; first | done | with_reducible rfl | rw [if_neg (by omega)] | rw [if_pos (by omega)]
        simp only [Act.put, nA, nB, nC]
        refine wpU_take 4 (some 82) (v := ?_) rfl rfl (by kernel_rfl) (fun _ _ _ h => h) rfl (fun x hx => ?_) ?_
        rotate_left 1
        · obtain ⟨m0, m1, m2, m3, m4, m5, m6, m7⟩ := cells_r (HM10.out.later hx).blk; have a0 := (hx.cell _ hg10).trans HA0.out; have a1 := (hx.cell _ hg10).trans HA1.out; have hgx : g < x.heap.size := Nat.lt_of_lt_of_le hg10 hx.size; go_simp; first | done | with_reducible rfl | rw [if_neg (by omega)] | rw [if_pos (by omega)]
        simp only [Act.put, nA, nB, nC]
        refine wpU_take 5 (some 83) (v := ?_) rfl rfl (by kernel_rfl) (fun _ _ _ h => h) rfl (fun x hx => ?_) ?_
        rotate_left 1
        · go_simp; first | done | with_reducible rfl | rw [if_neg (by omega)] | rw [if_pos (by omega)]
        simp only [Act.put, nA, nB, nC]
        refine wpU_take 6 (some 84) (v := ?_) rfl rfl (by kernel_rfl) (fun _ _ _ h => h) rfl (fun x hx => ?_) ?_
        rotate_left 1
        · go_simp; first | done | with_reducible rfl | rw [if_neg (by omega)] | rw [if_pos (by omega)]
        simp only [Act.put, nA, nB, nC]
        refine wpU_take 7 (some 85) (v := ?_) rfl rfl (by kernel_rfl) (fun _ _ _ h => h) rfl (fun x hx => ?_) ?_
        rotate_left 1
        · go_simp; first | done | with_reducible rfl | rw [if_neg (by omega)] | rw [if_pos (by omega)]
        simp only [Act.put, nA, nB, nC]
        refine wpU_take 8 (some 86) (v := ?_) rfl rfl (by kernel_rfl) (fun _ _ _ h => h) rfl (fun x hx => ?_) ?_
        rotate_left 1
        · go_simp; first | done | with_reducible rfl | rw [if_neg (by omega)] | rw [if_pos (by omega)]
        simp only [Act.put, nA, nB, nC]
        refine wpU_take 9 (some 87) (v := ?_) rfl rfl (by kernel_rfl) (fun _ _ _ h => h) rfl (fun x hx => ?_) ?_
        rotate_left 1
        · go_simp; first | done | with_reducible rfl | rw [if_neg (by omega)] | rw [if_pos (by omega)]
        simp only [Act.put, nA, nB, nC]
        refine wpU_take 10 (some 88) (v := ?_) rfl rfl (by kernel_rfl) (fun _ _ _ h => h) rfl (fun x hx => ?_) ?_
        rotate_left 1
        · obtain ⟨m0, m1, m2, m3, m4, m5, m6, m7⟩ := cells_r (HM10.out.later hx).blk; have a0 := (hx.cell _ hg10).trans HA0.out; have a1 := (hx.cell _ hg10).trans HA1.out; have hgx : g < x.heap.size := Nat.lt_of_lt_of_le hg10 hx.size; go_simp; first | done | with_reducible rfl | rw [if_neg (by omega)] | rw [if_pos (by omega)]
        simp only [Act.put, nA, nB, nC]
        refine wpU_take 11 (some 89) (v := ?_) rfl rfl (by kernel_rfl) (fun _ _ _ h => h) rfl (fun x hx => ?_) ?_
        rotate_left 1
        · go_simp; first | done | with_reducible rfl | rw [if_neg (by omega)] | rw [if_pos (by omega)]
        simp only [Act.put, nA, nB, nC]
        refine wpU_take 12 (some 90) (v := ?_) rfl rfl (by kernel_rfl) (fun _ _ _ h => h) rfl (fun x hx => ?_) ?_
        rotate_left 1
        · go_simp; first | done | with_reducible rfl | rw [if_neg (by omega)] | rw [if_pos (by omega)]
        simp only [Act.put, nA, nB, nC]
        refine wpU_take 13 (some 91) (v := ?_) rfl rfl (by kernel_rfl) (fun _ _ _ h => h) rfl (fun x hx => ?_) ?_
        rotate_left 1
        · go_simp; first | done | with_reducible rfl | rw [if_neg (by omega)] | rw [if_pos (by omega)]
        simp only [Act.put, nA, nB, nC]
        refine wpU_take 14 (some 92) (v := ?_) rfl rfl (by kernel_rfl) (fun _ _ _ h => h) rfl (fun x hx => ?_) ?_
        rotate_left 1
        · obtain ⟨m0, m1, m2, m3, m4, m5, m6, m7⟩ := cells_r (HM10.out.later hx).blk; have a0 := (hx.cell _ hg10).trans HA0.out; have a1 := (hx.cell _ hg10).trans HA1.out; have hgx : g < x.heap.size := Nat.lt_of_lt_of_le hg10 hx.size; go_simp; first | done | with_reducible rfl | rw [if_neg (by omega)] | rw [if_pos (by omega)]
        simp only [Act.put, nA, nB, nC]
        refine wpU_take 15 (some 93) (v := ?_) rfl rfl (by kernel_rfl) (fun _ _ _ h => h) rfl (fun x hx => ?_) ?_
        rotate_left 1
        · go_simp; first | done | with_reducible rfl | rw [if_neg (by omega)] | rw [if_pos (by omega)]
        simp only [Act.put, nA, nB, nC]
        refine wpU_take 16 (some 94) (v := ?_) rfl rfl (by kernel_rfl) (fun _ _ _ h => h) rfl (fun x hx => ?_) ?_
        rotate_left 1
        · go_simp; first | done | with_reducible rfl | rw [if_neg (by omega)] | rw [if_pos (by omega)]
        simp only [Act.put, nA, nB, nC]
        refine wpU_take 17 (some 95) (v := ?_) rfl rfl (by kernel_rfl) (fun _ _ _ h => h) rfl (fun x hx => ?_) ?_
        rotate_left 1
        · go_simp; first | done | with_reducible rfl | rw [if_neg (by omega)] | rw [if_pos (by omega)]
        simp only [Act.put, nA, nB, nC]
        refine wpU_take 18 (some 96) (v := ?_) rfl rfl (by kernel_rfl) (fun _ _ _ h => h) rfl (fun x hx => ?_) ?_
        rotate_left 1
        · go_simp; first | done | with_reducible rfl | rw [if_neg (by omega)] | rw [if_pos (by omega)]
        simp only [Act.put, nA, nB, nC]
        refine wpU_take 19 (some 97) (v := ?_) rfl rfl (by kernel_rfl) (fun _ _ _ h => h) rfl (fun x hx => ?_) ?_
        rotate_left 1
        · obtain ⟨m0, m1, m2, m3, m4, m5, m6, m7⟩ := cells_r (HM10.out.later hx).blk; have a0 := (hx.cell _ hg10).trans HA0.out; have a1 := (hx.cell _ hg10).trans HA1.out; have hgx : g < x.heap.size := Nat.lt_of_lt_of_le hg10 hx.size; go_simp; first | done | with_reducible rfl | rw [if_neg (by omega)] | rw [if_pos (by omega)]
        simp only [Act.put, nA, nB, nC]
        refine wpU_take 20 (some 98) (v := ?_) rfl rfl (by kernel_rfl) (fun _ _ _ h => h) rfl (fun x hx => ?_) ?_
        rotate_left 1
        · go_simp; first | done | with_reducible rfl | rw [if_neg (by omega)] | rw [if_pos (by omega)]
        simp only [Act.put, nA, nB, nC]
        refine wpU_take 21 (some 99) (v := ?_) rfl rfl (by kernel_rfl) (fun _ _ _ h => h) rfl (fun x hx => ?_) ?_
        rotate_left 1
        · go_simp; first | done | with_reducible rfl | rw [if_neg (by omega)] | rw [if_pos (by omega)]
        simp only [Act.put, nA, nB, nC]
        refine wpU_take 22 (some 100) (v := ?_) rfl rfl (by kernel_rfl) (fun _ _ _ h => h) rfl (fun x hx => ?_) ?_
        rotate_left 1
        · go_simp; first | done | with_reducible rfl | rw [if_neg (by omega)] | rw [if_pos (by omega)]
        simp only [Act.put, nA, nB, nC]
        refine wpU_take 23 (some 101) (v := ?_) rfl rfl (by kernel_rfl) (fun _ _ _ h => h) rfl (fun x hx => ?_) ?_
        rotate_left 1
        · obtain ⟨m0, m1, m2, m3, m4, m5, m6, m7⟩ := cells_r (HM10.out.later hx).blk; have a0 := (hx.cell _ hg10).trans HA0.out; have a1 := (hx.cell _ hg10).trans HA1.out; have hgx : g < x.heap.size := Nat.lt_of_lt_of_le hg10 hx.size; go_simp; first | done | with_reducible rfl | rw [if_neg (by omega)] | rw [if_pos (by omega)]
        simp only [Act.put, nA, nB, nC]
        refine wpU_step 24 (by kernel_rfl) rfl rfl ?_  -- call value (Go.Operand.func 13)
        go_wp2_with fail
        refine (sameCaptures_any en.caps _ _ _ 0 0 HM10.out.caps HCC10.out hRc).mono ?_
        rintro e w11 ⟨rfl, hb11⟩
        have HL11 := Lib.hid (HL10.out.trans hb11)
        go_wp2_with fail
        refine ⟨hb11, ?_⟩
        clear hb11
        refine wpU_take 25 (some 103) (v := ?_) rfl rfl (by kernel_rfl) (fun _ _ _ h => h) rfl (fun x hx => ?_) ?_
        rotate_left 1
        · go_simp; first | done | with_reducible rfl | rw [if_neg (by omega)] | rw [if_pos (by omega)]
        simp only [Act.put, nA, nB, nC]
        refine wpU_take 26 (some 2) (v := ?_) rfl rfl (by kernel_rfl) (fun _ _ _ h => h) rfl (fun x hx => ?_) ?_
        rotate_left 1
        · go_simp; first | done | with_reducible rfl | rw [if_neg (by omega)] | rw [if_pos (by omega)]
        simp only [Act.put, nA, nB, nC]
        refine wpU_last [] (by kernel_rfl) rfl rfl ?_
        go_wp2_with fail
        go_ret
        exact ⟨rfl, HLW.out.trans HL11.out⟩
end Go.Proofs.Ytndefbecoahfhaa

/- How the laws' code is read: its bytes can be read. No walk in sight. -/
namespace Go.Proofs.Ytndefbecoahfhaa
open Go.ChangeShapes Go.WideShapes Go.ChangeAt Go.RowKit

theorem c_u8 : Try.prog.cellsOf 5 = 1 := by kernel_rfl
theorem code_lt {w : World} {a : Addr} {v : Value} (h : w.cell? a = some v) : a.block < w.heap.size := by
  unfold World.cell? at h
  rcases hh : w.heap[a.block]? with _ | o
  · rw [hh] at h; cases h
  · exact (Array.getElem?_eq_some_iff.1 hh).1
set_option maxRecDepth 100000 in
theorem open_code {H : Type} {enc : TypeId × Value → H} {w : World} {spare : Nat → Bool} {held : Bool} {r : Reach} {b0 : Nat} {v : Value} {d : DataW H} {q : List MemPlace} (hv : Value.okWide Try.prog w r b0 22 v) (h : DataW.Trod enc Try.prog w 0 spare held 22 v d q) :
    ∃ (A : Option Addr) (n c : Nat), v = .slice A n c ∧ BytesAt w A n := by
  obtain ⟨a1, len, cap, rfl⟩ := okWide_slice Try.underlying22 hv
  obtain ⟨fuel, hf⟩ := h
  rcases open_ints Try.underlying22 Try.underlying5 c_u8 hf with ⟨hcs, hx⟩ | ⟨a, len', cap', zs, hcs, _, hl, hm, hz, hx, hcell, hwz⟩
  · simp [Value.cells] at hcs
    obtain ⟨rfl, rfl, rfl⟩ := hcs
    exact ⟨none, 0, 0, rfl, fun j hj => absurd hj (Nat.not_lt_zero _)⟩
  · simp [Value.cells] at hcs
    obtain ⟨rfl, rfl, rfl⟩ := hcs
    refine ⟨_, _, _, rfl, fun j hj => ?_⟩
    have hlz : len ≤ zs.length := by rw [hz]; split <;> omega
    have hc := hcell j (by omega)
    obtain ⟨ab, ao, spot⟩ := a
    have hspot : spot = none := by simpa [Addr.add] using World.cell?_spot (hcell 0 (by omega))
    subst hspot
    rw [Addr.add_lit] at hc
    have hb := range_u8 hwz j
    exact ⟨ab, ao, _, rfl, code_lt hc, by simpa using hb.1, by have := hb.2; rw [List.getD_eq_getElem?_getD]; omega, hc⟩
end Go.Proofs.Ytndefbecoahfhaa

/- What a law's row asks behind its walk: 'true' comes back, nothing that was there has changed. -/
namespace Go.Proofs.Ytndefbecoahfhaa
open Go.ChangeShapes Go.WideShapes Go.ChangeAt Go.RowKit

theorem own : ownKnob Try.prog.godebug = none := by kernel_rfl
theorem laidOut : laidOutB Try.prog = true := by kernel_rfl

section
variable {H : Type} {enc : TypeId × Value → H} {P : Program}

/-- Arguments that lie below read again as they did. -/
theorem trodAll_stays (hl : laidOutB P = true) {W W' : World} {sp : Nat → Bool} : ∀ (ts : List TypeId) (vs : List Value) (ds : List (DataW H)) (ps : List MemPlace),
    (ts.all fun t => P.readableRec t && decide (t < P.types.size)) = true → DataW.TrodAll enc P W 0 (fun _ => true) true ts vs ds ps → (∀ p ∈ ps, W.sameAt W' p) → (∀ p ∈ ps, sp p.block = true) → DataW.TrodAll enc P W' 0 sp true ts vs ds ps
  | [], vs, ds, ps, _, h, _, _ => by
    obtain ⟨rfl, rfl, rfl⟩ := trodAll_nil h
    exact trodAll_mk0
  | t :: ts, vs, ds, ps, hr, h, h1, h2 => by
    obtain ⟨v, vs', d, ds', p, q, rfl, rfl, rfl, hp, hq⟩ := trodAll_cons h
    simp only [List.all_cons, Bool.and_eq_true, decide_eq_true_eq] at hr
    exact trodAll_cons_mk (WideElems.Trod_stays hl hr.1.1 hr.1.2 hp (fun x hx => h1 x (by simp [hx])) (fun x hx => h2 x (by simp [hx])))
      (trodAll_stays hl ts vs' ds' q hr.2 hq (fun x hx => h1 x (by simp [hx])) (fun x hx => h2 x (by simp [hx])))

theorem law_post (hl : laidOutB P = true) {f : Func} {s : ChangeSpec} {apart : Bool} {W W' : World} {args : Array Value} {ds gs : List (DataW H)} {before : List MemPlace} {t : TypeId}
    (hW : DataW.Whole enc P f.params.toList s.vars apart W args.toList ds gs before) (hv : s.vars = []) (hfn : s.fn H ds = { results := [.lit (.bool true)], args := ds })
    (hr : f.resultTypes = #[t]) (ht : P.underlying t = some .bool) (hp : (f.params.toList.all fun t => P.readableRec t && decide (t < P.types.size)) = true)
    (hb : Below W.heap.size W W') : s.post enc P f apart true false false W args (.bool true) W' := by
  have hlt : ∀ p ∈ before, p.block < W.heap.size := fun p hp => hW.lt p hp
  have hW0 := hW
  obtain ⟨p, q, hA, hV, rfl, hfz, hnd⟩ := hW
  rw [hv] at hV
  obtain ⟨rfl, rfl⟩ := trodVars_none hV
  refine ⟨ds, [], p ++ [], [], p, [], hW0, ?_, ?_, ?_, World.keptBut_mono (fun x hx => ⟨hx, .inr (.inl (by simpa using hx))⟩) (hb.frame (· ∈ p ++ [])), fun h => by cases h⟩
  · rw [List.append_nil, hfn, hr]
    exact trodAll_mk1 (shut_bool ht true)
  · rw [List.append_nil, hfn]
    exact trodAll_stays hl _ _ _ _ hp hA (fun x hx => hb.same (hlt x (by simp [hx]))) (fun x hx => by simpa using hlt x (by simp [hx]))
  · rw [List.append_nil, hfn, hv]
    rfl
end
end Go.Proofs.Ytndefbecoahfhaa
