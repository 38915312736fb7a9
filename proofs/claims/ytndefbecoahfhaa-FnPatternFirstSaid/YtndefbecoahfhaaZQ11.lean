/- Part of the walks that the claim stands on. -/
import Derived.Test.YtndefbecoahfhaaZQ10
import Derived.Test.YtndefbecoahfhaaZQ8
import Derived.Test.YtndefbecoahfhaaZQ3
import Derived.Test.YtndefbecoahfhaaZQ5
import Derived.Test.YtndefbecoahfhaaZQ6
import Derived.Deep.DeepCutAuto

/- spec's l19Ends: every offset, and the deferred pattern. Printed by gen_endsp2.py. -/
namespace Go.Proofs.Ytndefbecoahfhaa
open Go.RowKit

/-- The loop over the offsets. -/
structure ArbS (w0 w : World) (M : Nat) (dA : Option Addr) (dn dc : Nat) (s : ByteArray) (cs : Array Value) (b a k : Nat) (acc : List End) (lv : Value) (x : World) : Prop where
  le : a ≤ k ∧ k ≤ s.size + 1
  acc_eq : acc = (arbE s a).take (k - a)
  sp : SpAt w0 w M dA dn dc s cs a b x
  row : EndRow (w.heap.size + 2) x acc lv
set_option maxRecDepth 100000 in
set_option maxHeartbeats 4000000 in
theorem ends_arb {w0 w : World} {M : Nat} {dA : Option Addr} {dn dc : Nat} {s : ByteArray} {defs : List Pat} {n b a : Nat} {text : ByteArray} {num lo hi : Int} {l : Nat} {kids : List Pat} {A : Option Addr} {c : Nat} 
    (hst : FSt w M dA dn dc s ((b + 1 : Nat) : Int)) (hb3 : b ≤ 3000) (hl : Later w0 w) (hM : w0.heap.size ≤ M) (hs : s.size ≤ 120) (ha : a ≤ s.size) :
    Calls Try.prog 58 #[.pointer (some ⟨M, 0, none⟩), patV 11 text num lo hi (.slice A l c), .int .i64 a] w (SpPost w M dA dn dc s (b + 1) (n + 1) (ev defs s (n + 1) (b + 1) (.mk 11 text num lo hi kids) a)) := by
  have hMlt := hst.lt
  have hlw := hl.size
  have hst' := hst.of (show ((b + 1 : Nat) : Int) = (b : Int) + 1 by omega)
  obtain ⟨m0, m1, m2⟩ := hst'.cells
  have mf := frozen_of_row w M 2 _ _ hst'
  skip
  have HE := Lib.hid (SpAt.start hst' hl hM #[.int .i64 11, .string text, .int .i64 num, .int .i64 lo, .int .i64 hi, .slice A l c] a (b : Int))
  have HLW := Lib.hid hl
  clear hst hst' hl
  go_enter Try.func58, Try.ntmps58
  have hsX := HE.out.size
  have hle := Later.alloc (Later.refl (((w.setCell ⟨M, 2, none⟩ (.int .i64 (b : Int))).alloc (.cells #[.int .i64 11, .string text, .int .i64 num, .int .i64 lo, .int .i64 hi, .slice A l c] TP)).alloc (.cells #[.int .i64 a, .slice none 0 0] TE))) (.cells #[] TE)
  have hszX : (((w.setCell ⟨M, 2, none⟩ (.int .i64 (b : Int))).alloc (.cells #[.int .i64 11, .string text, .int .i64 num, .int .i64 lo, .int .i64 hi, .slice A l c] TP)).alloc (.cells #[.int .i64 a, .slice none 0 0] TE)).heap.size = w.heap.size + 2 := by simp
  have HA : Hid (ArbS w0 w M dA dn dc s #[.int .i64 11, .string text, .int .i64 num, .int .i64 lo, .int .i64 hi, .slice A l c] b a a [] (.slice (some ⟨w.heap.size + 2, 0, none⟩) 0 0) ((((w.setCell ⟨M, 2, none⟩ (.int .i64 (b : Int))).alloc (.cells #[.int .i64 11, .string text, .int .i64 num, .int .i64 lo, .int .i64 hi, .slice A l c] TP)).alloc (.cells #[.int .i64 a, .slice none 0 0] TE)).alloc (.cells #[] TE))) := Lib.hid ⟨⟨Nat.le_refl _, by omega⟩, by rw [Nat.sub_self, List.take_zero], HE.out.later hle, EndRow.empty _ _ _ (Nat.le_refl _) (by rw [← hszX]; exact heap_alloc_new _ _)⟩
  clear hle HE hszX
  go_wp2_with fail
  clear m0 m1 m2 mf
  go_loopw [10, 9] (fun i v wx => ∃ (k : Nat) (acc : List End) (lv : Value), lv = v ∧ i = .int .i64 k ∧ ArbS w0 w M dA dn dc s #[.int .i64 11, .string text, .int .i64 num, .int .i64 lo, .int .i64 hi, .slice A l c] b a k acc lv wx) (fun i _ _ => s.size + 1 - (intOf i).toNat)
  case atStart => exact ⟨a, _, _, rfl, rfl, HA.out⟩
  case round =>
    clear HA
    obtain ⟨k, acc, lv, rfl, rfl, has⟩ := hrel
    obtain ⟨wo, rfl⟩ : ∃ wo : World, wo = wr := ⟨_, rfl⟩
    obtain ⟨h1, h2⟩ := has.le
    have HACC := Lib.hid has.acc_eq
    obtain ⟨m0, m1, m2⟩ := has.sp.st.cells
    have mf := frozen_of_row wo M 2 _ _ has.sp.st
    obtain ⟨lA, lc, rfl, _, _⟩ := has.row.form
    have hMl := has.sp.st.lt
    have hwsz := has.sp.size
    have hMw := has.sp.hM.1
    have HEV := Lib.hid has.sp
    have HROW := Lib.hid has.row
    clear has
    by_cases hk : k ≤ s.size
    · have t1 : decide ((k : Int) ≤ s.size) = true := decide_eq_true (by omega)
      have t1' : decide (k ≤ s.size) = true := decide_eq_true (by omega)
      have hla := Later.alloc (Later.refl wo) (.cells #[.int .i64 k, .slice none 0 0] TE)
      have HE6 := Lib.hid (HEV.out.later hla)
      obtain ⟨xs, hx, he⟩ := HROW.out.later hla
      have HX := Lib.hid hx
      have HEl := Lib.hid he
      have hlen : acc.length ≤ 10000 := by rw [HACC.out, List.length_take, arbE_len]; omega
      obtain ⟨i, hi, hz0, hz1, hz2⟩ := info_parts infoE
      clear hla hx he HROW HEV
      go_wp2_with (at_builtin; refine wpList_append_has _ rfl _ _ _ rfl (w.heap.size + 2) TE i _ 2 32 Try.underlying55 hi hz0 hz1 hz2 rfl _ _ xs rfl HX.out _ 1 1 [.int .i64 k, .slice none 0 0] rfl rfl ?c1 ?c2 (by omega) ?c3 ?c4 ?c5 ?_; fail_if_success done)
      case c1 => exact cells_fresh _ [_, _] _
      case c2 =>
        intro u hu
        simp only [List.mem_cons, List.not_mem_nil, or_false] at hu
        rcases hu with rfl | rfl <;> rfl
      case c3 => simp only [maxLen]; omega
      case c4 => omega
      case c5 => exact HE6.out.size
      intro v7 w7 hrow7 hg7 hb7
      have hgr := DrB.grown (M := M) HX.out hg7 (by have := HE6.out.size; omega)
      have HE7 := Lib.hid (SpAt.mk (HE6.out.st.same (hg7.block M HE6.out.st.lt (fun e => by have := (HX.out.lt M e.symm).1; omega))) (HE6.out.fr.trans' (hgr.weak (by omega)) hMw) ((hg7.block w.heap.size (Nat.lt_of_succ_lt HE6.out.size) (fun e => by have := (HX.out.lt _ e.symm).1; omega)).trans HE6.out.blk) ((hg7.block (w.heap.size + 1) HE6.out.size (fun e => by have := (HX.out.lt _ e.symm).1; omega)).trans HE6.out.here) (hgr.out HE6.out.base (by have := HE6.out.hM; omega) HE6.out.hM.2) HE6.out.hM)
      have HROW7 := Lib.hid (EndRow.push (e := ⟨k, []⟩) HEl.out (HasRow.nil _ _ _ _) hgr.caps hrow7)
      clear hrow7 hg7 hb7 hgr HX HEl HE6 m0 m1 m2 mf
      go_wp2_with fail
      go_roundw
      case rel => exact ⟨k + 1, _, _, rfl, by simp, ⟨by omega, by omega⟩, by rw [arbE_succ s a k h1 hk, HACC.out], HE7.out, HROW7.out⟩
      case measure => simp [intOf]; omega
    · have t1 : decide ((k : Int) ≤ s.size) = false := decide_eq_false (by omega)
      have t1' : decide (k ≤ s.size) = false := decide_eq_false (by omega)
      have hke : k = s.size + 1 := by omega
      have hlen := arbE_len s a
      have hacc : acc = arbE s a := by rw [HACC.out, hke, show s.size + 1 - a = (arbE s a).length by omega, List.take_length]
      have hal : acc.length = s.size + 1 - a := by rw [hacc]; exact hlen
      have HACC1 := Lib.hid hacc
      have hds : Drawn M wo (wo.setCell ⟨M, 2, none⟩ (.int .i64 ((b : Int) - acc.length))) := (Drawn.refl M wo).set 2 _
      have HZ := Lib.hid (HEV.out.st.set ((b : Int) - acc.length))
      have HD := Lib.hid (HEV.out.fr.trans hds)
      have HROW1 := Lib.hid ((HROW.out.same (KeepT.drawn hds HEV.out.st (by decide)) (fun g h1 h2 _ => hds.other g h2 (by omega))).weak (b2 := w.heap.size) (by omega))
      have HAL := Lib.hid hal
      have hacl : acc.length ≤ 121 := by omega
      clear hke hacc hlen hds hal
      go_wp2_with fail
      go_ret2
      have hal := HAL.out
      by_cases hle : acc.length ≤ b
      · exact spPost_some (b' := b - acc.length) (by rw [ev_arb, ← HACC1.out, if_pos hle]) HROW1.out HD.out (HZ.out.of (by omega))
      · exact spPost_none (by rw [ev_arb, ← HACC1.out, if_neg hle]) HROW1.out (by rw [HACC1.out]; exact ⟨by rw [← HACC1.out]; omega, fun e he => by
          simp only [arbE, List.mem_map] at he
          obtain ⟨i, _, rfl⟩ := he
          simp⟩) HD.out HZ.out (by omega) (by omega) _

set_option maxRecDepth 100000 in
set_option maxHeartbeats 4000000 in
theorem ends_defer {w0 w : World} {M : Nat} {dA : Option Addr} {dn dc : Nat} {s : ByteArray} {defs : List Pat} {n b a : Nat} {text : ByteArray} {num lo hi : Int} {l : Nat} {kids : List Pat} {A : Option Addr} {c : Nat} {i : Nat}
    (hst : FSt w M dA dn dc s ((b + 1 : Nat) : Int)) (hb3 : b ≤ 3000) (hl : Later w0 w) (hM : w0.heap.size ≤ M) (hs : s.size ≤ 120) (ha : a ≤ s.size) (ih : ∀ (p : Pat) (kv : Value), valid p dn = true → KidsIn w0 p kv → EndsIs w0 M dA dn dc defs s n p kv) (hbn : b < n) (hn : n ≤ 4000) (hdn : dn = defs.length) (hnum : num = (i : Int)) (hil : i < defs.length) (hdefs : RowIn w0 dA 0 defs) (hvd : valid defs[i] dn = true) :
    Calls Try.prog 58 #[.pointer (some ⟨M, 0, none⟩), patV 20 text num lo hi (.slice A l c), .int .i64 a] w (SpPost w M dA dn dc s (b + 1) (n + 1) (ev defs s (n + 1) (b + 1) (.mk 20 text num lo hi kids) a)) := by
  subst hnum
  have HR := Lib.hid hdefs
  have hi' : (i : Int) < dn := by omega
  clear hdefs
  have HIH := Lib.hid ih
  clear ih
  have hMlt := hst.lt
  have hlw := hl.size
  have hst' := hst.of (show ((b + 1 : Nat) : Int) = (b : Int) + 1 by omega)
  obtain ⟨m0, m1, m2⟩ := hst'.cells
  have mf := frozen_of_row w M 2 _ _ hst'
  skip
  have HE := Lib.hid (SpAt.start hst' hl hM #[.int .i64 20, .string text, .int .i64 (i : Int), .int .i64 lo, .int .i64 hi, .slice A l c] a (b : Int))
  have HLW := Lib.hid hl
  clear hst hst' hl
  go_enter Try.func58, Try.ntmps58
  go_wp2_with fail
  -- region 45: 15 operations, the last []
  refine wpV_begin [] [] (fun x => Drawn M (((w.setCell ⟨M, 2, none⟩ (.int .i64 (b : Int))).alloc (.cells #[.int .i64 20, .string text, .int .i64 (i : Int), .int .i64 lo, .int .i64 hi, .slice A l c] TP)).alloc (.cells #[.int .i64 a, .slice none 0 0] TE)) x ∧ ∃ z, FSt x M dA dn dc s z) (by kernel_rfl) (fun w4 hw4 => ?_)
  have HE4 := Lib.hid (HE.out.later (drew_later hw4))
  obtain ⟨g0, kA0, kc0, hA0, hk0, he0⟩ := kid_cells HR.out hil (Below.refl _ _)
  have HK0 := Lib.hid hk0
  have HE0 := Lib.hid he0
  have hBM : w.heap.size ≠ M := by have := HE4.out.hM; omega
  have HS := Lib.hid (And.intro (Drawn.later (C := M) (drew_later hw4) (Nat.le_of_lt HE.out.st.lt)) (show ∃ z, FSt w4 M dA dn dc s z from ⟨_, HE4.out.st⟩))
  clear hw4 hk0 he0
  subst hA0
  refine wpV_take 0 (some 220) (v := ?_) rfl rfl (by kernel_rfl) (fun _ _ _ h => h) rfl HS.out (fun x hx => ?_) ?_
  rotate_left 1
  · go_simp; first | done | with_reducible rfl | rw [if_neg (by omega)] | rw [if_pos (by omega)]
  simp only [Act.put, nA, nB, nC]
  refine wpV_take 1 (some 221) (v := ?_) rfl rfl (by kernel_rfl) (fun _ _ _ h => h) rfl HS.out (fun x hx => ?_) ?_
  rotate_left 1
  · go_simp; first | done | with_reducible rfl | rw [if_neg (by omega)] | rw [if_pos (by omega)]
  simp only [Act.put, nA, nB, nC]
  refine wpV_take 2 (some 222) (v := ?_) rfl rfl (by kernel_rfl) (fun _ _ _ h => h) rfl HS.out (fun x hx => ?_) ?_
  rotate_left 1
  · go_simp; first | done | with_reducible rfl | rw [if_neg (by omega)] | rw [if_pos (by omega)]
  simp only [Act.put, nA, nB, nC]
  refine wpV_take 3 (some 223) (v := ?_) rfl rfl (by kernel_rfl) (fun _ _ _ h => h) rfl HS.out (fun x hx => ?_) ?_
  rotate_left 1
  · go_simp; first | done | with_reducible rfl | rw [if_neg (by omega)] | rw [if_pos (by omega)]
  simp only [Act.put, nA, nB, nC]
  refine wpV_take 4 (some 224) (v := ?_) rfl rfl (by kernel_rfl) (fun _ _ _ h => h) rfl HS.out (fun x hx => ?_) ?_
  rotate_left 1
  · have m0 := (FSt.cells hx.2.choose_spec).1; obtain ⟨p0, p1, p2, p3, p4, p5⟩ := cells_p (hx.1.has HE.out.blk hBM); obtain ⟨e00, e01, e02, e03, e04, e05⟩ := HE0.out.below (later_drawn HE.out.base hx.1 HE.out.hM.2); go_simp; first | done | with_reducible rfl | rw [if_neg (by omega)] | rw [if_pos (by omega)]
  simp only [Act.put, nA, nB, nC]
  refine wpV_take 5 (some 225) (v := ?_) rfl rfl (by kernel_rfl) (fun _ _ _ h => h) rfl HS.out (fun x hx => ?_) ?_
  rotate_left 1
  · go_simp; first | done | with_reducible rfl | rw [if_neg (by omega)] | rw [if_pos (by omega)]
  simp only [Act.put, nA, nB, nC]
  refine wpV_take 6 (some 226) (v := ?_) rfl rfl (by kernel_rfl) (fun _ _ _ h => h) rfl HS.out (fun x hx => ?_) ?_
  rotate_left 1
  · have m0 := (FSt.cells hx.2.choose_spec).1; obtain ⟨p0, p1, p2, p3, p4, p5⟩ := cells_p (hx.1.has HE.out.blk hBM); obtain ⟨e00, e01, e02, e03, e04, e05⟩ := HE0.out.below (later_drawn HE.out.base hx.1 HE.out.hM.2); go_simp; first | done | with_reducible rfl | rw [if_neg (by omega)] | rw [if_pos (by omega)]
  simp only [Act.put, nA, nB, nC]
  refine wpV_take 7 (some 227) (v := ?_) rfl rfl (by kernel_rfl) (fun _ _ _ h => h) rfl HS.out (fun x hx => ?_) ?_
  rotate_left 1
  · go_simp; first | done | with_reducible rfl | rw [if_neg (by omega)] | rw [if_pos (by omega)]
  simp only [Act.put, nA, nB, nC]
  refine wpV_take 8 (some 228) (v := ?_) rfl rfl (by kernel_rfl) (fun _ _ _ h => h) rfl HS.out (fun x hx => ?_) ?_
  rotate_left 1
  · have m0 := (FSt.cells hx.2.choose_spec).1; obtain ⟨p0, p1, p2, p3, p4, p5⟩ := cells_p (hx.1.has HE.out.blk hBM); obtain ⟨e00, e01, e02, e03, e04, e05⟩ := HE0.out.below (later_drawn HE.out.base hx.1 HE.out.hM.2); go_simp; first | done | with_reducible rfl | rw [if_neg (by omega)] | rw [if_pos (by omega)]
  simp only [Act.put, nA, nB, nC]
  refine wpV_take 9 (some 229) (v := ?_) rfl rfl (by kernel_rfl) (fun _ _ _ h => h) rfl HS.out (fun x hx => ?_) ?_
  rotate_left 1
  · go_simp; first | done | with_reducible rfl | rw [if_neg (by omega)] | rw [if_pos (by omega)]
  simp only [Act.put, nA, nB, nC]
  refine wpV_step 10 (by kernel_rfl) rfl rfl ?_
  go_wp2_with fail
  refine (HIH.out defs[i] _ hvd HK0.out b a w4 hbn hb3 ha HE4.out.base HE4.out.st).mono ?_
  rintro e w5 ⟨v5, st5, rfl, hd5, hpost5⟩
  have HS5 := Lib.hid (And.intro (HS.out.1.trans hd5) (show ∃ z, FSt w5 M (some ⟨g0, 0, none⟩) dn dc s z from by
    cases hr : ev defs s n b defs[i] a with
    | none => rw [hr] at hpost5; obtain ⟨_, z, hz, _⟩ := hpost5; exact ⟨z, hz⟩
    | some r => obtain ⟨l, st, b1⟩ := r; rw [hr] at hpost5; exact ⟨_, hpost5.2.2⟩))
  have HP5 := Lib.hid hpost5
  clear hd5 hpost5 HS
  have HS := Lib.hid HS5.out
  clear HS5
  go_wp2_with fail
  refine ⟨HS.out, ?_⟩
  refine wpV_take 11 (some 231) (v := ?_) rfl rfl (by kernel_rfl) (fun _ _ _ h => h) rfl HS.out (fun x hx => ?_) ?_
  rotate_left 1
  · go_simp; first | done | with_reducible rfl | rw [if_neg (by omega)] | rw [if_pos (by omega)]
  simp only [Act.put, nA, nB, nC]
  refine wpV_take 12 (some 232) (v := ?_) rfl rfl (by kernel_rfl) (fun _ _ _ h => h) rfl HS.out (fun x hx => ?_) ?_
  rotate_left 1
  · go_simp; first | done | with_reducible rfl | rw [if_neg (by omega)] | rw [if_pos (by omega)]
  simp only [Act.put, nA, nB, nC]
  refine wpV_take 13 (some 6) (v := ?_) rfl rfl (by kernel_rfl) (fun _ _ _ h => h) rfl HS.out (fun x hx => ?_) ?_
  rotate_left 1
  · go_simp; first | done | with_reducible rfl | rw [if_neg (by omega)] | rw [if_pos (by omega)]
  simp only [Act.put, nA, nB, nC]
  refine wpV_take 14 (some 7) (v := ?_) rfl rfl (by kernel_rfl) (fun _ _ _ h => h) rfl HS.out (fun x hx => ?_) ?_
  rotate_left 1
  · go_simp; first | done | with_reducible rfl | rw [if_neg (by omega)] | rw [if_pos (by omega)]
  simp only [Act.put, nA, nB, nC]
  refine wpV_last [] (by kernel_rfl) rfl rfl ?_
  go_wp2_with fail
  go_ret2
  have hsz := HE4.out.size
  have hd5 := HE.out.fr.trans HS.out.1
  have hpost5 := HP5.out
  cases hr : ev defs s n b defs[i] a with
  | none =>
    rw [hr] at hpost5
    obtain ⟨⟨l, hrow, hlb⟩, z, hz, hzn, hzlo⟩ := hpost5
    exact spPost_none (by rw [ev_defer _ _ _ _ _ _ _ _ _ _ hil]; exact hr) (hrow.weak (by omega)) (hlb.mono (by omega)) hd5 hz hzn (by omega) _
  | some r =>
    obtain ⟨l, st, b1⟩ := r
    rw [hr] at hpost5
    obtain ⟨rfl, hrow, hst5⟩ := hpost5
    exact spPost_some (by rw [ev_defer _ _ _ _ _ _ _ _ _ _ hil]; exact hr) (hrow.weak (by omega)) hd5 hst5
end Go.Proofs.Ytndefbecoahfhaa

/- spec's l19Ends: the assigned patterns. Printed by gen_endsp2.py. -/
namespace Go.Proofs.Ytndefbecoahfhaa
open Go.RowKit

/-- The loop that copies the endings, each changed by f. -/
structure MpSt (w : World) (M : Nat) (dA : Option Addr) (dn dc : Nat) (s : ByteArray) (cs : Array Value) (f : End → End) (z : Int) (l : List End) (v2 : Value) (j : Nat) (acc : List End) (lv : Value) (x : World) : Prop where
  le : j ≤ l.length
  acc_eq : acc = (l.map f).take j
  st : FSt x M dA dn dc s z
  fr : Drawn M w x
  blk : x.heap[w.heap.size]? = some (.cells cs TP (0, 0))
  row : EndRow (w.heap.size + 2) x acc lv
  sec : EndRow 0 x l v2
  apart : ∀ g, v2.ownBlock = some g → lv.ownBlock ≠ some g ∧ g < x.heap.size
  hM : M < w.heap.size
  size : w.heap.size + 2 ≤ x.heap.size
section
variable {w : World} {M : Nat} {dA : Option Addr} {dn dc : Nat} {s : ByteArray} {cs : Array Value} {f : End → End} {z : Int} {l : List End} {v2 : Value} {j : Nat} {acc : List End} {lv : Value} {x y : World}
theorem MpSt.later (h : MpSt w M dA dn dc s cs f z l v2 j acc lv x) (hl : Later x y) : MpSt w M dA dn dc s cs f z l v2 j acc lv y :=
  ⟨h.le, h.acc_eq, h.st.later hl, h.fr.trans (Drawn.later hl (Nat.le_of_lt h.st.lt)), hl.has h.blk, h.row.later hl, h.sec.later hl, fun g hg => ⟨(h.apart g hg).1, Nat.lt_of_lt_of_le (h.apart g hg).2 hl.size⟩, h.hM, Nat.le_trans h.size hl.size⟩
theorem MpSt.push {xs : List Value} {cv v' : Value} (h : MpSt w M dA dn dc s cs f z l v2 j acc lv x) (hlt : j < l.length) (hx : HasRow x (w.heap.size + 2) TE 2 lv acc.length xs) (he : ElemsE x acc xs)
    (hc : HasRow x 0 TK 3 cv (f l[j]).caps.length (capCells (f l[j]).caps))
    (hrow : HasRow y (w.heap.size + 2) TE 2 v' (acc.length + 1) (xs ++ [.int .i64 (f l[j]).at_, cv])) (hg : x.grownBy y lv.ownBlock) (hb : v'.ownBlock = lv.ownBlock ∨ v'.ownBlock = some x.heap.size) :
    MpSt w M dA dn dc s cs f z l v2 (j + 1) (acc ++ [f l[j]]) v' y := by
  have hsz := h.size
  have hM := h.hM
  have hgr := DrB.grown (M := M) hx hg (by omega)
  refine ⟨hlt, ?_, h.st.same (hg.block M h.st.lt (fun e => by have := (hx.lt M e.symm).1; omega)), h.fr.trans' (hgr.weak (by omega)) hM, (hg.block _ (by omega) (fun e => by have := (hx.lt _ e.symm).1; omega)).trans h.blk, EndRow.push (e := f l[j]) he hc hgr.caps hrow, h.sec.same hgr.caps (fun g _ h2 h3 => hg.block g h2 (fun e => (h.apart g h3).1 e.symm)), fun g hgg => ⟨?_, Nat.lt_of_lt_of_le (h.apart g hgg).2 hg.size⟩, hM, Nat.le_trans hsz hg.size⟩
  · rw [List.take_succ_eq_append_getElem (by rw [List.length_map]; omega), h.acc_eq, List.getElem_map]
  · rcases hb with hb | hb
    · rw [hb]; exact (h.apart g hgg).1
    · rw [hb]; intro e; cases e; have := (h.apart _ hgg).2; omega
end
theorem lb_map16 {num : Int} {a b : Nat} {l : List End} (h : LB l (b + 122)) : LB (l.map (fun e => (⟨e.at_, e.caps ++ [⟨num, a, e.at_⟩]⟩ : End))) (b + 1 + 122) := ⟨by rw [List.length_map]; have := h.1; omega, fun e he => by
  obtain ⟨y, hy, rfl⟩ := List.mem_map.1 he
  have := h.2 y hy
  simp
  omega⟩
theorem lb_map17 {b : Nat} {l : List End} (h : LB l (b + 122)) : LB (l.map id) (b + 1 + 122) := by
  rw [List.map_id]; exact h.mono (by omega)
set_option maxRecDepth 100000 in
set_option maxHeartbeats 4000000 in
theorem ends_assign {w0 w : World} {M : Nat} {dA : Option Addr} {dn dc : Nat} {s : ByteArray} {defs : List Pat} {n b a : Nat} {text : ByteArray} {num lo hi : Int} {k0 : Pat} {A : Option Addr} {c : Nat} 
    (hst : FSt w M dA dn dc s ((b + 1 : Nat) : Int)) (hb3 : b ≤ 3000) (hl : Later w0 w) (hM : w0.heap.size ≤ M) (hs : s.size ≤ 120) (ha : a ≤ s.size) (hkid : KidsIn w0 (.mk 16 text num lo hi [k0]) (.slice A 1 c)) (ih : ∀ (p : Pat) (kv : Value), valid p dn = true → KidsIn w0 p kv → EndsIs w0 M dA dn dc defs s n p kv) (hbn : b < n) (hn : n ≤ 4000) (hv0 : valid k0 dn = true) :
    Calls Try.prog 58 #[.pointer (some ⟨M, 0, none⟩), patV 16 text num lo hi (.slice A 1 c), .int .i64 a] w (SpPost w M dA dn dc s (b + 1) (n + 1) (ev defs s (n + 1) (b + 1) (.mk 16 text num lo hi [k0]) a)) := by
  have HIH := Lib.hid ih
  clear ih
  have hMlt := hst.lt
  have hlw := hl.size
  have hst' := hst.of (show ((b + 1 : Nat) : Int) = (b : Int) + 1 by omega)
  obtain ⟨m0, m1, m2⟩ := hst'.cells
  have mf := frozen_of_row w M 2 _ _ hst'
  have HR := Lib.hid (kids_row hkid)
  have HKID := Lib.hid hkid
  clear hkid
  obtain ⟨g0, kA0, kc0, hA0, hk0, he0, hg0⟩ := kid_cells2 HR.out (j := 0) (by simp) hl
  simp only [List.getElem_cons_zero] at hk0 he0
  obtain ⟨e00, e01, e02, e03, e04, e05⟩ := he0
  simp only [Nat.zero_mul, Nat.zero_add] at e00 e01 e02 e03 e04 e05
  have HK0 := Lib.hid hk0
  clear hk0
  subst hA0
  have hg0w : g0 < w.heap.size := Nat.lt_of_lt_of_le hg0 hlw
  have hg0M : ¬ g0 = M := by omega
  have HE := Lib.hid (SpAt.start hst' hl hM #[.int .i64 16, .string text, .int .i64 num, .int .i64 lo, .int .i64 hi, .slice (some ⟨g0, 0, none⟩) 1 c] a (b : Int))
  have HLW := Lib.hid hl
  clear hst hst' hl
  go_enter Try.func58, Try.ntmps58
  go_wp2_with fail
  refine (HIH.out k0 _ hv0 HK0.out b a _ hbn hb3 ha HE.out.base HE.out.st).mono ?_
  rintro e w4 ⟨v4, st4, rfl, hd4, hpost4⟩
  have hszX := HE.out.size
  have hMw := HE.out.hM
  clear e00 e01 e02 e03 e04 e05
  clear m0 m1 m2 mf
  obtain ⟨l, z, hrow, hz4, hl3, hzb, hfin⟩ : ∃ (l : List End) (z : Int), EndRow (w.heap.size + 2) w4 l v4 ∧ FSt w4 M dA dn dc s z ∧ LB l (b + 122) ∧ (-100000000 ≤ z ∧ z ≤ 3000) ∧ (∀ x v, EndRow w.heap.size x (l.map (fun e => (⟨e.at_, e.caps ++ [⟨num, a, e.at_⟩]⟩ : End))) v → Drawn M w x → FSt x M dA dn dc s z → SpPost w M dA dn dc s (b + 1) (n + 1) (ev defs s (n + 1) (b + 1) (.mk 16 text num lo hi [k0]) a) (.returned (.tuple #[v, .bool st4])) x) := by
    cases hr : ev defs s n b k0 a with
    | none =>
      rw [hr] at hpost4
      obtain ⟨⟨l, hrow, hlb⟩, z, hz4, hzn, hzlo⟩ := hpost4
      exact ⟨l, z, hrow.weak (by omega), hz4, hlb, by omega, fun x v h1 h2 h3 => spPost_none (by rw [ev_assign, hr]) h1 (lb_map16 hlb) h2 h3 hzn (by omega) _⟩
    | some r =>
      obtain ⟨l, st, b1⟩ := r
      rw [hr] at hpost4
      obtain ⟨rfl, hrow, hz4⟩ := hpost4
      obtain ⟨hb1, hlb⟩ := ev_len n b k0 a l st4 b1 hr
      exact ⟨l, b1, hrow.weak (by omega), hz4, hlb.mono (by omega), by omega, fun x v h1 h2 h3 => spPost_some (by rw [ev_assign, hr]; rfl) h1 h2 h3⟩
  have hlen := hl3.1
  have HLB := Lib.hid hl3.2
  have HFIN := Lib.hid hfin
  have hle4 := Later.alloc (Later.refl w4) (.cells #[] TE)
  have hd5 : Drawn M w w4 := HE.out.fr.trans hd4
  have hsz4 : w.heap.size + 1 < w4.heap.size := Nat.lt_of_lt_of_le hszX hd4.below.size
  have HA : Hid (MpSt w M dA dn dc s #[.int .i64 16, .string text, .int .i64 num, .int .i64 lo, .int .i64 hi, .slice (some ⟨g0, 0, none⟩) 1 c] (fun e => (⟨e.at_, e.caps ++ [⟨num, a, e.at_⟩]⟩ : End)) z l v4 0 [] (.slice (some ⟨w4.heap.size, 0, none⟩) 0 0) (w4.alloc (.cells #[] TE))) := Lib.hid ⟨Nat.zero_le _, rfl, hz4.later hle4, hd5.trans (Drawn.later hle4 (Nat.le_of_lt hz4.lt)), hle4.has (hd4.has HE.out.blk (by omega)), EndRow.empty _ _ _ (by omega) (heap_alloc_new w4 _), (hrow.weak (Nat.zero_le _)).later hle4, fun g hg => (by
      obtain ⟨xs, hx, _⟩ := hrow
      have h1 := (hx.lt g hg).2.1
      refine ⟨fun e => ?_, Nat.lt_of_lt_of_le h1 hle4.size⟩
      have e : some w4.heap.size = some g := e
      cases e
      omega), hMw.1, by have := hle4.size; omega⟩
  have HP4 := Lib.hid (hd4.has HE.out.blk (by omega))
  obtain ⟨vA, vc, rfl, _, _⟩ := hrow.form
  obtain ⟨ik, hik, hik0, hik1, hik2⟩ := info_parts infoK
  obtain ⟨ie, hie, hie0, hie1, hie2⟩ := info_parts infoE
  clear hpost4 hrow hz4 hl3 hfin hle4 hd4 hd5 HE HIH hv0 HK0
  obtain ⟨p0, p1, p2, p3, p4, p5⟩ := cells_p HP4.out
  go_wp2_with fail
  clear p0 p1 p2 p3 p4 p5
  go_loopw [26, 25] (fun i v wx => ∃ (j : Nat) (acc : List End) (lv : Value), lv = v ∧ i = .int .i64 j ∧ MpSt w M dA dn dc s #[.int .i64 16, .string text, .int .i64 num, .int .i64 lo, .int .i64 hi, .slice (some ⟨g0, 0, none⟩) 1 c] (fun e => (⟨e.at_, e.caps ++ [⟨num, a, e.at_⟩]⟩ : End)) z l (.slice vA l.length vc) j acc lv wx) (fun i _ _ => l.length - (intOf i).toNat)
  case atStart => exact ⟨0, _, _, rfl, rfl, HA.out⟩
  case round =>
    clear HA
    obtain ⟨j, acc, lv, rfl, rfl, has⟩ := hrel
    have HACC := Lib.hid has.acc_eq
    obtain ⟨wo, rfl⟩ : ∃ wo : World, wo = wr := ⟨_, rfl⟩
    have hjl := has.le
    have HAS := Lib.hid has
    obtain ⟨lA, lc, rfl, _, _⟩ := has.row.form
    clear has
    by_cases hj : j < l.length
    · have t1 : decide ((j : Int) < l.length) = true := decide_eq_true (by omega)
      have t1' : decide (j < l.length) = true := decide_eq_true (by omega)
      obtain ⟨g2, c2', cv2, hv2, _, hg2, a0, a1, hcv2⟩ := HAS.out.sec.cell hj
      obtain ⟨rfl, rfl⟩ : vA = some ⟨g2, 0, none⟩ ∧ vc = c2' := by simpa using hv2
      obtain ⟨cA2, cc2, hcv, _, _⟩ := hcv2.form
      subst hcv
      obtain ⟨xe, hxe⟩ : ∃ xe, l[j] = xe := ⟨_, rfl⟩
      rw [hxe] at a0 a1 hcv2
      have hxc := HLB.out xe (by rw [← hxe]; exact List.getElem_mem hj)
      have HXE := Lib.hid hxe
      have HA0 := Lib.hid a0
      have hlx := Later.alloc (Later.refl wo) (.cells #[] TK)
      have HLX := Lib.hid hlx
      have HCX := Lib.hid (hcv2.keepT (KeepT.later hlx))
      clear hv2 hcv2 hxe hlx
      go_wp2_with (at_builtin; refine wpList_append_fresh _ rfl _ _ _ rfl wo.heap.size 0 TK ik _ 3 24 Try.underlying31 hik hik0 hik1 hik2 rfl rfl (heap_alloc_new wo _) (Nat.le_refl _) rfl HCX.out ?a1 (by omega) ?_; fail_if_success done)
      case a1 => omega
      intro v7 w7 hrow7 hl7 hb7
      obtain ⟨vL, vlc, rfl, _, _⟩ := hrow7.form
      have HR7 := Lib.hid hrow7
      have HL7 := Lib.hid (HLX.out.trans hl7)
      have HAS7 := Lib.hid (HAS.out.later (HLX.out.trans hl7))
      clear hrow7 hl7 hb7 a0 a1 HCX HLX
      obtain ⟨p0, p1, p2, p3, p4, p5⟩ := cells_p HAS7.out.blk
      go_wp2_with fail
      clear p0 p1 p2 p3 p4 p5
      -- region 37: 13 operations, the last [11, 12]
      refine wpU_begin [11, 12] [] (by kernel_rfl) (fun w8 hw8 => ?_)
      have HAS8 := Lib.hid (HAS7.out.later (drew_later hw8))
      have HR8 := Lib.hid (HR7.out.keepT (KeepT.later (drew_later hw8)))
      have HL8 := Lib.hid (HL7.out.trans (drew_later hw8))
      have HA08 := Lib.hid ((HL8.out.cell _ hg2).trans HA0.out)
      have hg28 : g2 < w8.heap.size := Nat.lt_of_lt_of_le hg2 HL8.out.size
      clear hw8 HAS7 HR7 HL7
      refine wpU_take 0 (some 188) (v := ?_) rfl rfl (by kernel_rfl) (fun _ _ _ h => h) rfl (fun x hx => ?_) ?_
      rotate_left 1
      · go_simp; first | done | with_reducible rfl | rw [if_neg (by omega)] | rw [if_pos (by omega)]
      simp only [Act.put, nA, nB, nC]
      refine wpU_take 1 (some 189) (v := ?_) rfl rfl (by kernel_rfl) (fun _ _ _ h => h) rfl (fun x hx => ?_) ?_
      rotate_left 1
      · go_simp; first | done | with_reducible rfl | rw [if_neg (by omega)] | rw [if_pos (by omega)]
      simp only [Act.put, nA, nB, nC]
      refine wpU_take 2 (some 190) (v := ?_) rfl rfl (by kernel_rfl) (fun _ _ _ h => h) rfl (fun x hx => ?_) ?_
      rotate_left 1
      · obtain ⟨p0, p1, p2, p3, p4, p5⟩ := cells_p (hx.has HAS8.out.blk); have a0 := (hx.cell _ hg28).trans HA08.out; have hgx : g2 < x.heap.size := Nat.lt_of_lt_of_le hg28 hx.size; go_simp; first | done | with_reducible rfl | rw [if_neg (by omega)] | rw [if_pos (by omega)]
      simp only [Act.put, nA, nB, nC]
      refine wpU_take 3 (some 191) (v := ?_) rfl rfl (by kernel_rfl) (fun _ _ _ h => h) rfl (fun x hx => ?_) ?_
      rotate_left 1
      · go_simp; first | done | with_reducible rfl | rw [if_neg (by omega)] | rw [if_pos (by omega)]
      simp only [Act.put, nA, nB, nC]
      refine wpU_take 4 (some 192) (v := ?_) rfl rfl (by kernel_rfl) (fun _ _ _ h => h) rfl (fun x hx => ?_) ?_
      rotate_left 1
      · go_simp; first | done | with_reducible rfl | rw [if_neg (by omega)] | rw [if_pos (by omega)]
      simp only [Act.put, nA, nB, nC]
      refine wpU_take 5 (some 193) (v := ?_) rfl rfl (by kernel_rfl) (fun _ _ _ h => h) rfl (fun x hx => ?_) ?_
      rotate_left 1
      · go_simp; first | done | with_reducible rfl | rw [if_neg (by omega)] | rw [if_pos (by omega)]
      simp only [Act.put, nA, nB, nC]
      refine wpU_take 6 (some 194) (v := ?_) rfl rfl (by kernel_rfl) (fun _ _ _ h => h) rfl (fun x hx => ?_) ?_
      rotate_left 1
      · go_simp; first | done | with_reducible rfl | rw [if_neg (by omega)] | rw [if_pos (by omega)]
      simp only [Act.put, nA, nB, nC]
      refine wpU_take 7 (some 195) (v := ?_) rfl rfl (by kernel_rfl) (fun _ _ _ h => h) rfl (fun x hx => ?_) ?_
      rotate_left 1
      · go_simp; first | done | with_reducible rfl | rw [if_neg (by omega)] | rw [if_pos (by omega)]
      simp only [Act.put, nA, nB, nC]
      refine wpU_take 8 (some 196) (v := ?_) rfl rfl (by kernel_rfl) (fun _ _ _ h => h) rfl (fun x hx => ?_) ?_
      rotate_left 1
      · obtain ⟨p0, p1, p2, p3, p4, p5⟩ := cells_p (hx.has HAS8.out.blk); have a0 := (hx.cell _ hg28).trans HA08.out; have hgx : g2 < x.heap.size := Nat.lt_of_lt_of_le hg28 hx.size; go_simp; first | done | with_reducible rfl | rw [if_neg (by omega)] | rw [if_pos (by omega)]
      simp only [Act.put, nA, nB, nC]
      refine wpU_take 9 (some 197) (v := ?_) rfl rfl (by kernel_rfl) (fun _ _ _ h => h) rfl (fun x hx => ?_) ?_
      rotate_left 1
      · go_simp; first | done | with_reducible rfl | rw [if_neg (by omega)] | rw [if_pos (by omega)]
      simp only [Act.put, nA, nB, nC]
      refine wpU_step 10 (by kernel_rfl) rfl rfl ?_  -- buildSlice 
      go_wp2_with fail
      refine ⟨(Later.refl _).alloc _, ?_⟩
      refine wpU_last [_, _] (by kernel_rfl) rfl rfl ?_
      simp only [List.getElem_toArray, List.getElem_cons_succ, List.getElem_cons_zero]
      have hla := Later.alloc (Later.refl w8) (.cells #[.int .i64 num, .int .i64 a, .int .i64 xe.at_] TK)
      refine wpList_append_has _ rfl _ _ _ rfl wo.heap.size TK ik _ 3 24 Try.underlying31 hik hik0 hik1 hik2 rfl _ _ _ rfl (HR8.out.keepT (KeepT.later hla)) _ 1 1 [.int .i64 num, .int .i64 a, .int .i64 xe.at_] rfl rfl ?_ ?_ (by omega) ?_ ?_ ?_ ?_
      · exact cells_three _ _ _ _ _
      · intro u hu
        simp only [List.mem_cons, List.not_mem_nil, or_false] at hu
        rcases hu with rfl | rfl | rfl <;> rfl
      · simp only [maxLen]; omega
      · omega
      · exact Nat.le_trans HL8.out.size hla.size
      intro v9 w9 hrow9 hg9 hb9
      obtain ⟨vL9, vlc9, rfl, _, _⟩ := hrow9.form
      have hL9 : Later wo w9 := Below.grown (HL8.out.trans hla) hg9 (Nat.le_trans HL8.out.size hla.size) (fun k hk => (((HR8.out.keepT (KeepT.later hla))).lt k hk).1)
      have hL89 : Later w8 w9 ∨ True := .inr trivial
      have HLIST := Lib.hid (show HasRow w9 0 TK 3 (.slice vL9 (xe.caps.length + 1) vlc9) (xe.caps.length + 1) (capCells (xe.caps ++ [⟨num, a, xe.at_⟩])) from by rw [capCells_append]; exact hrow9.weak (Nat.zero_le _))
      have HAS9 := Lib.hid (HAS.out.later hL9)
      have HA9 := Lib.hid ((hL9.cell _ hg2).trans HA0.out)
      have hg29 : g2 < w9.heap.size := Nat.lt_of_lt_of_le hg2 hL9.size
      clear hrow9 hg9 hb9 hL9 hL89 hla HAS8 HR8 HL8 HA08 HAS
      have hlz := Later.alloc (Later.refl w9) (.cells #[.int .i64 xe.at_, .slice vL9 (xe.caps.length + 1) vlc9] TE)
      have has10 := HAS9.out.later hlz
      have a0 := HA9.out
      obtain ⟨xs, hx10, he10⟩ := has10.row
      have hlen10 : acc.length ≤ 10000 := by rw [HACC.out, List.length_take, List.length_map]; omega
      have HX := Lib.hid hx10
      have HEl := Lib.hid he10
      have HAS10 := Lib.hid has10
      have HLZ := Lib.hid hlz
      clear has10 hx10 he10 hlz HAS9 HA9
      go_wp2_with (at_builtin; refine wpList_append_has _ rfl _ _ _ rfl (w.heap.size + 2) TE ie _ 2 32 Try.underlying55 hie hie0 hie1 hie2 rfl _ _ xs rfl HX.out _ 1 1 [.int .i64 xe.at_, .slice vL9 (xe.caps.length + 1) vlc9] rfl rfl ?c1 ?c2 (by omega) ?c3 ?c4 ?c5 ?_; fail_if_success done)
      case c1 => exact cells_fresh _ [_, _] _
      case c2 =>
        intro u hu
        simp only [List.mem_cons, List.not_mem_nil, or_false] at hu
        rcases hu with rfl | rfl <;> rfl
      case c3 => simp only [maxLen]; omega
      case c4 => omega
      case c5 => exact HAS10.out.size
      intro v' w11 hrow11 hg11 hb11
      have has11 := HAS10.out.push (v' := v') (y := w11) (cv := .slice vL9 (xe.caps.length + 1) vlc9) hj HX.out HEl.out (by rw [HXE.out]; refine (?_ : HasRow _ 0 TK 3 _ (xe.caps ++ [(⟨num, a, xe.at_⟩ : Cap)]).length (capCells (xe.caps ++ [(⟨num, a, xe.at_⟩ : Cap)]))); rw [List.length_append]; exact HLIST.out.keepT (KeepT.later HLZ.out)) (by rw [HXE.out]; exact hrow11) hg11 (by simpa using hb11)
      have HAS11 := Lib.hid has11
      clear has11 hrow11 hg11 hb11 HX HEl HAS10 HLZ a0 HLIST
      go_wp2_with fail
      go_roundw
      case rel => exact ⟨j + 1, _, _, rfl, by simp, HAS11.out⟩
      case measure => simp [intOf]; omega
    · have t1 : decide ((j : Int) < l.length) = false := decide_eq_false (by omega)
      have t1' : decide (j < l.length) = false := decide_eq_false (by omega)
      have hje : j = l.length := by omega
      have hacc : acc = l.map (fun e => (⟨e.at_, e.caps ++ [⟨num, a, e.at_⟩]⟩ : End)) := by rw [HACC.out, hje, show l.length = (l.map (fun e => (⟨e.at_, e.caps ++ [⟨num, a, e.at_⟩]⟩ : End))).length from (List.length_map ..).symm, List.take_length]
      have HACC1 := Lib.hid hacc
      clear hje hacc
      go_wp2_with fail
      go_ret2
      exact HFIN.out _ _ (by rw [← HACC1.out]; exact HAS.out.row.weak (by omega)) HAS.out.fr HAS.out.st

set_option maxRecDepth 100000 in
set_option maxHeartbeats 4000000 in
theorem ends_imm {w0 w : World} {M : Nat} {dA : Option Addr} {dn dc : Nat} {s : ByteArray} {defs : List Pat} {n b a : Nat} {text : ByteArray} {num lo hi : Int} {k0 : Pat} {A : Option Addr} {c : Nat} 
    (hst : FSt w M dA dn dc s ((b + 1 : Nat) : Int)) (hb3 : b ≤ 3000) (hl : Later w0 w) (hM : w0.heap.size ≤ M) (hs : s.size ≤ 120) (ha : a ≤ s.size) (hkid : KidsIn w0 (.mk 17 text num lo hi [k0]) (.slice A 1 c)) (ih : ∀ (p : Pat) (kv : Value), valid p dn = true → KidsIn w0 p kv → EndsIs w0 M dA dn dc defs s n p kv) (hbn : b < n) (hn : n ≤ 4000) (hv0 : valid k0 dn = true) :
    Calls Try.prog 58 #[.pointer (some ⟨M, 0, none⟩), patV 17 text num lo hi (.slice A 1 c), .int .i64 a] w (SpPost w M dA dn dc s (b + 1) (n + 1) (ev defs s (n + 1) (b + 1) (.mk 17 text num lo hi [k0]) a)) := by
  have HIH := Lib.hid ih
  clear ih
  have hMlt := hst.lt
  have hlw := hl.size
  have hst' := hst.of (show ((b + 1 : Nat) : Int) = (b : Int) + 1 by omega)
  obtain ⟨m0, m1, m2⟩ := hst'.cells
  have mf := frozen_of_row w M 2 _ _ hst'
  have HR := Lib.hid (kids_row hkid)
  have HKID := Lib.hid hkid
  clear hkid
  obtain ⟨g0, kA0, kc0, hA0, hk0, he0, hg0⟩ := kid_cells2 HR.out (j := 0) (by simp) hl
  simp only [List.getElem_cons_zero] at hk0 he0
  obtain ⟨e00, e01, e02, e03, e04, e05⟩ := he0
  simp only [Nat.zero_mul, Nat.zero_add] at e00 e01 e02 e03 e04 e05
  have HK0 := Lib.hid hk0
  clear hk0
  subst hA0
  have hg0w : g0 < w.heap.size := Nat.lt_of_lt_of_le hg0 hlw
  have hg0M : ¬ g0 = M := by omega
  have HE := Lib.hid (SpAt.start hst' hl hM #[.int .i64 17, .string text, .int .i64 num, .int .i64 lo, .int .i64 hi, .slice (some ⟨g0, 0, none⟩) 1 c] a (b : Int))
  have HLW := Lib.hid hl
  clear hst hst' hl
  go_enter Try.func58, Try.ntmps58
  go_wp2_with fail
  refine (HIH.out k0 _ hv0 HK0.out b a _ hbn hb3 ha HE.out.base HE.out.st).mono ?_
  rintro e w4 ⟨v4, st4, rfl, hd4, hpost4⟩
  have hszX := HE.out.size
  have hMw := HE.out.hM
  clear e00 e01 e02 e03 e04 e05
  clear m0 m1 m2 mf
  obtain ⟨l, z, hrow, hz4, hl3, hzb, hfin⟩ : ∃ (l : List End) (z : Int), EndRow (w.heap.size + 2) w4 l v4 ∧ FSt w4 M dA dn dc s z ∧ LB l (b + 122) ∧ (-100000000 ≤ z ∧ z ≤ 3000) ∧ (∀ x v, EndRow w.heap.size x (l.map id) v → Drawn M w x → FSt x M dA dn dc s z → SpPost w M dA dn dc s (b + 1) (n + 1) (ev defs s (n + 1) (b + 1) (.mk 17 text num lo hi [k0]) a) (.returned (.tuple #[v, .bool st4])) x) := by
    cases hr : ev defs s n b k0 a with
    | none =>
      rw [hr] at hpost4
      obtain ⟨⟨l, hrow, hlb⟩, z, hz4, hzn, hzlo⟩ := hpost4
      exact ⟨l, z, hrow.weak (by omega), hz4, hlb, by omega, fun x v h1 h2 h3 => spPost_none (by rw [ev_imm, hr]) h1 (lb_map17 hlb) h2 h3 hzn (by omega) _⟩
    | some r =>
      obtain ⟨l, st, b1⟩ := r
      rw [hr] at hpost4
      obtain ⟨rfl, hrow, hz4⟩ := hpost4
      obtain ⟨hb1, hlb⟩ := ev_len n b k0 a l st4 b1 hr
      exact ⟨l, b1, hrow.weak (by omega), hz4, hlb.mono (by omega), by omega, fun x v h1 h2 h3 => spPost_some (by rw [ev_imm, hr, List.map_id]) h1 h2 h3⟩
  have hlen := hl3.1
  have HLB := Lib.hid hl3.2
  have HFIN := Lib.hid hfin
  have hle4 := Later.alloc (Later.refl w4) (.cells #[] TE)
  have hd5 : Drawn M w w4 := HE.out.fr.trans hd4
  have hsz4 : w.heap.size + 1 < w4.heap.size := Nat.lt_of_lt_of_le hszX hd4.below.size
  have HA : Hid (MpSt w M dA dn dc s #[.int .i64 17, .string text, .int .i64 num, .int .i64 lo, .int .i64 hi, .slice (some ⟨g0, 0, none⟩) 1 c] id z l v4 0 [] (.slice (some ⟨w4.heap.size, 0, none⟩) 0 0) (w4.alloc (.cells #[] TE))) := Lib.hid ⟨Nat.zero_le _, rfl, hz4.later hle4, hd5.trans (Drawn.later hle4 (Nat.le_of_lt hz4.lt)), hle4.has (hd4.has HE.out.blk (by omega)), EndRow.empty _ _ _ (by omega) (heap_alloc_new w4 _), (hrow.weak (Nat.zero_le _)).later hle4, fun g hg => (by
      obtain ⟨xs, hx, _⟩ := hrow
      have h1 := (hx.lt g hg).2.1
      refine ⟨fun e => ?_, Nat.lt_of_lt_of_le h1 hle4.size⟩
      have e : some w4.heap.size = some g := e
      cases e
      omega), hMw.1, by have := hle4.size; omega⟩
  have HP4 := Lib.hid (hd4.has HE.out.blk (by omega))
  obtain ⟨vA, vc, rfl, _, _⟩ := hrow.form
  obtain ⟨ik, hik, hik0, hik1, hik2⟩ := info_parts infoK
  obtain ⟨ie, hie, hie0, hie1, hie2⟩ := info_parts infoE
  clear hpost4 hrow hz4 hl3 hfin hle4 hd4 hd5 HE HIH hv0 HK0
  obtain ⟨p0, p1, p2, p3, p4, p5⟩ := cells_p HP4.out
  go_wp2_with fail
  clear p0 p1 p2 p3 p4 p5
  go_loopw [26, 25] (fun i v wx => ∃ (j : Nat) (acc : List End) (lv : Value), lv = v ∧ i = .int .i64 j ∧ MpSt w M dA dn dc s #[.int .i64 17, .string text, .int .i64 num, .int .i64 lo, .int .i64 hi, .slice (some ⟨g0, 0, none⟩) 1 c] id z l (.slice vA l.length vc) j acc lv wx) (fun i _ _ => l.length - (intOf i).toNat)
  case atStart => exact ⟨0, _, _, rfl, rfl, HA.out⟩
  case round =>
    clear HA
    obtain ⟨j, acc, lv, rfl, rfl, has⟩ := hrel
    have HACC := Lib.hid has.acc_eq
    obtain ⟨wo, rfl⟩ : ∃ wo : World, wo = wr := ⟨_, rfl⟩
    have hjl := has.le
    have HAS := Lib.hid has
    obtain ⟨lA, lc, rfl, _, _⟩ := has.row.form
    clear has
    by_cases hj : j < l.length
    · have t1 : decide ((j : Int) < l.length) = true := decide_eq_true (by omega)
      have t1' : decide (j < l.length) = true := decide_eq_true (by omega)
      obtain ⟨g2, c2', cv2, hv2, _, hg2, a0, a1, hcv2⟩ := HAS.out.sec.cell hj
      obtain ⟨rfl, rfl⟩ : vA = some ⟨g2, 0, none⟩ ∧ vc = c2' := by simpa using hv2
      obtain ⟨cA2, cc2, hcv, _, _⟩ := hcv2.form
      subst hcv
      obtain ⟨xe, hxe⟩ : ∃ xe, l[j] = xe := ⟨_, rfl⟩
      rw [hxe] at a0 a1 hcv2
      have hxc := HLB.out xe (by rw [← hxe]; exact List.getElem_mem hj)
      have HXE := Lib.hid hxe
      have HA0 := Lib.hid a0
      have hlx := Later.alloc (Later.refl wo) (.cells #[] TK)
      have HLX := Lib.hid hlx
      have HCX := Lib.hid (hcv2.keepT (KeepT.later hlx))
      clear hv2 hcv2 hxe hlx
      go_wp2_with (at_builtin; refine wpList_append_fresh _ rfl _ _ _ rfl wo.heap.size 0 TK ik _ 3 24 Try.underlying31 hik hik0 hik1 hik2 rfl rfl (heap_alloc_new wo _) (Nat.le_refl _) rfl HCX.out ?a1 (by omega) ?_; fail_if_success done)
      case a1 => omega
      intro v7 w7 hrow7 hl7 hb7
      obtain ⟨vL, vlc, rfl, _, _⟩ := hrow7.form
      have HR7 := Lib.hid hrow7
      have HL7 := Lib.hid (HLX.out.trans hl7)
      have HAS7 := Lib.hid (HAS.out.later (HLX.out.trans hl7))
      clear hrow7 hl7 hb7 a0 a1 HCX HLX
      obtain ⟨p0, p1, p2, p3, p4, p5⟩ := cells_p HAS7.out.blk
      have HLIST := Lib.hid (HR7.out.weak (b2 := 0) (Nat.zero_le _))
      obtain ⟨w9, rfl⟩ : ∃ w9 : World, w9 = w7 := ⟨_, rfl⟩
      have HAS9 := Lib.hid HAS7.out
      have HA9 := Lib.hid ((HL7.out.cell _ hg2).trans HA0.out)
      have hg29 : g2 < w9.heap.size := Nat.lt_of_lt_of_le hg2 HL7.out.size
      clear HR7 HL7 HAS7 HAS
      have hlz := Later.alloc (Later.refl w9) (.cells #[.int .i64 xe.at_, .slice vL xe.caps.length vlc] TE)
      have has10 := HAS9.out.later hlz
      have a0 := HA9.out
      obtain ⟨xs, hx10, he10⟩ := has10.row
      have hlen10 : acc.length ≤ 10000 := by rw [HACC.out, List.length_take, List.length_map]; omega
      have HX := Lib.hid hx10
      have HEl := Lib.hid he10
      have HAS10 := Lib.hid has10
      have HLZ := Lib.hid hlz
      clear has10 hx10 he10 hlz HAS9 HA9
      go_wp2_with (at_builtin; refine wpList_append_has _ rfl _ _ _ rfl (w.heap.size + 2) TE ie _ 2 32 Try.underlying55 hie hie0 hie1 hie2 rfl _ _ xs rfl HX.out _ 1 1 [.int .i64 xe.at_, .slice vL xe.caps.length vlc] rfl rfl ?c1 ?c2 (by omega) ?c3 ?c4 ?c5 ?_; fail_if_success done)
      case c1 => exact cells_fresh _ [_, _] _
      case c2 =>
        intro u hu
        simp only [List.mem_cons, List.not_mem_nil, or_false] at hu
        rcases hu with rfl | rfl <;> rfl
      case c3 => simp only [maxLen]; omega
      case c4 => omega
      case c5 => exact HAS10.out.size
      intro v' w11 hrow11 hg11 hb11
      have has11 := HAS10.out.push (v' := v') (y := w11) (cv := .slice vL xe.caps.length vlc) hj HX.out HEl.out (by rw [HXE.out]; exact HLIST.out.keepT (KeepT.later HLZ.out)) (by rw [HXE.out]; exact hrow11) hg11 (by simpa using hb11)
      have HAS11 := Lib.hid has11
      clear has11 hrow11 hg11 hb11 HX HEl HAS10 HLZ a0 HLIST
      go_wp2_with fail
      go_roundw
      case rel => exact ⟨j + 1, _, _, rfl, by simp, HAS11.out⟩
      case measure => simp [intOf]; omega
    · have t1 : decide ((j : Int) < l.length) = false := decide_eq_false (by omega)
      have t1' : decide (j < l.length) = false := decide_eq_false (by omega)
      have hje : j = l.length := by omega
      have hacc : acc = l.map id := by rw [HACC.out, hje, show l.length = (l.map id).length from (List.length_map ..).symm, List.take_length]
      have HACC1 := Lib.hid hacc
      clear hje hacc
      go_wp2_with fail
      go_ret2
      exact HFIN.out _ _ (by rw [← HACC1.out]; exact HAS.out.row.weak (by omega)) HAS.out.fr HAS.out.st

end Go.Proofs.Ytndefbecoahfhaa

/- spec's l19Ends at every pattern. Printed by gen_endsp2.py. -/
namespace Go.Proofs.Ytndefbecoahfhaa
open Go.RowKit

/-- spec's l19Ends. -/
theorem ends_any (w0 : World) (M : Nat) (dA : Option Addr) (dn dc : Nat) (s : ByteArray) (defs : List Pat) (hM : w0.heap.size ≤ M) (hs : s.size ≤ 120) (hdn : dn = defs.length) (hdv : DefsOkV defs) (hdefs : RowIn w0 dA 0 defs) :
    ∀ (n : Nat) (p : Pat) (kv : Value), n ≤ 4000 → valid p dn = true → KidsIn w0 p kv → EndsIs w0 M dA dn dc defs s n p kv
  | 0, p, kv, _, _, _ => fun b a w hbn _ _ _ _ => absurd hbn (Nat.not_lt_zero _)
  | n + 1, p, kv, hn4, hv, hin => fun b a w hbn hb3 ha hl hst => by
    have hn : n ≤ 4000 := by omega
    have ih := fun p kv => ends_any w0 M dA dn dc s defs hM hs hdn hdv hdefs n p kv hn
    obtain ⟨A, c, rfl, _, _⟩ := hin.form
    obtain ⟨op, text, num, lo, hi, kids⟩ := p
    cases b with
    | zero => exact ends_zero hst
    | succ b =>
      have hbn' : b < n := Nat.lt_of_succ_lt_succ hbn
      have hb3' : b ≤ 3000 := by omega
      have hop := (valid_kids hv).1
      have hkl := (valid_kids hv).2
      have hw := valid_words hv
      have hkid := kid_v hv
      have hvar := valid_var hv
      simp only [Pat.op, Pat.kids, Pat.text, Pat.num] at hop hkl hw hkid hvar
      by_cases hsi : isSimple op
      · exact ends_simple hst hb3' hl hM hs ha hsi hw
      · unfold isSimple at hsi
        have hcase : op = 11 ∨ op = 13 ∨ op = 14 ∨ op = 15 ∨ op = 16 ∨ op = 17 ∨ op = 18 ∨ op = 19 ∨ op = 20 ∨ op = 21 := by omega
        rcases hcase with rfl | rfl | rfl | rfl | rfl | rfl | rfl | rfl | rfl | rfl
        · exact ends_arb hst hb3' hl hM hs ha
        · obtain ⟨k0, rfl⟩ := List.length_eq_one_iff.1 (show kids.length = 1 by have : kidsOf 13 = 1 := rfl; omega)
          exact ends_arbno hst hb3' hl hM hs ha hin ih hbn' hn (hkid 0 (by decide)) hv hdv hdn
        · obtain ⟨k0, k1, rfl⟩ := two_of (show kids.length = 2 by have : kidsOf 14 = 2 := rfl; omega)
          exact ends_cat hst hb3' hl hM hs ha hin ih hbn' hn (hkid 0 (by decide)) (hkid 1 (by decide)) hdv hdn
        · obtain ⟨k0, k1, rfl⟩ := two_of (show kids.length = 2 by have : kidsOf 15 = 2 := rfl; omega)
          exact ends_alt hst hb3' hl hM hs ha hin ih hbn' hn (hkid 0 (by decide)) (hkid 1 (by decide)) hdv hdn
        · obtain ⟨k0, rfl⟩ := List.length_eq_one_iff.1 (show kids.length = 1 by have : kidsOf 16 = 1 := rfl; omega)
          exact ends_assign hst hb3' hl hM hs ha hin ih hbn' hn (hkid 0 (by decide))
        · obtain ⟨k0, rfl⟩ := List.length_eq_one_iff.1 (show kids.length = 1 by have : kidsOf 17 = 1 := rfl; omega)
          exact ends_imm hst hb3' hl hM hs ha hin ih hbn' hn (hkid 0 (by decide))
        · exact ends_cursor hst hb3' hl hM hs ha
        · exact ends_fence hst hb3' hl hM hs ha
        · obtain ⟨h0, h1⟩ := hvar (by omega)
          have hil : num.toNat < defs.length := by omega
          have hvd := hdv num.toNat hil
          rw [← hdn] at hvd
          have hnum : num = (num.toNat : Int) := by omega
          exact ends_defer (i := num.toNat) hst hb3' hl hM hs ha ih hbn' hn hdn hnum hil hdefs hvd
        · exact ends_abort hst hb3' hl hM hs ha
end Go.Proofs.Ytndefbecoahfhaa

/- EndingsOf of both sides at every argument: one answer. Printed by gen_endof.py. -/
namespace Go.Proofs.Ytndefbecoahfhaa
open Go.RowKit

/-- What EndingsOf answers. -/
def endRes (defs : List Pat) (p : Pat) (s : ByteArray) (fr : Int) : EvR := if validD defs p && decide (s.size ≤ 120) && decide (0 ≤ fr) && decide (fr ≤ s.size) then ev defs s 3001 3000 p fr.toNat else none
def EndsOf (w : World) (r : EvR) (e : Ending) (w' : World) : Prop :=
  Below w.heap.size w w' ∧ match r with
    | some (l, st, _) => ∃ v, e = .returned (.tuple #[v, .bool st, .bool true]) ∧ EndRow w.heap.size w' l v
    | none => e = .returned (.tuple #[.slice none 0 0, .bool false, .bool false])
theorem below_drawn {w x y : World} {M : Nat} (h : Below w.heap.size w x) (hd : Drawn M x y) (hM : w.heap.size ≤ M) : Below w.heap.size w y := later_drawn h hd hM

section
variable (defs : List Pat) (dA : Option Addr) (dc : Nat) (p : Pat) (kv : Value) (s : ByteArray) (fr : Int) (w : World) (hs : Smalls defs) (hp : Small p) (hd : RowIn w dA 0 defs) (hin : KidsIn w p kv) (hdl : defs.length ≤ 1099511627776) (hsl : s.size ≤ 1099511627776)
include hs hp hd hin hdl hsl
set_option maxRecDepth 100000 in
set_option maxHeartbeats 4000000 in
theorem implEnds_invalid (hv : validD defs p = false) : Calls Try.prog 30 #[.slice dA defs.length dc, p.v kv, .string s, .int .i64 fr] w (EndsOf w (none)) := by
  obtain ⟨kA, kc, rfl, _, _⟩ := hin.form
  have HS := Lib.hid hs
  have HP := Lib.hid hp
  have HD := Lib.hid hd
  have HIN := Lib.hid hin
  clear hs hp hd hin
  have hlw := Later.alloc (Later.refl w) (.cells #[.int .i64 p.op, .string p.text, .int .i64 p.num, .int .i64 p.lo, .int .i64 p.hi, .slice kA p.kids.length kc] TP)
  have HV := Lib.hid hv
  have _ := hsl
  clear hv
  go_enter Try.func30, Try.ntmps30
  go_wp2_with fail
  refine (validDefinitions_is false defs dA dc p _ _ HS.out HP.out (RowIn.later hlw _ _ _ HD.out) (KidsIn.later hlw _ _ HIN.out) hdl HV.out).mono ?_
  rintro e w2 ⟨rfl, hb2⟩
  have HL2 := Lib.hid (hlw.trans hb2)
  have HP2 := Lib.hid (Later.has hb2 (heap_alloc_new w (.cells #[.int .i64 p.op, .string p.text, .int .i64 p.num, .int .i64 p.lo, .int .i64 p.hi, .slice kA p.kids.length kc] TP)))
  clear hb2 hlw
  go_wp2_with fail
  go_ret3
  exact ⟨HL2.out, rfl⟩

set_option maxRecDepth 100000 in
set_option maxHeartbeats 4000000 in
theorem implEnds_long (hv : validD defs p = true) (h1 : ¬ s.size ≤ 120) : Calls Try.prog 30 #[.slice dA defs.length dc, p.v kv, .string s, .int .i64 fr] w (EndsOf w (none)) := by
  obtain ⟨kA, kc, rfl, _, _⟩ := hin.form
  have HS := Lib.hid hs
  have HP := Lib.hid hp
  have HD := Lib.hid hd
  have HIN := Lib.hid hin
  clear hs hp hd hin
  have hlw := Later.alloc (Later.refl w) (.cells #[.int .i64 p.op, .string p.text, .int .i64 p.num, .int .i64 p.lo, .int .i64 p.hi, .slice kA p.kids.length kc] TP)
  have HV := Lib.hid hv
  clear hv
  have t1 : decide ((120 : Int) < s.size) = true := decide_eq_true (by omega)
  go_enter Try.func30, Try.ntmps30
  go_wp2_with fail
  refine (validDefinitions_is true defs dA dc p _ _ HS.out HP.out (RowIn.later hlw _ _ _ HD.out) (KidsIn.later hlw _ _ HIN.out) hdl HV.out).mono ?_
  rintro e w2 ⟨rfl, hb2⟩
  have HL2 := Lib.hid (hlw.trans hb2)
  have HP2 := Lib.hid (Later.has hb2 (heap_alloc_new w (.cells #[.int .i64 p.op, .string p.text, .int .i64 p.num, .int .i64 p.lo, .int .i64 p.hi, .slice kA p.kids.length kc] TP)))
  clear hb2 hlw
  go_wp2_with fail
  go_ret3
  exact ⟨HL2.out, rfl⟩

set_option maxRecDepth 100000 in
set_option maxHeartbeats 4000000 in
theorem implEnds_neg (hv : validD defs p = true) (h1 : s.size ≤ 120) (h2 : fr < 0) : Calls Try.prog 30 #[.slice dA defs.length dc, p.v kv, .string s, .int .i64 fr] w (EndsOf w (none)) := by
  obtain ⟨kA, kc, rfl, _, _⟩ := hin.form
  have HS := Lib.hid hs
  have HP := Lib.hid hp
  have HD := Lib.hid hd
  have HIN := Lib.hid hin
  clear hs hp hd hin
  have hlw := Later.alloc (Later.refl w) (.cells #[.int .i64 p.op, .string p.text, .int .i64 p.num, .int .i64 p.lo, .int .i64 p.hi, .slice kA p.kids.length kc] TP)
  have HV := Lib.hid hv
  clear hv
  have t1 : decide ((120 : Int) < s.size) = false := decide_eq_false (by omega)
  have t2 : decide (fr < 0) = true := decide_eq_true h2
  go_enter Try.func30, Try.ntmps30
  go_wp2_with fail
  refine (validDefinitions_is true defs dA dc p _ _ HS.out HP.out (RowIn.later hlw _ _ _ HD.out) (KidsIn.later hlw _ _ HIN.out) hdl HV.out).mono ?_
  rintro e w2 ⟨rfl, hb2⟩
  have HL2 := Lib.hid (hlw.trans hb2)
  have HP2 := Lib.hid (Later.has hb2 (heap_alloc_new w (.cells #[.int .i64 p.op, .string p.text, .int .i64 p.num, .int .i64 p.lo, .int .i64 p.hi, .slice kA p.kids.length kc] TP)))
  clear hb2 hlw
  go_wp2_with fail
  go_ret3
  exact ⟨HL2.out, rfl⟩

set_option maxRecDepth 100000 in
set_option maxHeartbeats 4000000 in
theorem implEnds_far (hv : validD defs p = true) (h1 : s.size ≤ 120) (h2 : ¬ fr < 0) (h3 : (s.size : Int) < fr) : Calls Try.prog 30 #[.slice dA defs.length dc, p.v kv, .string s, .int .i64 fr] w (EndsOf w (none)) := by
  obtain ⟨kA, kc, rfl, _, _⟩ := hin.form
  have HS := Lib.hid hs
  have HP := Lib.hid hp
  have HD := Lib.hid hd
  have HIN := Lib.hid hin
  clear hs hp hd hin
  have hlw := Later.alloc (Later.refl w) (.cells #[.int .i64 p.op, .string p.text, .int .i64 p.num, .int .i64 p.lo, .int .i64 p.hi, .slice kA p.kids.length kc] TP)
  have HV := Lib.hid hv
  clear hv
  have t1 : decide ((120 : Int) < s.size) = false := decide_eq_false (by omega)
  have t2 : decide (fr < 0) = false := decide_eq_false h2
  have t3 : decide ((s.size : Int) < fr) = true := decide_eq_true h3
  go_enter Try.func30, Try.ntmps30
  go_wp2_with fail
  refine (validDefinitions_is true defs dA dc p _ _ HS.out HP.out (RowIn.later hlw _ _ _ HD.out) (KidsIn.later hlw _ _ HIN.out) hdl HV.out).mono ?_
  rintro e w2 ⟨rfl, hb2⟩
  have HL2 := Lib.hid (hlw.trans hb2)
  have HP2 := Lib.hid (Later.has hb2 (heap_alloc_new w (.cells #[.int .i64 p.op, .string p.text, .int .i64 p.num, .int .i64 p.lo, .int .i64 p.hi, .slice kA p.kids.length kc] TP)))
  clear hb2 hlw
  go_wp2_with fail
  go_ret3
  exact ⟨HL2.out, rfl⟩

set_option maxRecDepth 100000 in
set_option maxHeartbeats 4000000 in
theorem implEnds_ok (hv : validD defs p = true) (h1 : s.size ≤ 120) (h2 : 0 ≤ fr) (h3 : fr ≤ s.size) : Calls Try.prog 30 #[.slice dA defs.length dc, p.v kv, .string s, .int .i64 fr] w (EndsOf w (ev defs s 3001 3000 p fr.toNat)) := by
  obtain ⟨kA, kc, rfl, _, _⟩ := hin.form
  have HS := Lib.hid hs
  have HP := Lib.hid hp
  have HD := Lib.hid hd
  have HIN := Lib.hid hin
  clear hs hp hd hin
  have hlw := Later.alloc (Later.refl w) (.cells #[.int .i64 p.op, .string p.text, .int .i64 p.num, .int .i64 p.lo, .int .i64 p.hi, .slice kA p.kids.length kc] TP)
  have HV := Lib.hid hv
  have hdv := (validD_defs hv HS.out).1
  have hpv := (validD_defs hv HS.out).2
  have HDV := Lib.hid (show DefsOkV defs from hdv.valid)
  have HPV := Lib.hid hpv
  clear hv hdv hpv
  obtain ⟨a, rfl⟩ : ∃ a : Nat, fr = (a : Int) := ⟨fr.toNat, by omega⟩
  rw [Int.toNat_natCast]
  have ha : a ≤ s.size := by omega
  have t1 : decide ((120 : Int) < s.size) = false := decide_eq_false (by omega)
  have t2 : decide ((a : Int) < 0) = false := decide_eq_false (by omega)
  have t3 : decide ((s.size : Int) < (a : Int)) = false := decide_eq_false (by omega)
  have t3' : decide (s.size < a) = false := decide_eq_false (by omega)
  go_enter Try.func30, Try.ntmps30
  go_wp2_with fail
  refine (validDefinitions_is true defs dA dc p _ _ HS.out HP.out (RowIn.later hlw _ _ _ HD.out) (KidsIn.later hlw _ _ HIN.out) hdl HV.out).mono ?_
  rintro e w2 ⟨rfl, hb2⟩
  have HL2 := Lib.hid (hlw.trans hb2)
  have HP2 := Lib.hid (Later.has hb2 (heap_alloc_new w (.cells #[.int .i64 p.op, .string p.text, .int .i64 p.num, .int .i64 p.lo, .int .i64 p.hi, .slice kA p.kids.length kc] TP)))
  clear hb2 hlw
  have hla := Later.alloc (Later.refl w2) (.cells #[.slice dA defs.length dc, .string s, .int .i64 0, .bool false] TN)
  have HM := Lib.hid (heap_alloc_new w2 (.cells #[.slice dA defs.length dc, .string s, .int .i64 0, .bool false] TN))
  have HLA := Lib.hid hla
  have HP3 := Lib.hid (hla.has HP2.out)
  have hsz2 := HL2.out.size
  have hPw : w.heap.size < w2.heap.size := has_lt' HP2.out
  clear hla
  obtain ⟨p0, p1, p2, p3, p4, p5⟩ := cells_p HP2.out
  go_wp2_with fail
  clear p0 p1 p2 p3 p4 p5
  refine (eval_any w2 w2.heap.size dA defs.length dc s defs (Nat.le_refl _) h1 rfl HDV.out (RowIn.later HL2.out _ _ _ HD.out) 3001 p _ HPV.out (KidsIn.later HL2.out _ _ HIN.out) 3000 a _ (by omega) ha HLA.out ⟨by omega, HM.out⟩).mono ?_
  rintro e w4 ⟨v, st, rfl, hd4, hpost⟩
  have HB4 := Lib.hid (below_drawn (HL2.out.trans HLA.out) hd4 hsz2)
  cases hr : ev defs s 3001 3000 p a with
  | none =>
    rw [hr] at hpost
    obtain ⟨_, k, hk⟩ := hpost
    obtain ⟨m0, m1, m2, m3⟩ := cells_n hk
    have HR0 := Lib.hid hr
    clear hr hk hd4
    go_wp2_with fail
    go_ret3
    rw [HR0.out]
    exact ⟨HB4.out, rfl⟩
  | some r =>
    obtain ⟨l, st', b'⟩ := r
    rw [hr] at hpost
    obtain ⟨rfl, hrow, hn⟩ := hpost
    obtain ⟨m0, m1, m2, m3⟩ := cells_n hn.2
    have HROW := Lib.hid (hrow.weak (b2 := w.heap.size) (Nat.le_trans hsz2 HLA.out.size))
    have HR0 := Lib.hid hr
    clear hr hn hd4 hrow
    go_wp2_with fail
    go_ret3
    rw [HR0.out]
    exact ⟨HB4.out, v, rfl, HROW.out⟩

set_option maxRecDepth 100000 in
set_option maxHeartbeats 4000000 in
theorem specEnds_invalid (hv : validD defs p = false) : Calls Try.prog 31 #[.slice dA defs.length dc, p.v kv, .string s, .int .i64 fr] w (EndsOf w (none)) := by
  obtain ⟨kA, kc, rfl, _, _⟩ := hin.form
  have HS := Lib.hid hs
  have HP := Lib.hid hp
  have HD := Lib.hid hd
  have HIN := Lib.hid hin
  clear hs hp hd hin
  have hlw := Later.alloc (Later.refl w) (.cells #[.int .i64 p.op, .string p.text, .int .i64 p.num, .int .i64 p.lo, .int .i64 p.hi, .slice kA p.kids.length kc] TP)
  have HV := Lib.hid hv
  have _ := hsl
  clear hv
  go_enter Try.func31, Try.ntmps31
  go_wp2_with fail
  refine (l18Defs_is false defs dA dc p _ _ HS.out HP.out (RowIn.later hlw _ _ _ HD.out) (KidsIn.later hlw _ _ HIN.out) hdl HV.out).mono ?_
  rintro e w2 ⟨rfl, hb2⟩
  have HL2 := Lib.hid (hlw.trans hb2)
  have HP2 := Lib.hid (Later.has hb2 (heap_alloc_new w (.cells #[.int .i64 p.op, .string p.text, .int .i64 p.num, .int .i64 p.lo, .int .i64 p.hi, .slice kA p.kids.length kc] TP)))
  clear hb2 hlw
  go_wp2_with fail
  go_ret3
  exact ⟨HL2.out, rfl⟩

set_option maxRecDepth 100000 in
set_option maxHeartbeats 4000000 in
theorem specEnds_long (hv : validD defs p = true) (h1 : ¬ s.size ≤ 120) : Calls Try.prog 31 #[.slice dA defs.length dc, p.v kv, .string s, .int .i64 fr] w (EndsOf w (none)) := by
  obtain ⟨kA, kc, rfl, _, _⟩ := hin.form
  have HS := Lib.hid hs
  have HP := Lib.hid hp
  have HD := Lib.hid hd
  have HIN := Lib.hid hin
  clear hs hp hd hin
  have hlw := Later.alloc (Later.refl w) (.cells #[.int .i64 p.op, .string p.text, .int .i64 p.num, .int .i64 p.lo, .int .i64 p.hi, .slice kA p.kids.length kc] TP)
  have HV := Lib.hid hv
  clear hv
  have t1 : decide ((120 : Int) < s.size) = true := decide_eq_true (by omega)
  go_enter Try.func31, Try.ntmps31
  go_wp2_with fail
  refine (l18Defs_is true defs dA dc p _ _ HS.out HP.out (RowIn.later hlw _ _ _ HD.out) (KidsIn.later hlw _ _ HIN.out) hdl HV.out).mono ?_
  rintro e w2 ⟨rfl, hb2⟩
  have HL2 := Lib.hid (hlw.trans hb2)
  have HP2 := Lib.hid (Later.has hb2 (heap_alloc_new w (.cells #[.int .i64 p.op, .string p.text, .int .i64 p.num, .int .i64 p.lo, .int .i64 p.hi, .slice kA p.kids.length kc] TP)))
  clear hb2 hlw
  go_wp2_with fail
  go_ret3
  exact ⟨HL2.out, rfl⟩

set_option maxRecDepth 100000 in
set_option maxHeartbeats 4000000 in
theorem specEnds_out (hv : validD defs p = true) (h1 : s.size ≤ 120) (h2 : (decide (0 ≤ fr) && decide (fr ≤ s.size)) = false) : Calls Try.prog 31 #[.slice dA defs.length dc, p.v kv, .string s, .int .i64 fr] w (EndsOf w (none)) := by
  obtain ⟨kA, kc, rfl, _, _⟩ := hin.form
  have HS := Lib.hid hs
  have HP := Lib.hid hp
  have HD := Lib.hid hd
  have HIN := Lib.hid hin
  clear hs hp hd hin
  have hlw := Later.alloc (Later.refl w) (.cells #[.int .i64 p.op, .string p.text, .int .i64 p.num, .int .i64 p.lo, .int .i64 p.hi, .slice kA p.kids.length kc] TP)
  have HV := Lib.hid hv
  have HF := Lib.hid h2
  clear hv h2
  have t1 : decide ((120 : Int) < s.size) = false := decide_eq_false (by omega)
  go_enter Try.func31, Try.ntmps31
  go_wp2_with fail
  refine (l18Defs_is true defs dA dc p _ _ HS.out HP.out (RowIn.later hlw _ _ _ HD.out) (KidsIn.later hlw _ _ HIN.out) hdl HV.out).mono ?_
  rintro e w2 ⟨rfl, hb2⟩
  have HL2 := Lib.hid (hlw.trans hb2)
  have HP2 := Lib.hid (Later.has hb2 (heap_alloc_new w (.cells #[.int .i64 p.op, .string p.text, .int .i64 p.num, .int .i64 p.lo, .int .i64 p.hi, .slice kA p.kids.length kc] TP)))
  clear hb2 hlw
  go_wp2_with fail
  refine (l1In_is false _ _ _ _ HF.out).mono ?_
  rintro e w3 ⟨rfl, rfl⟩
  go_wp2_with fail
  go_ret3
  exact ⟨HL2.out, rfl⟩

set_option maxRecDepth 100000 in
set_option maxHeartbeats 4000000 in
theorem specEnds_ok (hv : validD defs p = true) (h1 : s.size ≤ 120) (h2 : 0 ≤ fr) (h3 : fr ≤ s.size) : Calls Try.prog 31 #[.slice dA defs.length dc, p.v kv, .string s, .int .i64 fr] w (EndsOf w (ev defs s 3001 3000 p fr.toNat)) := by
  obtain ⟨kA, kc, rfl, _, _⟩ := hin.form
  have HS := Lib.hid hs
  have HP := Lib.hid hp
  have HD := Lib.hid hd
  have HIN := Lib.hid hin
  clear hs hp hd hin
  have hlw := Later.alloc (Later.refl w) (.cells #[.int .i64 p.op, .string p.text, .int .i64 p.num, .int .i64 p.lo, .int .i64 p.hi, .slice kA p.kids.length kc] TP)
  have HV := Lib.hid hv
  have hdv := (validD_defs hv HS.out).1
  have hpv := (validD_defs hv HS.out).2
  have HDV := Lib.hid (show DefsOkV defs from hdv.valid)
  have HPV := Lib.hid hpv
  clear hv hdv hpv
  obtain ⟨a, rfl⟩ : ∃ a : Nat, fr = (a : Int) := ⟨fr.toNat, by omega⟩
  rw [Int.toNat_natCast]
  have ha : a ≤ s.size := by omega
  have t1 : decide ((120 : Int) < s.size) = false := decide_eq_false (by omega)
  have HF := Lib.hid (show (decide (0 ≤ (a : Int)) && decide ((a : Int) ≤ s.size)) = true by simp; omega)
  go_enter Try.func31, Try.ntmps31
  go_wp2_with fail
  refine (l18Defs_is true defs dA dc p _ _ HS.out HP.out (RowIn.later hlw _ _ _ HD.out) (KidsIn.later hlw _ _ HIN.out) hdl HV.out).mono ?_
  rintro e w2 ⟨rfl, hb2⟩
  have HL2 := Lib.hid (hlw.trans hb2)
  have HP2 := Lib.hid (Later.has hb2 (heap_alloc_new w (.cells #[.int .i64 p.op, .string p.text, .int .i64 p.num, .int .i64 p.lo, .int .i64 p.hi, .slice kA p.kids.length kc] TP)))
  clear hb2 hlw
  go_wp2_with fail
  refine (l1In_is true _ _ _ _ HF.out).mono ?_
  rintro e w3 ⟨rfl, rfl⟩
  have hla := Later.alloc (Later.refl w2) (.cells #[.slice dA defs.length dc, .string s, .int .i64 3000] TF)
  have HM := Lib.hid (heap_alloc_new w2 (.cells #[.slice dA defs.length dc, .string s, .int .i64 3000] TF))
  have HLA := Lib.hid hla
  have HP3 := Lib.hid (hla.has HP2.out)
  have hsz2 := HL2.out.size
  have hPw : w.heap.size < w2.heap.size := has_lt' HP2.out
  clear hla
  obtain ⟨p0, p1, p2, p3, p4, p5⟩ := cells_p HP2.out
  go_wp2_with fail
  clear p0 p1 p2 p3 p4 p5
  refine (ends_any w2 w2.heap.size dA defs.length dc s defs (Nat.le_refl _) h1 rfl HDV.out (RowIn.later HL2.out _ _ _ HD.out) 3001 p _ (by omega) HPV.out (KidsIn.later HL2.out _ _ HIN.out) 3000 a _ (by omega) (by omega) ha HLA.out HM.out).mono ?_
  rintro e w4 ⟨v, st, rfl, hd4, hpost⟩
  have HB4 := Lib.hid (below_drawn (HL2.out.trans HLA.out) hd4 hsz2)
  cases hr : ev defs s 3001 3000 p a with
  | none =>
    rw [hr] at hpost
    obtain ⟨_, z, hz, hzn, _⟩ := hpost
    obtain ⟨m0, m1, m2⟩ := hz.cells
    have HR0 := Lib.hid hr
    clear hr hz hd4
    go_wp2_with fail
    go_ret3
    rw [HR0.out]
    exact ⟨HB4.out, rfl⟩
  | some r =>
    obtain ⟨l, st', b'⟩ := r
    rw [hr] at hpost
    obtain ⟨rfl, hrow, hn⟩ := hpost
    obtain ⟨m0, m1, m2⟩ := hn.cells
    have t6 : decide ((b' : Int) < 0) = false := decide_eq_false (by omega)
    have HROW := Lib.hid (hrow.weak (b2 := w.heap.size) (Nat.le_trans hsz2 HLA.out.size))
    have HR0 := Lib.hid hr
    clear hr hn hd4 hrow
    go_wp2_with fail
    go_ret3
    rw [HR0.out]
    exact ⟨HB4.out, v, rfl, HROW.out⟩

theorem implEnds_any : Calls Try.prog 30 #[.slice dA defs.length dc, p.v kv, .string s, .int .i64 fr] w (EndsOf w (endRes defs p s fr)) := by
    cases hv : validD defs p with
    | false =>
      rw [show endRes defs p s fr = none by simp [endRes, hv]]
      exact implEnds_invalid defs dA dc p kv s fr w hs hp hd hin hdl hsl hv
    | true =>
      by_cases h1 : s.size ≤ 120
      · skip
        by_cases h2 : fr < 0
        · rw [show endRes defs p s fr = none by simp [endRes, hv, h1]; intro h; omega]
          exact implEnds_neg defs dA dc p kv s fr w hs hp hd hin hdl hsl hv h1 h2
        by_cases h3 : (s.size : Int) < fr
        · rw [show endRes defs p s fr = none by simp [endRes, hv, h1]; omega]
          exact implEnds_far defs dA dc p kv s fr w hs hp hd hin hdl hsl hv h1 h2 h3
        rw [show endRes defs p s fr = ev defs s 3001 3000 p fr.toNat by rw [endRes, if_pos]; simp [hv, h1]; omega]
        exact implEnds_ok defs dA dc p kv s fr w hs hp hd hin hdl hsl hv h1 (by omega) (by omega)
      · rw [show endRes defs p s fr = none by simp [endRes, hv, h1]]
        exact implEnds_long defs dA dc p kv s fr w hs hp hd hin hdl hsl hv h1
theorem specEnds_any : Calls Try.prog 31 #[.slice dA defs.length dc, p.v kv, .string s, .int .i64 fr] w (EndsOf w (endRes defs p s fr)) := by
    cases hv : validD defs p with
    | false =>
      rw [show endRes defs p s fr = none by simp [endRes, hv]]
      exact specEnds_invalid defs dA dc p kv s fr w hs hp hd hin hdl hsl hv
    | true =>
      by_cases h1 : s.size ≤ 120
      · skip
        by_cases h4 : (decide (0 ≤ fr) && decide (fr ≤ s.size)) = false
        · rw [show endRes defs p s fr = none by rw [endRes, Bool.and_assoc, h4, Bool.and_false]; rfl]
          exact specEnds_out defs dA dc p kv s fr w hs hp hd hin hdl hsl hv h1 h4
        have h5 : (decide (0 ≤ fr) && decide (fr ≤ s.size)) = true := by simpa using h4
        simp only [Bool.and_eq_true, decide_eq_true_eq] at h5
        have h2 : ¬ fr < 0 := by omega
        have h3 : ¬ (s.size : Int) < fr := by omega
        rw [show endRes defs p s fr = ev defs s 3001 3000 p fr.toNat by rw [endRes, if_pos]; simp [hv, h1]; omega]
        exact specEnds_ok defs dA dc p kv s fr w hs hp hd hin hdl hsl hv h1 (by omega) (by omega)
      · rw [show endRes defs p s fr = none by simp [endRes, hv, h1]]
        exact specEnds_long defs dA dc p kv s fr w hs hp hd hin hdl hsl hv h1
end
end Go.Proofs.Ytndefbecoahfhaa

/- The walk of a drawn region, where either of two operations may come next. -/
namespace Go.Proofs.Ytndefbecoahfhaa
open Go.RowKit

section
variable {P : Program} {ops : Array Oper} {Q : Exit → Act → World → Prop}
/-- One operation of those that may come next, taken now. -/
theorem wpU_now {i : Nat} {L U : List Nat} {o : Oper} {fuel : Nat} {listed : Array Bool} {a : Act} {w : World} (hu : U.contains i = false) (ho : ops[i]? = some o)
    (h : wpList P ops (StepQ Q w (fun a' w' => wpU P ops Q L U fuel (listed.setIfInBounds i true) a' w')) [o] a w) :
    wpOp P ops Q i (fun a' w' => ((tlOf L U i = false → Later w w') ∧ (puOf U i = true → w' = w)) ∧ wpAnyU P .any ops Q (tlOf L U) (puOf U) (Later w) fuel (listed.setIfInBounds i true) a' w') a w := by
  unfold wpList at h
  unfold wpOp
  rw [ho]
  have hK : ∀ a' w', wpList P ops (StepQ Q w (fun a' w' => wpU P ops Q L U fuel (listed.setIfInBounds i true) a' w')) [] a' w' →
      (((tlOf L U i = false → Later w w') ∧ (puOf U i = true → w' = w)) ∧ wpAnyU P .any ops Q (tlOf L U) (puOf U) (Later w) fuel (listed.setIfInBounds i true) a' w') := fun a' w' h' =>
    ⟨⟨fun _ => h'.1, fun h0 => (by unfold puOf at h0; rw [hu] at h0; cases h0)⟩, wpAnyU_mono (fun x hx => h'.1.trans hx) _ _ _ _ h'.2⟩
  have hup : o.wp P a w (wpList P ops (StepQ Q w (fun a' w' => wpU P ops Q L U fuel (listed.setIfInBounds i true) a' w')) []) (StepQ Q w (fun a' w' => wpU P ops Q L U fuel (listed.setIfInBounds i true) a' w')) →
      o.wp P a w (wpList P ops (StepQ Q w (fun a' w' => wpU P ops Q L U fuel (listed.setIfInBounds i true) a' w')) []) Q := fun h' => by
    unfold Oper.wp at *
    generalize (execOp a.eval o).run P w = r at *
    cases r with
    | ok n w' => cases n <;> exact h'
    | halt x w' => cases x <;> exact h'
  show if Region.wanted o (yielded ops a.tmps) = true then _ else _
  split
  · rename_i hw
    rw [if_pos hw] at h
    rcases h with h | ⟨h1, h2⟩
    · exact .inl (Oper.wp_mono hK (hup h))
    · exact .inr ⟨h1, h2⟩
  · rename_i hw
    rw [if_neg hw] at h
    exact hK _ _ h
/-- Either of two comes next. -/
theorem wpU_two (i j : Nat) {L U : List Nat} {oi oj : Oper} {fuel : Nat} {listed : Array Bool} {a : Act} {w : World} (hr : Region.ready .any ops listed = [i, j]) (hui : U.contains i = false) (huj : U.contains j = false) (hoi : ops[i]? = some oi) (hoj : ops[j]? = some oj)
    (h1 : wpList P ops (StepQ Q w (fun a' w' => wpU P ops Q L U fuel (listed.setIfInBounds i true) a' w')) [oi] a w)
    (h2 : wpList P ops (StepQ Q w (fun a' w' => wpU P ops Q L U fuel (listed.setIfInBounds j true) a' w')) [oj] a w) : wpU P ops Q L U (fuel + 1) listed a w := by
  refine ⟨fun h0 => (by rw [hr] at h0; cases h0), fun k hk => ?_⟩
  rw [hr] at hk
  simp only [List.mem_cons, List.not_mem_nil, or_false] at hk
  rcases hk with rfl | rfl
  · exact wpU_now hui hoi h1
  · exact wpU_now huj hoj h2
end
end Go.Proofs.Ytndefbecoahfhaa

/- Sets of bytes: one byte, the union. Printed by gen_prcset.py. -/
namespace Go.Proofs.Ytndefbecoahfhaa
open Go.RowKit

abbrev TCs : TypeId := 26
abbrev csetV (lo hi : Int) : Value := .agg #[.int .i64 lo, .int .i64 hi]
/-- The word that has bit k alone. -/
def oneBit (k : Nat) : Int := wrap64 (bits .or .u64 0 (IntKind.u64.wrap (2 ^ k)))
theorem oneBit_fin : ∀ k : Fin 64, bits .or .i64 0 (wrap64 (2 ^ k.val)) = oneBit k.val := by decide +kernel
theorem oneBit_spec (k : Nat) (h : k < 64) : bits .or .i64 0 (wrap64 (2 ^ k)) = oneBit k := oneBit_fin ⟨k, h⟩
def oneLo (b : Int) : Int := if b < 64 then oneBit b.toNat else 0
def oneHi (b : Int) : Int := if b < 64 then 0 else oneBit (b - 64).toNat
def orWord (x y : Int) : Int := bits .or .i64 x y

set_option maxHeartbeats 400000 in
theorem withByte_one (b : Int) (w : World) (h0 : 0 ≤ b) (h1 : b < 128) :
    Calls Try.prog 95 #[csetV 0 0, .int .u8 b] w fun e w' => e = .returned (csetV (oneLo b) (oneHi b)) ∧ Below w.heap.size w w' := by
  by_cases h2 : b < 64
  · have HV := Lib.hid (show oneLo b = wrap64 (bits .or .u64 0 (IntKind.u64.wrap (2 ^ b.toNat))) by unfold oneLo; rw [if_pos h2]; exact rfl)
    have HW := Lib.hid (show oneHi b = 0 by unfold oneHi; rw [if_pos h2])
    have t1 : decide (b < 64) = true := by simp; omega
    go_enter Try.func95, Try.ntmps95
    go_wp2_with fail
    exact bodyPost_ret (v := csetV (oneLo b) (oneHi b)) (by rw [HV.out, HW.out]; simp [results, Try.results95, go_sem]) rfl ⟨rfl, ((Below.refl _ _).alloc (Nat.le_refl _) _).alloc (by simp) _⟩
  · have HV := Lib.hid (show oneHi b = wrap64 (bits .or .u64 0 (IntKind.u64.wrap (2 ^ (b - 64).toNat))) by unfold oneHi; rw [if_neg h2]; exact rfl)
    have HW := Lib.hid (show oneLo b = 0 by unfold oneLo; rw [if_neg h2])
    have t1 : decide (b < 64) = false := by simp; omega
    go_enter Try.func95, Try.ntmps95
    go_wp2_with fail
    exact bodyPost_ret (v := csetV (oneLo b) (oneHi b)) (by rw [HV.out, HW.out]; simp [results, Try.results95, go_sem]) rfl ⟨rfl, ((Below.refl _ _).alloc (Nat.le_refl _) _).alloc (by simp) _⟩

set_option maxHeartbeats 400000 in
theorem l2Add_one (b : Int) (w : World) (h0 : 0 ≤ b) (h1 : b < 128) :
    Calls Try.prog 96 #[csetV 0 0, .int .u8 b] w fun e w' => e = .returned (csetV (oneLo b) (oneHi b)) ∧ Below w.heap.size w w' := by
  by_cases h2 : b < 64
  · have HV := Lib.hid (show oneLo b = bits .or .i64 0 (wrap64 (2 ^ b.toNat)) by unfold oneLo; rw [if_pos h2]; exact (oneBit_spec b.toNat (by omega)).symm)
    have HW := Lib.hid (show oneHi b = 0 by unfold oneHi; rw [if_pos h2])
    have t1 : decide (63 < b) = false := by simp; omega
    go_enter Try.func96, Try.ntmps96
    go_wp2_with fail
    exact bodyPost_ret (v := csetV (oneLo b) (oneHi b)) (by rw [HV.out, HW.out]; simp [results, Try.results96, go_sem]) rfl ⟨rfl, ((Below.refl _ _).alloc (Nat.le_refl _) _).alloc (by simp) _⟩
  · have HV := Lib.hid (show oneHi b = bits .or .i64 0 (wrap64 (2 ^ (b - 64).toNat)) by unfold oneHi; rw [if_neg h2]; exact (oneBit_spec (b - 64).toNat (by omega)).symm)
    have HW := Lib.hid (show oneLo b = 0 by unfold oneLo; rw [if_neg h2])
    have t1 : decide (63 < b) = true := by simp; omega
    go_enter Try.func96, Try.ntmps96
    go_wp2_with fail
    exact bodyPost_ret (v := csetV (oneLo b) (oneHi b)) (by rw [HV.out, HW.out]; simp [results, Try.results96, go_sem]) rfl ⟨rfl, ((Below.refl _ _).alloc (Nat.le_refl _) _).alloc (by simp) _⟩

set_option maxHeartbeats 400000 in
theorem implUnion_any (a b c d : Int) (w : World) :
    Calls Try.prog 76 #[csetV a b, csetV c d] w fun e w' => e = .returned (csetV (orWord a c) (orWord b d)) ∧ Below w.heap.size w w' := by
  go_enter Try.func76, Try.ntmps76
  go_wp2_with fail
  exact bodyPost_ret (v := csetV (orWord a c) (orWord b d)) (by simp [results, Try.results76, go_sem, orWord]) rfl ⟨rfl, (((Below.refl _ _).alloc (Nat.le_refl _) _).alloc (by simp) _).alloc (by simp; omega) _⟩

set_option maxHeartbeats 400000 in
theorem specUnion_any (a b c d : Int) (w : World) :
    Calls Try.prog 85 #[csetV a b, csetV c d] w fun e w' => e = .returned (csetV (orWord a c) (orWord b d)) ∧ Below w.heap.size w w' := by
  go_enter Try.func85, Try.ntmps85
  go_wp2_with fail
  exact bodyPost_ret (v := csetV (orWord a c) (orWord b d)) (by simp [results, Try.results85, go_sem, orWord]) rfl ⟨rfl, (((Below.refl _ _).alloc (Nat.le_refl _) _).alloc (by simp) _).alloc (by simp; omega) _⟩

theorem cells_cs {x : World} {b : Nat} {v0 v1 : Value} (h : x.heap[b]? = some (.cells #[v0, v1] TCs (0, 0))) : x.cell? ⟨b, 0, none⟩ = some v0 ∧ x.cell? ⟨b, 1, none⟩ = some v1 :=
  ⟨cell_of_row x b 0 _ _ _ h, cell_of_row x b 1 _ _ _ h⟩
theorem frozen_cs {x : World} {b : Nat} {cs : Array Value} {t : TypeId} (h : x.heap[b]? = some (.cells cs t (0, 0))) : x.frozen? ⟨b, 0, none⟩ = false ∧ x.frozen? ⟨b, 1, none⟩ = false := by
  obtain ⟨f0, f1, _⟩ := frozen_r h
  exact ⟨f0, f1⟩
theorem stored_cs {w : World} {b : Nat} {a0 a1 : Value} {T : TypeId} (h : w.heap[b]? = some (.cells #[a0, a1] T (0, 0))) (v0 v1 : Value) :
    ((w.setCell ⟨b, 0, none⟩ v0).setCell ⟨b, 1, none⟩ v1).heap[b]? = some (.cells #[v0, v1] T (0, 0)) := by
  have h7 := heap_set_own (o := 1) (heap_set_own (o := 0) h v0) v1
  simpa only [List.setIfInBounds_toArray, List.set_cons_zero, List.set_cons_succ] using h7
theorem set_else {w : World} {b k o : Nat} {v : Value} (h : k ≠ b) : (w.setCell ⟨b, o, none⟩ v).heap[k]? = w.heap[k]? := ((OnlyAt.refl b w).set o v).2 k h
theorem heap_alloc_two (w : World) (o o2 : Obj) : ((w.alloc o).alloc o2).heap[w.heap.size + 1]? = some o2 := by
  have := heap_alloc_new (w.alloc o) o2
  rwa [World.size_alloc] at this
/-- NewCset's state at its loop's head, j bytes in. -/
def NewAt (w wr : World) (s : ByteArray) (h0 : 0 < s.size) (j : Nat) : Prop :=
  (j = 0 ∧ wr.heap[w.heap.size + 1]? = some (.cells #[.int .i64 0, .int .i64 0] TCs (0, 0)) ∧ wr.heap[w.heap.size]? = some (.cells #[.int .i64 0, .int .i64 0] TCs (0, 0)) ∧ Below w.heap.size w wr) ∨
  (j = 1 ∧ wr.heap[w.heap.size + 1]? = some (.cells #[.int .i64 (oneLo s[0].toNat), .int .i64 (oneHi s[0].toNat)] TCs (0, 0)) ∧ wr.heap[w.heap.size]? = some (.cells #[.int .i64 0, .int .i64 0] TCs (0, 0)) ∧ Below w.heap.size w wr)

set_option maxRecDepth 100000 in
set_option maxHeartbeats 1000000 in
theorem implNew_no (s : ByteArray) (w : World) (h0 : 0 < s.size) (h1 : s.size < 2) (hb : 127 < (s[0].toNat : Int)) :
    Calls Try.prog 75 #[.string s] w fun e w' => e = .returned (.tuple #[csetV 0 0, .bool false]) ∧ Below w.heap.size w w' := by
  go_enter Try.func75, Try.ntmps75
  go_wp2_with fail
  go_loopw [5] (fun i wr => i = .int .i64 0 ∧ wr.heap[w.heap.size]? = some (.cells #[.int .i64 0, .int .i64 0] TCs (0, 0)) ∧ Below w.heap.size w wr) (fun _ _ => 0)
  case atStart => exact ⟨rfl, Later.has ((Later.refl _).alloc _) (heap_alloc_new w _), ((Below.refl _ _).alloc (Nat.le_refl _) _).alloc (by simp) _⟩
  case round =>
    obtain ⟨rfl, hbk, hbel⟩ := hrel
    have hB := has_lt hbk
    obtain ⟨c0, c1⟩ := cells_cs hbk
    obtain ⟨f0, f1⟩ := frozen_cs hbk
    go_wp2_with fail
    exact bodyPost_ret (v := .tuple #[csetV 0 0, .bool false]) (by simp [results, Try.results75, go_sem, c0, c1, hB, f0, f1]) rfl ⟨rfl, (hbel.setCell (Nat.le_refl _) _).setCell (Nat.le_refl _) _⟩

set_option maxRecDepth 100000 in
set_option maxHeartbeats 1000000 in
theorem implNew_yes (s : ByteArray) (w : World) (h0 : 0 < s.size) (h1 : s.size < 2) (hb : (s[0].toNat : Int) < 128) :
    Calls Try.prog 75 #[.string s] w fun e w' => e = .returned (.tuple #[csetV (oneLo s[0].toNat) (oneHi s[0].toNat), .bool true]) ∧ Below w.heap.size w w' := by
  go_enter Try.func75, Try.ntmps75
  go_wp2_with fail
  go_loopw [5] (fun i wr => ∃ j : Nat, i = .int .i64 j ∧ NewAt w wr s h0 j) (fun i _ => 1 - (intOf i).toNat)
  case atStart => exact ⟨0, rfl, .inl ⟨rfl, heap_alloc_two _ _ _, Later.has ((Later.refl _).alloc _) (heap_alloc_new w _), ((Below.refl _ _).alloc (Nat.le_refl _) _).alloc (by simp) _⟩⟩
  case round =>
    obtain ⟨j, rfl, hrel⟩ := hrel
    rcases hrel with ⟨rfl, hbb, hba, hbel⟩ | ⟨rfl, hbb, hba, hbel⟩
    · have HB := Lib.hid hbb
      have HA := Lib.hid hba
      have HL := Lib.hid (show Later w wr from hbel)
      clear hbb hba hbel
      go_wp2_with fail
      -- region 7: 6 operations, the last [4, 5]
      refine wpU_begin [4, 5] [] (by kernel_rfl) (fun w1 hw1 => ?_)
      have hl1 := drew_later hw1
      have HC := Lib.hid (hl1.has HB.out)
      have HA1 := Lib.hid (hl1.has HA.out)
      have HL1 := Lib.hid (HL.out.trans hl1)
      clear hw1 hl1 HB HA HL
      refine wpU_take 0 (some 18) (v := ?_) rfl rfl (by kernel_rfl) (fun _ _ _ h => h) rfl (fun x hx => ?_) ?_
      rotate_left 1
      · obtain ⟨c0, c1⟩ := cells_cs (hx.has HC.out); go_simp; first | done | with_reducible rfl | rw [if_neg (by omega)] | rw [if_pos (by omega)]
      simp only [Act.put, nA, nB, nC]
      refine wpU_take 1 (some 19) (v := ?_) rfl rfl (by kernel_rfl) (fun _ _ _ h => h) rfl (fun x hx => ?_) ?_
      rotate_left 1
      · go_simp; first | done | with_reducible rfl | rw [if_neg (by omega)] | rw [if_pos (by omega)]
      simp only [Act.put, nA, nB, nC]
      refine wpU_take 2 (some 20) (v := ?_) rfl rfl (by kernel_rfl) (fun _ _ _ h => h) rfl (fun x hx => ?_) ?_
      rotate_left 1
      · go_simp; first | done | with_reducible rfl | rw [if_neg (by omega)] | rw [if_pos (by omega)]
      simp only [Act.put, nA, nB, nC]
      refine wpU_take 3 (some 21) (v := ?_) rfl rfl (by kernel_rfl) (fun _ _ _ h => h) rfl (fun x hx => ?_) ?_
      rotate_left 1
      · go_simp; first | done | with_reducible rfl | rw [if_neg (by omega)] | rw [if_pos (by omega)]
      simp only [Act.put, nA, nB, nC]
      refine wpU_last [_, _] (by kernel_rfl) rfl rfl ?_
      simp only [List.getElem_toArray, List.getElem_cons_succ, List.getElem_cons_zero]
      go_wp2_with fail
      refine (withByte_one _ _ (by omega) (by omega)).mono ?_
      rintro e w2 ⟨rfl, hb2⟩
      have HC2 := Lib.hid (Later.has hb2 HC.out)
      have HA2 := Lib.hid (Later.has hb2 HA1.out)
      have HL2 := Lib.hid (HL1.out.trans hb2)
      clear hb2
      obtain ⟨c0, c1⟩ := cells_cs HC2.out
      obtain ⟨f0, f1⟩ := frozen_cs HC2.out
      go_wp2_with fail
      clear c0 c1 f0 f1
      go_roundw
      case rel => exact ⟨1, rfl, .inr ⟨rfl, stored_cs HC2.out _ _, (set_else (by omega)).trans ((set_else (by omega)).trans HA2.out), (Below.setCell (Below.setCell HL2.out (Nat.le_succ _) _) (Nat.le_succ _) _)⟩⟩
      case measure => simp [intOf]
    · obtain ⟨c0, c1⟩ := cells_cs hbb
      obtain ⟨d0, d1⟩ := cells_cs hba
      obtain ⟨f0, f1⟩ := frozen_cs hba
      have hB := has_lt hba
      go_wp2_with fail
      exact bodyPost_ret (v := .tuple #[csetV (oneLo s[0].toNat) (oneHi s[0].toNat), .bool true]) (by simp [results, Try.results75, go_sem, c0, c1, d0, d1, hB, f0, f1]) rfl ⟨rfl, (hbel.setCell (Nat.le_refl _) _).setCell (Nat.le_refl _) _⟩

set_option maxRecDepth 100000 in
set_option maxHeartbeats 1000000 in
theorem specNew_no (s : ByteArray) (w : World) (h0 : 0 < s.size) (h1 : s.size < 2) (hb : 127 < (s[0].toNat : Int)) :
    Calls Try.prog 84 #[.string s] w fun e w' => e = .returned (.tuple #[csetV 0 0, .bool false]) ∧ Below w.heap.size w w' := by
  go_enter Try.func84, Try.ntmps84
  go_wp2_with fail
  go_loopw [5] (fun i wr => i = .int .i64 0 ∧ wr.heap[w.heap.size]? = some (.cells #[.int .i64 0, .int .i64 0] TCs (0, 0)) ∧ Below w.heap.size w wr) (fun _ _ => 0)
  case atStart => exact ⟨rfl, Later.has ((Later.refl _).alloc _) (heap_alloc_new w _), ((Below.refl _ _).alloc (Nat.le_refl _) _).alloc (by simp) _⟩
  case round =>
    obtain ⟨rfl, hbk, hbel⟩ := hrel
    have hB := has_lt hbk
    obtain ⟨c0, c1⟩ := cells_cs hbk
    obtain ⟨f0, f1⟩ := frozen_cs hbk
    go_wp2_with fail
    exact bodyPost_ret (v := .tuple #[csetV 0 0, .bool false]) (by simp [results, Try.results84, go_sem, c0, c1, hB, f0, f1]) rfl ⟨rfl, (hbel.setCell (Nat.le_refl _) _).setCell (Nat.le_refl _) _⟩

set_option maxRecDepth 100000 in
set_option maxHeartbeats 1000000 in
theorem specNew_yes (s : ByteArray) (w : World) (h0 : 0 < s.size) (h1 : s.size < 2) (hb : (s[0].toNat : Int) < 128) :
    Calls Try.prog 84 #[.string s] w fun e w' => e = .returned (.tuple #[csetV (oneLo s[0].toNat) (oneHi s[0].toNat), .bool true]) ∧ Below w.heap.size w w' := by
  go_enter Try.func84, Try.ntmps84
  go_wp2_with fail
  go_loopw [5] (fun i wr => ∃ j : Nat, i = .int .i64 j ∧ NewAt w wr s h0 j) (fun i _ => 1 - (intOf i).toNat)
  case atStart => exact ⟨0, rfl, .inl ⟨rfl, heap_alloc_two _ _ _, Later.has ((Later.refl _).alloc _) (heap_alloc_new w _), ((Below.refl _ _).alloc (Nat.le_refl _) _).alloc (by simp) _⟩⟩
  case round =>
    obtain ⟨j, rfl, hrel⟩ := hrel
    rcases hrel with ⟨rfl, hbb, hba, hbel⟩ | ⟨rfl, hbb, hba, hbel⟩
    · have HB := Lib.hid hbb
      have HA := Lib.hid hba
      have HL := Lib.hid (show Later w wr from hbel)
      clear hbb hba hbel
      go_wp2_with fail
      -- region 7: 6 operations, the last [4, 5]
      refine wpU_begin [4, 5] [] (by kernel_rfl) (fun w1 hw1 => ?_)
      have hl1 := drew_later hw1
      have HC := Lib.hid (hl1.has HB.out)
      have HA1 := Lib.hid (hl1.has HA.out)
      have HL1 := Lib.hid (HL.out.trans hl1)
      clear hw1 hl1 HB HA HL
      refine wpU_take 0 (some 18) (v := ?_) rfl rfl (by kernel_rfl) (fun _ _ _ h => h) rfl (fun x hx => ?_) ?_
      rotate_left 1
      · obtain ⟨c0, c1⟩ := cells_cs (hx.has HC.out); go_simp; first | done | with_reducible rfl | rw [if_neg (by omega)] | rw [if_pos (by omega)]
      simp only [Act.put, nA, nB, nC]
      refine wpU_take 1 (some 19) (v := ?_) rfl rfl (by kernel_rfl) (fun _ _ _ h => h) rfl (fun x hx => ?_) ?_
      rotate_left 1
      · go_simp; first | done | with_reducible rfl | rw [if_neg (by omega)] | rw [if_pos (by omega)]
      simp only [Act.put, nA, nB, nC]
      refine wpU_take 2 (some 20) (v := ?_) rfl rfl (by kernel_rfl) (fun _ _ _ h => h) rfl (fun x hx => ?_) ?_
      rotate_left 1
      · go_simp; first | done | with_reducible rfl | rw [if_neg (by omega)] | rw [if_pos (by omega)]
      simp only [Act.put, nA, nB, nC]
      refine wpU_take 3 (some 21) (v := ?_) rfl rfl (by kernel_rfl) (fun _ _ _ h => h) rfl (fun x hx => ?_) ?_
      rotate_left 1
      · go_simp; first | done | with_reducible rfl | rw [if_neg (by omega)] | rw [if_pos (by omega)]
      simp only [Act.put, nA, nB, nC]
      refine wpU_last [_, _] (by kernel_rfl) rfl rfl ?_
      simp only [List.getElem_toArray, List.getElem_cons_succ, List.getElem_cons_zero]
      go_wp2_with fail
      refine (l2Add_one _ _ (by omega) (by omega)).mono ?_
      rintro e w2 ⟨rfl, hb2⟩
      have HC2 := Lib.hid (Later.has hb2 HC.out)
      have HA2 := Lib.hid (Later.has hb2 HA1.out)
      have HL2 := Lib.hid (HL1.out.trans hb2)
      clear hb2
      obtain ⟨c0, c1⟩ := cells_cs HC2.out
      obtain ⟨f0, f1⟩ := frozen_cs HC2.out
      go_wp2_with fail
      clear c0 c1 f0 f1
      go_roundw
      case rel => exact ⟨1, rfl, .inr ⟨rfl, stored_cs HC2.out _ _, (set_else (by omega)).trans ((set_else (by omega)).trans HA2.out), (Below.setCell (Below.setCell HL2.out (Nat.le_succ _) _) (Nat.le_succ _) _)⟩⟩
      case measure => simp [intOf]
    · obtain ⟨c0, c1⟩ := cells_cs hbb
      obtain ⟨d0, d1⟩ := cells_cs hba
      obtain ⟨f0, f1⟩ := frozen_cs hba
      have hB := has_lt hba
      go_wp2_with fail
      exact bodyPost_ret (v := .tuple #[csetV (oneLo s[0].toNat) (oneHi s[0].toNat), .bool true]) (by simp [results, Try.results84, go_sem, c0, c1, d0, d1, hB, f0, f1]) rfl ⟨rfl, (hbel.setCell (Nat.le_refl _) _).setCell (Nat.le_refl _) _⟩

end Go.Proofs.Ytndefbecoahfhaa

/- Rows of patterns that a call has made, whose blocks satisfy a predicate. No walk in sight. -/
namespace Go.Proofs.Ytndefbecoahfhaa
open Go.RowKit

mutual
/-- The value kv is a slice of p's kids; each block of it satisfies F. -/
def KidsF (F : Nat → Prop) (w : World) : Pat → Value → Prop
  | .mk _ _ _ _ _ kids, kv => ∃ A c, kv = .slice A kids.length c ∧ kids.length ≤ c ∧ RowF F w A 0 kids
def RowF (F : Nat → Prop) (w : World) (A : Option Addr) : Nat → List Pat → Prop
  | _, [] => True
  | j, p :: ps => (∃ g kv, A = some ⟨g, 0, none⟩ ∧ F g ∧ g < w.heap.size ∧ ElemAt w g j p kv ∧ KidsF F w p kv) ∧ RowF F w A (j + 1) ps
end
mutual
theorem KidsF.in_ {F : Nat → Prop} {w : World} : ∀ (p : Pat) (kv : Value), KidsF F w p kv → KidsIn w p kv
  | .mk _ _ _ _ _ kids, kv, h => by
    simp only [KidsF] at h
    simp only [KidsIn]
    obtain ⟨A, c, e, hc, hr⟩ := h
    exact ⟨A, c, e, hc, RowF.in_ A 0 kids hr⟩
theorem RowF.in_ {F : Nat → Prop} {w : World} (A : Option Addr) : ∀ (j : Nat) (ps : List Pat), RowF F w A j ps → RowIn w A j ps
  | _, [], _ => by simp only [RowIn]
  | j, p :: ps, h => by
    simp only [RowF] at h
    simp only [RowIn]
    obtain ⟨⟨g, kv, e, _, hg, he, hk⟩, hr⟩ := h
    exact ⟨⟨g, kv, e, hg, he, KidsF.in_ p kv hk⟩, RowF.in_ A (j + 1) ps hr⟩
end
theorem ElemAt.same {w x : World} {g j : Nat} {p : Pat} {kv : Value} (h : ElemAt w g j p kv) (hs : x.heap[g]? = w.heap[g]?) : ElemAt x g j p kv := by
  obtain ⟨h0, h1, h2, h3, h4, h5⟩ := h
  have hc : ∀ o, x.cell? ⟨g, o, none⟩ = w.cell? ⟨g, o, none⟩ := fun o => by
    unfold World.cell?
    rw [hs]
  exact ⟨(hc _).trans h0, (hc _).trans h1, (hc _).trans h2, (hc _).trans h3, (hc _).trans h4, (hc _).trans h5⟩
mutual
theorem KidsF.keep {F G : Nat → Prop} {w x : World} (hk : ∀ k, F k → k < w.heap.size → x.heap[k]? = w.heap[k]?) (hz : w.heap.size ≤ x.heap.size) (hi : ∀ k, F k → k < w.heap.size → G k) : ∀ (p : Pat) (kv : Value), KidsF F w p kv → KidsF G x p kv
  | .mk _ _ _ _ _ kids, kv, h => by
    simp only [KidsF] at h ⊢
    obtain ⟨A, c, e, hc, hr⟩ := h
    exact ⟨A, c, e, hc, RowF.keep hk hz hi A 0 kids hr⟩
theorem RowF.keep {F G : Nat → Prop} {w x : World} (hk : ∀ k, F k → k < w.heap.size → x.heap[k]? = w.heap[k]?) (hz : w.heap.size ≤ x.heap.size) (hi : ∀ k, F k → k < w.heap.size → G k) (A : Option Addr) : ∀ (j : Nat) (ps : List Pat), RowF F w A j ps → RowF G x A j ps
  | _, [], _ => by simp only [RowF]
  | j, p :: ps, h => by
    simp only [RowF] at h ⊢
    obtain ⟨⟨g, kv, e, hf, hg, he, hq⟩, hr⟩ := h
    exact ⟨⟨g, kv, e, hi g hf hg, Nat.lt_of_lt_of_le hg hz, he.same (hk g hf hg), KidsF.keep hk hz hi p kv hq⟩, RowF.keep hk hz hi A (j + 1) ps hr⟩
end
/-- The cells of a row of patterns. -/
def ElemsF (F : Nat → Prop) (w : World) : List Pat → List Value → Prop
  | [], xs => xs = []
  | p :: ps, xs => ∃ kv ys, xs = .int .i64 p.op :: .string p.text :: .int .i64 p.num :: .int .i64 p.lo :: .int .i64 p.hi :: kv :: ys ∧ KidsF F w p kv ∧ ElemsF F w ps ys
theorem ElemsF.keep {F G : Nat → Prop} {w x : World} (hk : ∀ k, F k → k < w.heap.size → x.heap[k]? = w.heap[k]?) (hz : w.heap.size ≤ x.heap.size) (hi : ∀ k, F k → k < w.heap.size → G k) : ∀ (ps : List Pat) (xs : List Value), ElemsF F w ps xs → ElemsF G x ps xs
  | [], _, h => h
  | p :: ps, xs, h => by
    obtain ⟨kv, ys, e, h1, h2⟩ := h
    exact ⟨kv, ys, e, KidsF.keep hk hz hi p kv h1, ElemsF.keep hk hz hi ps ys h2⟩
theorem ElemsF.snoc {F : Nat → Prop} {w : World} {p : Pat} {kv : Value} (hq : KidsF F w p kv) : ∀ (ps : List Pat) (xs : List Value), ElemsF F w ps xs → ElemsF F w (ps ++ [p]) (xs ++ [.int .i64 p.op, .string p.text, .int .i64 p.num, .int .i64 p.lo, .int .i64 p.hi, kv])
  | [], xs, h => by
    simp only [ElemsF] at h
    subst h
    exact ⟨kv, [], rfl, hq, rfl⟩
  | q :: ps, xs, h => by
    obtain ⟨kv', ys, rfl, h1, h2⟩ := h
    exact ⟨kv', _, rfl, h1, ElemsF.snoc hq ps ys h2⟩
theorem rowF_of {F : Nat → Prop} {w : World} {g : Nat} (hF : F g) (hg : g < w.heap.size) : ∀ (ps : List Pat) (xs : List Value) (j : Nat), (∀ i u, xs[i]? = some u → w.cell? ⟨g, j * 6 + i, none⟩ = some u) → ElemsF F w ps xs → RowF F w (some ⟨g, 0, none⟩) j ps
  | [], _, _, _, _ => by simp only [RowF]
  | p :: ps, xs, j, hc, h => by
    obtain ⟨kv, ys, rfl, h1, h2⟩ := h
    simp only [RowF]
    refine ⟨⟨g, kv, rfl, hF, hg, ⟨hc 0 _ rfl, hc 1 _ rfl, hc 2 _ rfl, hc 3 _ rfl, hc 4 _ rfl, hc 5 _ rfl⟩, h1⟩, rowF_of hF hg ps ys (j + 1) (fun i u hu => ?_) h2⟩
    have := hc (i + 6) u (by simpa using hu)
    rwa [show j * 6 + (i + 6) = (j + 1) * 6 + i by omega] at this
/-- The row that was made. -/
theorem rowF_mk {F : Nat → Prop} {w : World} {base : Nat} {v : Value} {ps : List Pat} {xs : List Value} (h : HasRow w base TP 6 v ps.length xs) (he : ElemsF F w ps xs) (hF : ∀ k, F k → base ≤ k) :
    ∃ A c, v = .slice A ps.length c ∧ ps.length ≤ c ∧ RowF (fun k => base ≤ k) w A 0 ps := by
  have he' := ElemsF.keep (G := fun k => base ≤ k) (fun k _ _ => rfl) (Nat.le_refl _) (fun k hk _ => hF k hk) ps xs he
  cases ps with
  | nil =>
    obtain ⟨A, c, rfl, hc, _⟩ := h.form
    exact ⟨A, c, rfl, hc, by simp only [RowF]⟩
  | cons p ps =>
    obtain ⟨g, c, rfl, hb, hc, _⟩ := h.block_ (by simp)
    have hlt := (h.lt g rfl).2.1
    exact ⟨_, c, rfl, hc, rowF_of hb hlt _ xs 0 (fun i u hu => by rw [Nat.zero_mul, Nat.zero_add]; exact h.cells rfl i u hu) he'⟩
theorem kidsF_nil (F : Nat → Prop) (w : World) (op : Int) (text : ByteArray) (num lo hi : Int) : KidsF F w (.mk op text num lo hi []) (.slice none 0 0) := by
  simp only [KidsF]
  exact ⟨none, 0, rfl, Nat.le_refl _, by simp only [RowF]⟩
theorem KidsF.form {F : Nat → Prop} {w : World} {p : Pat} {kv : Value} (h : KidsF F w p kv) : ∃ A c, kv = .slice A p.kids.length c ∧ p.kids.length ≤ c ∧ RowF F w A 0 p.kids := by
  obtain ⟨op, text, num, lo, hi, kids⟩ := p
  simp only [KidsF] at h
  exact h
end Go.Proofs.Ytndefbecoahfhaa

/- spec.NewCset of a text of small bytes gives some set. Printed by gen_drcset.py. -/
namespace Go.Proofs.Ytndefbecoahfhaa
open Go.RowKit

def SomeCset (w : World) (e : Ending) (w' : World) : Prop := ∃ lo hi, e = .returned (csetV lo hi) ∧ Below w.heap.size w w'
def SomeNew (w : World) (e : Ending) (w' : World) : Prop := ∃ lo hi, e = .returned (.tuple #[csetV lo hi, .bool true]) ∧ Below w.heap.size w w'
set_option maxHeartbeats 400000 in
theorem l2Add_all (x y b : Int) (w : World) (h0 : 0 ≤ b) (h1 : b < 128) :
    Calls Try.prog 96 #[csetV x y, .int .u8 b] w (SomeCset w) := by
  by_cases h2 : b < 64
  · have t1 : decide (63 < b) = false := by simp; omega
    go_enter Try.func96, Try.ntmps96
    go_wp2_with fail
    exact bodyPost_ret (v := csetV (bits .or .i64 x (wrap64 (2 ^ b.toNat))) y) (by simp [results, Try.results96, go_sem]) rfl ⟨_, _, rfl, ((Below.refl _ _).alloc (Nat.le_refl _) _).alloc (by simp) _⟩
  · have t1 : decide (63 < b) = true := by simp; omega
    go_enter Try.func96, Try.ntmps96
    go_wp2_with fail
    exact bodyPost_ret (v := csetV x (bits .or .i64 y (wrap64 (2 ^ (b - 64).toNat)))) (by simp [results, Try.results96, go_sem]) rfl ⟨_, _, rfl, ((Below.refl _ _).alloc (Nat.le_refl _) _).alloc (by simp) _⟩

def NewSt (w wr : World) : Prop :=
  ∃ lo hi : Int, wr.heap[w.heap.size + 1]? = some (.cells #[.int .i64 lo, .int .i64 hi] TCs (0, 0)) ∧ wr.heap[w.heap.size]? = some (.cells #[.int .i64 0, .int .i64 0] TCs (0, 0)) ∧ Below w.heap.size w wr

set_option maxRecDepth 100000 in
set_option maxHeartbeats 1000000 in
theorem specNew_all (s : ByteArray) (w : World) (hs : ∀ j (h : j < s.size), (s[j].toNat : Int) < 128) (hsz : s.size ≤ 1000) :
    Calls Try.prog 84 #[.string s] w (SomeNew w) := by
  have HS := Lib.hid hs
  clear hs
  go_enter Try.func84, Try.ntmps84
  go_wp2_with fail
  go_loopw [5] (fun i wr => ∃ j : Nat, i = .int .i64 j ∧ j ≤ s.size ∧ NewSt w wr) (fun i _ => s.size - (intOf i).toNat)
  case atStart => exact ⟨0, rfl, by omega, 0, 0, heap_alloc_two _ _ _, Later.has ((Later.refl _).alloc _) (heap_alloc_new w _), ((Below.refl _ _).alloc (Nat.le_refl _) _).alloc (by simp) _⟩
  case round =>
    obtain ⟨j, rfl, hj, lo, hi, hbb, hba, hbel⟩ := hrel
    by_cases hlt : j < s.size
    · have hb := HS.out j hlt
      have hb0 : (0 : Int) ≤ s[j].toNat := by omega
      have t1 : decide ((j : Int) < s.size) = true := by simp; omega
      have t2 : decide (127 < (s[j].toNat : Int)) = false := by simp; omega
      have HB := Lib.hid hbb
      have HA := Lib.hid hba
      have HL := Lib.hid (show Later w wr from hbel)
      clear hbb hba hbel
      go_wp2_with fail
      -- region 7: 6 operations, the last [4, 5]
      refine wpU_begin [4, 5] [] (by kernel_rfl) (fun w1 hw1 => ?_)
      have hl1 := drew_later hw1
      have HC := Lib.hid (hl1.has HB.out)
      have HA1 := Lib.hid (hl1.has HA.out)
      have HL1 := Lib.hid (HL.out.trans hl1)
      clear hw1 hl1 HB HA HL
      refine wpU_take 0 (some 18) (v := ?_) rfl rfl (by kernel_rfl) (fun _ _ _ h => h) rfl (fun x hx => ?_) ?_
      rotate_left 1
      · obtain ⟨c0, c1⟩ := cells_cs (hx.has HC.out); go_simp; first | done | with_reducible rfl | rw [if_neg (by omega)] | rw [if_pos (by omega)]
      simp only [Act.put, nA, nB, nC]
      refine wpU_take 1 (some 19) (v := ?_) rfl rfl (by kernel_rfl) (fun _ _ _ h => h) rfl (fun x hx => ?_) ?_
      rotate_left 1
      · go_simp; first | done | with_reducible rfl | rw [if_neg (by omega)] | rw [if_pos (by omega)]
      simp only [Act.put, nA, nB, nC]
      refine wpU_take 2 (some 20) (v := ?_) rfl rfl (by kernel_rfl) (fun _ _ _ h => h) rfl (fun x hx => ?_) ?_
      rotate_left 1
      · go_simp; first | done | with_reducible rfl | rw [if_neg (by omega)] | rw [if_pos (by omega)]
      simp only [Act.put, nA, nB, nC]
      refine wpU_take 3 (some 21) (v := ?_) rfl rfl (by kernel_rfl) (fun _ _ _ h => h) rfl (fun x hx => ?_) ?_
      rotate_left 1
      · go_simp; first | done | with_reducible rfl | rw [if_neg (by omega)] | rw [if_pos (by omega)]
      simp only [Act.put, nA, nB, nC]
      refine wpU_last [_, _] (by kernel_rfl) rfl rfl ?_
      simp only [List.getElem_toArray, List.getElem_cons_succ, List.getElem_cons_zero]
      go_wp2_with fail
      refine (l2Add_all _ _ _ _ (by omega) (by omega)).mono ?_
      rintro e w2 ⟨lo2, hi2, rfl, hb2⟩
      have HC2 := Lib.hid (Later.has hb2 HC.out)
      have HA2 := Lib.hid (Later.has hb2 HA1.out)
      have HL2 := Lib.hid (HL1.out.trans hb2)
      clear hb2
      obtain ⟨c0, c1⟩ := cells_cs HC2.out
      obtain ⟨f0, f1⟩ := frozen_cs HC2.out
      go_wp2_with fail
      clear c0 c1 f0 f1
      go_roundw
      case rel => exact ⟨j + 1, by simp, by omega, _, _, stored_cs HC2.out _ _, (set_else (by omega)).trans ((set_else (by omega)).trans HA2.out), (Below.setCell (Below.setCell HL2.out (Nat.le_succ _) _) (Nat.le_succ _) _)⟩
      case measure => simp [intOf]; omega
    · have t1 : decide ((j : Int) < s.size) = false := by simp; omega
      obtain ⟨c0, c1⟩ := cells_cs hbb
      obtain ⟨d0, d1⟩ := cells_cs hba
      obtain ⟨f0, f1⟩ := frozen_cs hba
      have hB := has_lt hba
      go_wp2_with fail
      exact bodyPost_ret (v := .tuple #[csetV lo hi, .bool true]) (by simp [results, Try.results84, go_sem, c0, c1, d0, d1, hB, f0, f1]) rfl ⟨_, _, rfl, (hbel.setCell (Nat.le_refl _) _).setCell (Nat.le_refl _) _⟩

end Go.Proofs.Ytndefbecoahfhaa

/- spec.l18Tree draws a well-formed pattern. Printed by gen_drtree.py. -/
namespace Go.Proofs.Ytndefbecoahfhaa
open Go.RowKit

abbrev patCells (op : Int) (text : ByteArray) (num lo hi : Int) (kv : Value) : Obj := .cells #[.int .i64 op, .string text, .int .i64 num, .int .i64 lo, .int .i64 hi, kv] TP (0, 0)
theorem set6 {w : World} {B : Nat} {v0 v1 v2 v3 v4 v5 : Value} {t : TypeId} (h : w.heap[B]? = some (.cells #[v0, v1, v2, v3, v4, v5] t (0, 0))) (v : Value) :
    (w.setCell ⟨B, 0, none⟩ v).heap[B]? = some (.cells #[v, v1, v2, v3, v4, v5] t (0, 0)) ∧ (w.setCell ⟨B, 1, none⟩ v).heap[B]? = some (.cells #[v0, v, v2, v3, v4, v5] t (0, 0)) ∧
    (w.setCell ⟨B, 2, none⟩ v).heap[B]? = some (.cells #[v0, v1, v, v3, v4, v5] t (0, 0)) ∧ (w.setCell ⟨B, 3, none⟩ v).heap[B]? = some (.cells #[v0, v1, v2, v, v4, v5] t (0, 0)) ∧
    (w.setCell ⟨B, 4, none⟩ v).heap[B]? = some (.cells #[v0, v1, v2, v3, v, v5] t (0, 0)) ∧ (w.setCell ⟨B, 5, none⟩ v).heap[B]? = some (.cells #[v0, v1, v2, v3, v4, v] t (0, 0)) := by
  have g := fun o => heap_set_own (o := o) h v
  refine ⟨?_, ?_, ?_, ?_, ?_, ?_⟩
  · simpa only [List.setIfInBounds_toArray, List.set_cons_zero, List.set_cons_succ] using g 0
  · simpa only [List.setIfInBounds_toArray, List.set_cons_zero, List.set_cons_succ] using g 1
  · simpa only [List.setIfInBounds_toArray, List.set_cons_zero, List.set_cons_succ] using g 2
  · simpa only [List.setIfInBounds_toArray, List.set_cons_zero, List.set_cons_succ] using g 3
  · simpa only [List.setIfInBounds_toArray, List.set_cons_zero, List.set_cons_succ] using g 4
  · simpa only [List.setIfInBounds_toArray, List.set_cons_zero, List.set_cons_succ] using g 5
theorem cells_new (w : World) (cs : List Value) (t : TypeId) : ∀ j u, cs[j]? = some u → (w.alloc (.cells cs.toArray t)).cell? ((⟨w.heap.size, 0, none⟩ : Addr).add j) = some u := by
  intro j u h
  rw [show (⟨w.heap.size, 0, none⟩ : Addr).add j = ⟨w.heap.size, j, none⟩ by unfold Addr.add; split <;> simp_all, cell_of_row _ _ j _ _ _ (heap_alloc_new w _)]
  simpa using h
theorem infoPat : (Try.prog.info? TP).map (fun i => (i.zero, i.size, i.bytes)) = some (some (.agg #[.int .i64 0, .string ⟨#[]⟩, .int .i64 0, .int .i64 0, .int .i64 0, .slice none 0 0]), 6, 72) := by kernel_rfl
theorem frozen_p {x : World} {b : Nat} {cs : Array Value} {t : TypeId} (h : x.heap[b]? = some (.cells cs t (0, 0))) :
    x.frozen? ⟨b, 0, none⟩ = false ∧ x.frozen? ⟨b, 1, none⟩ = false ∧ x.frozen? ⟨b, 2, none⟩ = false ∧ x.frozen? ⟨b, 3, none⟩ = false ∧ x.frozen? ⟨b, 4, none⟩ = false ∧ x.frozen? ⟨b, 5, none⟩ = false :=
  have h4 := frozen_r h
  ⟨h4.1, h4.2.1, h4.2.2.1, by simp [World.frozen?, h], by simp [World.frozen?, h], by simp [World.frozen?, h]⟩
theorem set6_other {wr : World} {R k : Nat} (hk : k ≠ R) (v0 v1 v2 v3 v4 v5 : Value) : ((((((wr.setCell ⟨R, 0, none⟩ v0).setCell ⟨R, 1, none⟩ v1).setCell ⟨R, 2, none⟩ v2).setCell ⟨R, 3, none⟩ v3).setCell ⟨R, 4, none⟩ v4).setCell ⟨R, 5, none⟩ v5).heap[k]? = wr.heap[k]? := by
  rw [Below.heap_setCell _ _ _ _ hk, Below.heap_setCell _ _ _ _ hk, Below.heap_setCell _ _ _ _ hk, Below.heap_setCell _ _ _ _ hk, Below.heap_setCell _ _ _ _ hk, Below.heap_setCell _ _ _ _ hk]
theorem Drawn.own {C : Nat} {w x : World} (h : Drawn C w x) (hC : C < w.heap.size) {B : Nat} (hB : w.heap.size ≤ B) (o : Nat) (v : Value) : Drawn C w (x.setCell ⟨B, o, none⟩ v) :=
  ⟨Below.setCell h.below (by simp; omega) _, fun k hk hc => (Below.heap_setCell _ _ _ _ (by simp; omega)).trans (h.other k hk hc)⟩
theorem CurAt.own {x : World} {C : Nat} {A : Option Addr} {n c : Nat} (h : CurAt x C A n c) {B : Nat} (hB : B ≠ C) (o : Nat) (v : Value) : CurAt (x.setCell ⟨B, o, none⟩ v) C A n c := by
  obtain ⟨i, y, hi, hb⟩ := h
  exact ⟨i, y, hi, (Below.heap_setCell _ _ _ _ (by simp; omega)).trans hb⟩

/-- The pattern under construction, in block B; the result's block R. -/
structure TrSt (K : Int → Prop) (C : Nat) (A : Option Addr) (n c : Nat) (w : World) (R B : Nat) (op : Int) (text : ByteArray) (num lo hi : Int) (kv : Value) (wr : World) : Prop where
  ok : K op
  small : text.size ≤ 3
  blk : wr.heap[B]? = some (patCells op text num lo hi kv)
  res : wr.heap[R]? = some (patCells 0 ⟨#[]⟩ 0 0 0 (.slice none 0 0))
  cur : CurAt wr C A n c
  drawn : Drawn C w wr
  hC : C < w.heap.size
  hR : w.heap.size ≤ R
  hRB : R < B
def TrIn (K : Int → Prop) (C : Nat) (A : Option Addr) (n c : Nat) (w : World) (R B : Nat) (wr : World) : Prop := ∃ op text num lo hi, TrSt K C A n c w R B op text num lo hi (.slice none 0 0) wr
section
variable {K K' : Int → Prop} {C : Nat} {A : Option Addr} {n c : Nat} {w : World} {R B : Nat} {op : Int} {text : ByteArray} {num lo hi : Int} {kv : Value} {wr x : World}
theorem TrSt.in_ (h : TrSt K C A n c w R B op text num lo hi (.slice none 0 0) wr) : TrIn K C A n c w R B wr := ⟨_, _, _, _, _, h⟩
theorem TrSt.step (h : TrSt K C A n c w R B op text num lo hi kv wr) (hd : Drawn C wr x) (hc : CurAt x C A n c) : TrSt K C A n c w R B op text num lo hi kv x :=
  ⟨h.ok, h.small, hd.has h.blk (by have := h.hC; have := h.hR; have := h.hRB; omega), hd.has h.res (by have := h.hC; have := h.hR; omega), hc, h.drawn.trans hd, h.hC, h.hR, h.hRB⟩
theorem TrSt.weak (h : TrSt K C A n c w R B op text num lo hi kv wr) (hk : K' op) : TrSt K' C A n c w R B op text num lo hi kv wr := { h with ok := hk }
theorem TrSt.op_ (h : TrSt K C A n c w R B op text num lo hi kv wr) {v : Int} (hk : K' v) : TrSt K' C A n c w R B v text num lo hi kv (wr.setCell ⟨B, 0, none⟩ (.int .i64 v)) :=
  ⟨hk, h.small, (set6 h.blk _).1, (Below.heap_setCell _ _ _ _ (by have := h.hRB; simp; omega)).trans h.res, h.cur.own (by have := h.hC; have := h.hR; have := h.hRB; omega) _ _, h.drawn.own h.hC (by have := h.hR; have := h.hRB; omega) _ _, h.hC, h.hR, h.hRB⟩
theorem TrSt.text_ (h : TrSt K C A n c w R B op text num lo hi kv wr) {v : ByteArray} (hv : v.size ≤ 3) : TrSt K C A n c w R B op v num lo hi kv (wr.setCell ⟨B, 1, none⟩ (.string v)) :=
  ⟨h.ok, hv, (set6 h.blk _).2.1, (Below.heap_setCell _ _ _ _ (by have := h.hRB; simp; omega)).trans h.res, h.cur.own (by have := h.hC; have := h.hR; have := h.hRB; omega) _ _, h.drawn.own h.hC (by have := h.hR; have := h.hRB; omega) _ _, h.hC, h.hR, h.hRB⟩
theorem TrSt.num_ (h : TrSt K C A n c w R B op text num lo hi kv wr) {v : Int} : TrSt K C A n c w R B op text v lo hi kv (wr.setCell ⟨B, 2, none⟩ (.int .i64 v)) :=
  ⟨h.ok, h.small, (set6 h.blk _).2.2.1, (Below.heap_setCell _ _ _ _ (by have := h.hRB; simp; omega)).trans h.res, h.cur.own (by have := h.hC; have := h.hR; have := h.hRB; omega) _ _, h.drawn.own h.hC (by have := h.hR; have := h.hRB; omega) _ _, h.hC, h.hR, h.hRB⟩
theorem TrSt.lo_ (h : TrSt K C A n c w R B op text num lo hi kv wr) {v : Int} : TrSt K C A n c w R B op text num v hi kv (wr.setCell ⟨B, 3, none⟩ (.int .i64 v)) :=
  ⟨h.ok, h.small, (set6 h.blk _).2.2.2.1, (Below.heap_setCell _ _ _ _ (by have := h.hRB; simp; omega)).trans h.res, h.cur.own (by have := h.hC; have := h.hR; have := h.hRB; omega) _ _, h.drawn.own h.hC (by have := h.hR; have := h.hRB; omega) _ _, h.hC, h.hR, h.hRB⟩
theorem TrSt.hi_ (h : TrSt K C A n c w R B op text num lo hi kv wr) {v : Int} : TrSt K C A n c w R B op text num lo v kv (wr.setCell ⟨B, 4, none⟩ (.int .i64 v)) :=
  ⟨h.ok, h.small, (set6 h.blk _).2.2.2.2.1, (Below.heap_setCell _ _ _ _ (by have := h.hRB; simp; omega)).trans h.res, h.cur.own (by have := h.hC; have := h.hR; have := h.hRB; omega) _ _, h.drawn.own h.hC (by have := h.hR; have := h.hRB; omega) _ _, h.hC, h.hR, h.hRB⟩
theorem TrSt.kids_ (h : TrSt K C A n c w R B op text num lo hi kv wr) {v : Value} : TrSt K C A n c w R B op text num lo hi v (wr.setCell ⟨B, 5, none⟩ v) :=
  ⟨h.ok, h.small, (set6 h.blk _).2.2.2.2.2, (Below.heap_setCell _ _ _ _ (by have := h.hRB; simp; omega)).trans h.res, h.cur.own (by have := h.hC; have := h.hR; have := h.hRB; omega) _ _, h.drawn.own h.hC (by have := h.hR; have := h.hRB; omega) _ _, h.hC, h.hR, h.hRB⟩
theorem TrSt.later (h : TrSt K C A n c w R B op text num lo hi kv wr) (hl : Later wr x) : TrSt K C A n c w R B op text num lo hi kv x :=
  h.step (Drawn.later hl (by have := has_lt' h.blk; have := h.hC; have := h.hR; have := h.hRB; omega)) (h.cur.later hl)
end
structure TrLp (K : Int → Prop) (C : Nat) (A : Option Addr) (n c : Nat) (w : World) (R B : Nat) (op : Int) (text : ByteArray) (num lo hi : Int) (d : Nat) (ps : List Pat) (xs : List Value) (kv : Value) (wr : World) : Prop where
  st : TrSt K C A n c w R B op text num lo hi kv wr
  len : (ps.length : Int) ≤ kidsOf op
  cnt : ∀ q ∈ ps, count q < 2 ^ d
  row : HasRow wr (B + 1) TP 6 kv ps.length xs
  els : ElemsF (fun k => B + 1 ≤ k ∧ some k ≠ kv.ownBlock) wr ps xs
section
variable {K : Int → Prop} {C : Nat} {A : Option Addr} {n c : Nat} {w : World} {R B : Nat} {op : Int} {text : ByteArray} {num lo hi : Int} {d : Nat} {ps : List Pat} {xs : List Value} {kv : Value} {wr x : World}
theorem TrLp.step (h : TrLp K C A n c w R B op text num lo hi d ps xs kv wr) (hd : Drawn C wr x) (hc : CurAt x C A n c) : TrLp K C A n c w R B op text num lo hi d ps xs kv x := by
  have h1 := h.st.hC
  have h2 := h.st.hR
  have h3 := h.st.hRB
  refine ⟨h.st.step hd hc, h.len, h.cnt, h.row.same (fun k hk => ?_), ElemsF.keep (fun k hk hlt => hd.other k hlt (by omega)) hd.below.size (fun k hk _ => hk) _ _ h.els⟩
  have := h.row.lt k hk
  exact hd.other k this.2.1 (by omega)
theorem TrLp.later (h : TrLp K C A n c w R B op text num lo hi d ps xs kv wr) (hl : Later wr x) : TrLp K C A n c w R B op text num lo hi d ps xs kv x :=
  h.step (Drawn.later hl (by have := has_lt' h.st.blk; have := h.st.hC; have := h.st.hR; have := h.st.hRB; omega)) (h.st.cur.later hl)
theorem TrLp.grown (h : TrLp K C A n c w R B op text num lo hi d ps xs kv wr) {p : Pat} {kvp : Value} (hp : KidsF (fun k => B + 1 ≤ k ∧ some k ≠ kv.ownBlock) wr p kvp) (hc : count p < 2 ^ d) (hl : (ps.length : Int) + 1 ≤ kidsOf op) {v' : Value} {w' : World}
    (hrow : HasRow w' (B + 1) TP 6 v' (ps.length + 1) (xs ++ [.int .i64 p.op, .string p.text, .int .i64 p.num, .int .i64 p.lo, .int .i64 p.hi, kvp])) (hg : wr.grownBy w' kv.ownBlock) (hb : v'.ownBlock = kv.ownBlock ∨ v'.ownBlock = some wr.heap.size) :
    TrLp K C A n c w R B op text num lo hi d (ps ++ [p]) (xs ++ [.int .i64 p.op, .string p.text, .int .i64 p.num, .int .i64 p.lo, .int .i64 p.hi, kvp]) v' (w'.setCell ⟨B, 5, none⟩ v') := by
  have h1 := h.st.hC
  have h2 := h.st.hR
  have h3 := h.st.hRB
  have hown : ∀ k, kv.ownBlock = some k → B + 1 ≤ k ∧ k < wr.heap.size := fun k hk => ⟨(h.row.lt k hk).1, (h.row.lt k hk).2.1⟩
  have hne : ∀ k, k ≤ B → some k ≠ kv.ownBlock := fun k hk e => by have := hown k e.symm; omega
  have hB := has_lt' h.st.blk
  have hR := has_lt' h.st.res
  have hb5 := hg.block B hB (hne B (Nat.le_refl _))
  have hCs : C < wr.heap.size := by omega
  obtain ⟨ci, cy, hci, hcb⟩ := h.st.cur
  have hcur' : CurAt w' C A n c := ⟨ci, cy, hci, (hg.block C hCs (hne C (by omega))).trans hcb⟩
  have hw := h.st.drawn.below.size
  have hdr' : Drawn C w w' := ⟨Below.grown h.st.drawn.below hg (by omega) (fun k hk => by have := hown k hk; omega), fun k hk hkc => (hg.block k (by omega) (hne k (by omega))).trans (h.st.drawn.other k hk hkc)⟩
  have hst' : TrSt K C A n c w R B op text num lo hi kv w' := ⟨h.st.ok, h.st.small, hb5.trans h.st.blk, (hg.block R hR (hne R (by omega))).trans h.st.res, hcur', hdr', h.st.hC, h.st.hR, h.st.hRB⟩
  have hset : ∀ k, k ≠ B → (w'.setCell ⟨B, 5, none⟩ v').heap[k]? = w'.heap[k]? := fun k hk => Below.heap_setCell _ _ _ _ hk
  refine ⟨hst'.kids_, by simp; omega, ?_, ?_, ?_⟩
  · intro q hq
    rcases List.mem_append.1 hq with hq | hq
    · exact h.cnt q hq
    · rw [List.mem_singleton.1 hq]; exact hc
  · have : HasRow w' (B + 1) TP 6 v' (ps ++ [p]).length (xs ++ [.int .i64 p.op, .string p.text, .int .i64 p.num, .int .i64 p.lo, .int .i64 p.hi, kvp]) := by simpa using hrow
    exact this.same (fun k hk => hset k (by have := (this.lt k hk).1; omega))
  · have e1 := ElemsF.snoc hp ps xs h.els
    have e2 := ElemsF.keep (G := fun k => B + 1 ≤ k ∧ some k ≠ v'.ownBlock) (x := w') (fun k hk hlt => hg.block k hlt hk.2) hg.size (fun k hk hlt => ⟨hk.1, by
      rcases hb with hb | hb
      · rw [hb]; exact hk.2
      · rw [hb]; intro e; cases e; omega⟩) _ _ e1
    exact ElemsF.keep (fun k hk _ => hset k (by omega)) (by simp) (fun k hk _ => hk) _ _ e2
end
/-- What the tree's draw gives. -/
def DrewPat (C : Nat) (A : Option Addr) (n c : Nat) (d : Nat) (w : World) (e : Ending) (w' : World) : Prop := ∃ p kv, count p < 2 ^ (d + 1) ∧ e = .returned (p.v kv) ∧ KidsF (fun k => w.heap.size ≤ k) w' p kv ∧ CurAt w' C A n c ∧ Drawn C w w'
theorem countAll_two (d : Nat) (ps : List Pat) (hl : ps.length ≤ 2) (h : ∀ q ∈ ps, count q < 2 ^ d) : countAll ps + 1 < 2 ^ (d + 1) := by
  have h2 : 1 ≤ 2 ^ d := Nat.one_le_two_pow
  have h3 : 2 ^ (d + 1) = 2 ^ d + 2 ^ d := by rw [Nat.pow_succ]; omega
  rcases ps with _ | ⟨a, _ | ⟨b, _ | ⟨e, ps⟩⟩⟩
  · simp only [countAll]; omega
  · have := h a (by simp); simp [countAll]; omega
  · have := h a (by simp); have := h b (by simp); simp [countAll]; omega
  · simp at hl

section
variable (C : Nat) (A : Option Addr) (n c : Nat) (hn : n ≤ 1048576)
include hn
set_option maxRecDepth 100000 in
set_option maxHeartbeats 4000000 in
theorem l18Tree_any (d : Nat) : ∀ (deep : Int) (vars : Nat) (w : World), deep ≤ d → -100 ≤ deep → d ≤ 20 → vars ≤ 256 → CurAt w C A n c → BytesIn w C A n →
    Calls Try.prog 62 #[.pointer (some ⟨C, 0, none⟩), .int .i64 deep, .int .i64 vars] w (DrewPat C A n c d w) := by
  induction d using Nat.strongRecOn with | ind d ih =>
  intro deep vars w hdeep hdeep0 hd20 hvars hcur hby
  have HCUR := Lib.hid hcur
  have HBY := Lib.hid hby
  have hlt := hcur.lt
  have IH := Lib.hid ih
  clear hcur hby ih
  go_enter Try.func62, Try.ntmps62
  go_wp2_with fail
  refine (l1Below_any C A n c _ (HCUR.out.later ((Later.refl _).alloc _)) (HBY.out.later ((Later.refl _).alloc _)) hn 23 (by omega)).mono ?_
  rintro e w2 ⟨x, hx0, hx1, rfl, hc2, hd2⟩
  have HS1 : Hid (TrSt (fun op => 1 ≤ op ∧ op ≤ 23) C A n c w w.heap.size w2.heap.size (1 + x) ⟨#[]⟩ 0 0 0 (.slice none 0 0) (w2.alloc (patCells (1 + x) ⟨#[]⟩ 0 0 0 (.slice none 0 0)))) := Lib.hid (by
    have h2 : w.heap.size < w2.heap.size := by have := hd2.below.size; simp at this; omega
    refine ⟨by omega, by decide, heap_alloc_new _ _, Later.has ((Later.refl _).alloc _) (hd2.has (heap_alloc_new w _) (by omega)), hc2.later ((Later.refl _).alloc _), ((Drawn.later ((Later.refl _).alloc _) (by omega)).trans hd2).trans (Drawn.later ((Later.refl _).alloc _) (by omega)), hlt, Nat.le_refl _, h2⟩)
  have h2s : w.heap.size < w2.heap.size := by have := hd2.below.size; simp at this; omega
  clear hc2 hd2
  go_wp2_with fail
  refine (l1Once_any C A n c _ HS1.out.cur (HBY.out.drawn HS1.out.drawn) hn 3 (by omega)).mono ?_
  rintro e w3 ⟨b, rfl, hc3, hd3⟩
  have HS2 := Lib.hid (HS1.out.step hd3 hc3)
  clear HS1 hc3 hd3
  generalize hBB : w2.heap.size = B at HS2 ⊢
  go_upto_if 14 with (fail)
  go_cut [] (fun wr => TrIn (fun op => 1 ≤ op ∧ op ≤ 23) C A n c w w.heap.size B wr)
  case first =>
    cases b
    · go_wp2_with fail
      go_meet
      exact HS2.out.in_
    · go_wp2_with fail
      have hlw3 := Later.alloc (Later.refl w3) (.cells #[.int .i64 1, .int .i64 2, .int .i64 7, .int .i64 14, .int .i64 15, .int .i64 14, .int .i64 15, .int .i64 11] 3)
      refine (l1PickInt_any C A n c _ (HS2.out.cur.later hlw3) ((HBY.out.drawn HS2.out.drawn).later hlw3) hn w3.heap.size 8 8 (fun v => 1 ≤ v ∧ v ≤ 23) (by omega) (by omega) (by simp) (by have := HS2.out.cur.lt; omega) (fun j hj => ?_)).mono ?_
      · have hr := fun j => cell_of_row _ w3.heap.size j _ _ _ (heap_alloc_new w3 (.cells #[.int .i64 1, .int .i64 2, .int .i64 7, .int .i64 14, .int .i64 15, .int .i64 14, .int .i64 15, .int .i64 11] 3))
        rcases j with _ | _ | _ | _ | _ | _ | _ | _ | j
        all_goals first | omega | exact ⟨_, by decide, hr _⟩
      rintro e w4 ⟨v, hv, rfl, hcw4, hdw4⟩
      have HS3 := Lib.hid ((HS2.out.later hlw3).step hdw4 hcw4)
      clear hlw3 hcw4 hdw4
      obtain ⟨p0, p1, p2, p3, p4, p5⟩ := cells_p HS3.out.blk
      obtain ⟨f0, f1, f2, f3, f4, f5⟩ := frozen_p HS3.out.blk
      go_wp2_with fail
      go_meet
      exact (HS3.out.op_ hv).in_
  case rest =>
  obtain ⟨w5, hnm⟩ : ∃ x, x = wc := ⟨_, rfl⟩
  rw [← hnm] at hcut ⊢
  clear hnm wc
  obtain ⟨op, text, num, lo, hi, HSo⟩ := hcut
  have HS := Lib.hid HSo
  have hop := HSo.ok
  clear HSo HS2 hBB w2 w3 b x hx0 hx1 h2s
  have hlt7 := HS.out.hRB
  have hltR := HS.out.hR
  have hltC := HS.out.hC
  obtain ⟨p0, p1, p2, p3, p4, p5⟩ := cells_p HS.out.blk
  obtain ⟨f0, f1, f2, f3, f4, f5⟩ := frozen_p HS.out.blk
  have hkid : 0 ≤ kidsOf op ∧ kidsOf op ≤ 2 := by unfold kidsOf; split <;> (try split) <;> omega
  go_upto_region 4 with (fail)
  go_cut [45] (fun v wr => ∃ t : Bool, v = .bool t ∧ (t = false → deep ≤ 0 → kidsOf op = 0) ∧ w5 = wr)
  case first =>
    go_wp2_with fail
    refine (l18Kids_any op _).mono ?_
    rintro e w' ⟨rfl, rfl⟩
    go_wp2_with fail
    all_goals (go_meet; exact ⟨_, rfl, (by intro h1 h2; first | omega | simp at h1), rfl⟩)
  case rest =>
  obtain ⟨t, rfl, ht, hw⟩ := hcut
  subst hw
  clear p0 p1 p2 p3 p4 p5 f0 f1 f2 f3 f4 f5
  go_upto_if 45 with (fail)
  go_cut [] (fun wr => TrIn (fun op => 1 ≤ op ∧ op ≤ 23 ∧ (deep ≤ 0 → kidsOf op = 0)) C A n c w w.heap.size B wr)
  case first =>
    cases t
    · have HT := Lib.hid (ht rfl)
      clear ht
      go_wp2_with fail
      go_meet
      exact (HS.out.weak ⟨hop.1, hop.2, HT.out⟩).in_
    · clear ht
      go_wp2_with fail
      have hlw5 := Later.alloc (Later.refl w5) (.cells #[.int .i64 1, .int .i64 2, .int .i64 9, .int .i64 11, .int .i64 7] 3)
      refine (l1PickInt_any C A n c _ (HS.out.cur.later hlw5) ((HBY.out.drawn HS.out.drawn).later hlw5) hn w5.heap.size 5 5 (fun v => 1 ≤ v ∧ v ≤ 23 ∧ kidsOf v = 0) (by omega) (by omega) (by simp) (by have := HS.out.cur.lt; omega) (fun j hj => ?_)).mono ?_
      · have hr := fun j => cell_of_row _ w5.heap.size j _ _ _ (heap_alloc_new w5 (.cells #[.int .i64 1, .int .i64 2, .int .i64 9, .int .i64 11, .int .i64 7] 3))
        rcases j with _ | _ | _ | _ | _ | j
        all_goals first | omega | exact ⟨_, by decide, hr _⟩
      rintro e w6 ⟨v, hv, rfl, hcw6, hdw6⟩
      have HS3 := Lib.hid ((HS.out.later hlw5).step hdw6 hcw6)
      clear hlw5 hcw6 hdw6
      obtain ⟨p0, p1, p2, p3, p4, p5⟩ := cells_p HS3.out.blk
      obtain ⟨f0, f1, f2, f3, f4, f5⟩ := frozen_p HS3.out.blk
      go_wp2_with fail
      go_meet
      exact (HS3.out.op_ ⟨hv.1, hv.2.1, fun _ => hv.2.2⟩).in_
  case rest =>
  clear HS hop ht hkid hlt7 hltR hltC
  obtain ⟨w7, hnm⟩ : ∃ x, x = wc := ⟨_, rfl⟩
  rw [← hnm] at hcut ⊢
  clear hnm wc
  obtain ⟨op, text, num, lo, hi, HSo⟩ := hcut
  have HS := Lib.hid HSo
  have hop := HSo.ok
  clear HSo
  have hlt7 := HS.out.hRB
  have hltR := HS.out.hR
  have hltC := HS.out.hC
  obtain ⟨p0, p1, p2, p3, p4, p5⟩ := cells_p HS.out.blk
  obtain ⟨f0, f1, f2, f3, f4, f5⟩ := frozen_p HS.out.blk
  go_upto_region 6 with (fail)
  go_cut [52] (fun v wr => ∃ t : Bool, v = .bool t ∧ w7 = wr)
  case first =>
    go_wp2_with fail
    all_goals (go_meet; exact ⟨_, rfl, rfl⟩)
  case rest =>
  obtain ⟨t, rfl, hw⟩ := hcut
  subst hw
  clear p0 p1 p2 p3 p4 p5 f0 f1 f2 f3 f4 f5
  go_upto_if 52 with (fail)
  go_cut [] (fun wr => TrIn (fun op => 1 ≤ op ∧ op ≤ 23 ∧ (deep ≤ 0 → kidsOf op = 0)) C A n c w w.heap.size B wr)
  case first =>
    cases t
    · go_wp2_with fail
      go_meet
      exact HS.out.in_
    · go_wp2_with fail
      refine (l17Part_any C A n c _ HS.out.cur (HBY.out.drawn HS.out.drawn) hn).mono ?_
      rintro e w6 ⟨v, hv, rfl, hc6, hd6⟩
      have HS3 := Lib.hid (HS.out.step hd6 hc6)
      clear hc6 hd6
      obtain ⟨p0, p1, p2, p3, p4, p5⟩ := cells_p HS3.out.blk
      obtain ⟨f0, f1, f2, f3, f4, f5⟩ := frozen_p HS3.out.blk
      go_wp2_with fail
      go_meet
      exact (HS3.out.text_ hv).in_
  case rest =>
  clear HS hop hlt7 hltR hltC
  obtain ⟨w8, hnm⟩ : ∃ x, x = wc := ⟨_, rfl⟩
  rw [← hnm] at hcut ⊢
  clear hnm wc
  obtain ⟨op, text, num, lo, hi, HSo⟩ := hcut
  have HS := Lib.hid HSo
  have hop := HSo.ok
  clear HSo
  have hlt7 := HS.out.hRB
  have hltR := HS.out.hR
  have hltC := HS.out.hC
  obtain ⟨p0, p1, p2, p3, p4, p5⟩ := cells_p HS.out.blk
  obtain ⟨f0, f1, f2, f3, f4, f5⟩ := frozen_p HS.out.blk
  go_upto_region 8 with (fail)
  go_cut [63] (fun v wr => ∃ t : Bool, v = .bool t ∧ w8 = wr)
  case first =>
    go_wp2_with fail
    all_goals (go_meet; exact ⟨_, rfl, rfl⟩)
  case rest =>
  obtain ⟨t, rfl, hw⟩ := hcut
  subst hw
  clear p0 p1 p2 p3 p4 p5 f0 f1 f2 f3 f4 f5
  go_upto_if 63 with (fail)
  go_cut [] (fun wr => TrIn (fun op => 1 ≤ op ∧ op ≤ 23 ∧ (deep ≤ 0 → kidsOf op = 0)) C A n c w w.heap.size B wr)
  case first =>
    cases t
    · go_wp2_with fail
      go_meet
      exact HS.out.in_
    · go_wp2_with fail
      refine (l1Below_any C A n c _ HS.out.cur (HBY.out.drawn HS.out.drawn) hn 5 (by omega)).mono ?_
      rintro e w6 ⟨v, hv0, hv1, rfl, hc6, hd6⟩
      have HS3 := Lib.hid (HS.out.step hd6 hc6)
      clear hc6 hd6
      obtain ⟨p0, p1, p2, p3, p4, p5⟩ := cells_p HS3.out.blk
      obtain ⟨f0, f1, f2, f3, f4, f5⟩ := frozen_p HS3.out.blk
      go_wp2_with fail
      go_meet
      exact HS3.out.num_.in_
  case rest =>
  clear HS hop hlt7 hltR hltC
  obtain ⟨w9, hnm⟩ : ∃ x, x = wc := ⟨_, rfl⟩
  rw [← hnm] at hcut ⊢
  clear hnm wc
  obtain ⟨op, text, num, lo, hi, HSo⟩ := hcut
  have HS := Lib.hid HSo
  have hop := HSo.ok
  clear HSo
  have hlt7 := HS.out.hRB
  have hltR := HS.out.hR
  have hltC := HS.out.hC
  obtain ⟨p0, p1, p2, p3, p4, p5⟩ := cells_p HS.out.blk
  obtain ⟨f0, f1, f2, f3, f4, f5⟩ := frozen_p HS.out.blk
  go_upto_region 10 with (fail)
  go_cut [74] (fun v wr => ∃ t : Bool, v = .bool t ∧ w9 = wr)
  case first =>
    go_wp2_with fail
    all_goals (go_meet; exact ⟨_, rfl, rfl⟩)
  case rest =>
  obtain ⟨t, rfl, hw⟩ := hcut
  subst hw
  clear p0 p1 p2 p3 p4 p5 f0 f1 f2 f3 f4 f5
  go_upto_if 74 with (fail)
  go_cut [] (fun wr => TrIn (fun op => 1 ≤ op ∧ op ≤ 23 ∧ (deep ≤ 0 → kidsOf op = 0)) C A n c w w.heap.size B wr)
  case first =>
    cases t
    · go_wp2_with fail
      go_meet
      exact HS.out.in_
    · go_wp2_with fail
      have hlw9 := Later.alloc (Later.refl w9) (.cells #[.string ⟨#[97]⟩, .string ⟨#[97, 110]⟩, .string ⟨#[98, 110]⟩, .string ⟨#[98, 97, 110]⟩, .string ⟨#[44]⟩] 9)
      refine (l1Pick_any C A n c _ (HS.out.cur.later hlw9) ((HBY.out.drawn HS.out.drawn).later hlw9) hn w9.heap.size 5 5 (fun v => v.size ≤ 3 ∧ ∀ j (h : j < v.size), (v[j].toNat : Int) < 128) (by omega) (by omega) (by simp) (by have := HS.out.cur.lt; omega) (fun j hj => ?_)).mono ?_
      · have hr := fun j => cell_of_row _ w9.heap.size j _ _ _ (heap_alloc_new w9 (.cells #[.string ⟨#[97]⟩, .string ⟨#[97, 110]⟩, .string ⟨#[98, 110]⟩, .string ⟨#[98, 97, 110]⟩, .string ⟨#[44]⟩] 9))
        rcases j with _ | _ | _ | _ | _ | j
        all_goals first | omega | exact ⟨_, by decide, hr _⟩
      rintro e w6 ⟨v, hv, rfl, hcw6, hdw6⟩
      have HS3 := Lib.hid ((HS.out.later hlw9).step hdw6 hcw6)
      clear hlw9 hcw6 hdw6
      obtain ⟨p0, p1, p2, p3, p4, p5⟩ := cells_p HS3.out.blk
      obtain ⟨f0, f1, f2, f3, f4, f5⟩ := frozen_p HS3.out.blk
      go_wp2_with fail
      refine (specNew_all v _ hv.2 (by omega)).mono ?_
      rintro e w11 ⟨lo2, hi2, rfl, hb11⟩
      have HS4 := Lib.hid (HS3.out.later hb11)
      clear hb11 p0 p1 p2 p3 p4 p5 f0 f1 f2 f3 f4 f5
      obtain ⟨p0, p1, p2, p3, p4, p5⟩ := cells_p HS4.out.blk
      obtain ⟨f0, f1, f2, f3, f4, f5⟩ := frozen_p HS4.out.blk
      go_wp2_with fail
      go_meet
      exact (HS4.out.lo_.hi_).in_
  case rest =>
  clear HS hop hlt7 hltR hltC
  obtain ⟨w10, hnm⟩ : ∃ x, x = wc := ⟨_, rfl⟩
  rw [← hnm] at hcut ⊢
  clear hnm wc
  obtain ⟨op, text, num, lo, hi, HSo⟩ := hcut
  have HS := Lib.hid HSo
  have hop := HSo.ok
  clear HSo
  have hlt7 := HS.out.hRB
  have hltR := HS.out.hR
  have hltC := HS.out.hC
  obtain ⟨p0, p1, p2, p3, p4, p5⟩ := cells_p HS.out.blk
  obtain ⟨f0, f1, f2, f3, f4, f5⟩ := frozen_p HS.out.blk
  go_upto_region 12 with (fail)
  go_cut [95] (fun v wr => ∃ t : Bool, v = .bool t ∧ w10 = wr)
  case first =>
    go_wp2_with fail
    all_goals (go_meet; exact ⟨_, rfl, rfl⟩)
  case rest =>
  obtain ⟨t, rfl, hw⟩ := hcut
  subst hw
  clear p0 p1 p2 p3 p4 p5 f0 f1 f2 f3 f4 f5
  go_upto_if 95 with (fail)
  go_cut [] (fun wr => TrIn (fun op => 1 ≤ op ∧ op ≤ 23 ∧ (deep ≤ 0 → kidsOf op = 0)) C A n c w w.heap.size B wr)
  case first =>
    cases t
    · go_wp2_with fail
      go_meet
      exact HS.out.in_
    · go_wp2_with fail
      refine (l1Below_any C A n c _ HS.out.cur (HBY.out.drawn HS.out.drawn) hn vars (by omega)).mono ?_
      rintro e w6 ⟨v, hv0, hv1, rfl, hc6, hd6⟩
      have HS3 := Lib.hid (HS.out.step hd6 hc6)
      clear hc6 hd6
      obtain ⟨p0, p1, p2, p3, p4, p5⟩ := cells_p HS3.out.blk
      obtain ⟨f0, f1, f2, f3, f4, f5⟩ := frozen_p HS3.out.blk
      go_wp2_with fail
      go_meet
      exact HS3.out.num_.in_
  case rest =>
  clear HS hop hlt7 hltR hltC
  obtain ⟨w11, hnm⟩ : ∃ x, x = wc := ⟨_, rfl⟩
  rw [← hnm] at hcut ⊢
  clear hnm wc
  obtain ⟨op, text, num, lo, hi, HSo⟩ := hcut
  have HS := Lib.hid HSo
  have hop := HSo.ok
  clear HSo
  have hlt7 := HS.out.hRB
  have hltR := HS.out.hR
  have hltC := HS.out.hC
  obtain ⟨p0, p1, p2, p3, p4, p5⟩ := cells_p HS.out.blk
  obtain ⟨f0, f1, f2, f3, f4, f5⟩ := frozen_p HS.out.blk
  have hkid : 0 ≤ kidsOf op ∧ kidsOf op ≤ 2 := by unfold kidsOf; split <;> (try split) <;> omega
  have HK2 := Lib.hid hop.2.2
  clear hop p0 p1 p2 p3 p4 p5 f0 f1 f2 f3 f4 f5
  go_wp2_with fail
  go_loopw [8] (fun i wr => ∃ (ps : List Pat) (xs : List Value) (kv : Value), i = .int .i64 ps.length ∧ TrLp (fun op => 1 ≤ op ∧ op ≤ 23 ∧ (deep ≤ 0 → kidsOf op = 0)) C A n c w w.heap.size B op text num lo hi d ps xs kv wr) (fun i _ => (2 - intOf i).toNat)
  case atStart => exact ⟨[], [], _, rfl, HS.out, by simpa using hkid.1, by simp, HasRow.nil _ _ _ _, rfl⟩
  case round =>
    obtain ⟨ps, xs, kv, rfl, hlp⟩ := hrel
    have HL := Lib.hid hlp
    have hlen := hlp.len
    clear hlp HS
    obtain ⟨p0, p1, p2, p3, p4, p5⟩ := cells_p HL.out.st.blk
    by_cases hlt8 : (ps.length : Int) < kidsOf op
    · have hdp : 0 < deep := by
        rcases Int.lt_or_le 0 deep with h | h
        · exact h
        · have := HK2.out h; omega
      have t1 : decide ((ps.length : Int) < kidsOf op) = true := by simpa using hlt8
      go_wp2_with fail
      refine (l18Kids_any op _).mono ?_
      rintro e w' ⟨rfl, rfl⟩
      go_wp2_with fail
      clear p0 p1 p2 p3 p4 p5
      -- region 17: 11 operations, the last [8, 9, 10]
      refine wpV_begin [8, 9, 10] [] (fun x => x.heap[B]? = some (patCells op text num lo hi kv)) (by kernel_rfl) (fun w1 hw1 => ?_)
      have HL1 := Lib.hid (HL.out.later (drew_later hw1))
      clear hw1 HL
      have HS : Hid ((fun x => x.heap[B]? = some (patCells op text num lo hi kv)) w1) := Lib.hid HL1.out.st.blk
      refine wpV_take 0 (some 107) (v := ?_) rfl rfl (by kernel_rfl) (fun _ _ _ h => h) rfl HS.out (fun x hx => ?_) ?_
      rotate_left 1
      · go_simp; first | done | with_reducible rfl | rw [if_neg (by omega)] | rw [if_pos (by omega)]
      simp only [Act.put, nA, nB, nC]
      refine wpV_take 1 (some 108) (v := ?_) rfl rfl (by kernel_rfl) (fun _ _ _ h => h) rfl HS.out (fun x hx => ?_) ?_
      rotate_left 1
      · obtain ⟨p0, p1, p2, p3, p4, p5⟩ := cells_p hx; go_simp; first | done | with_reducible rfl | rw [if_neg (by omega)] | rw [if_pos (by omega)]
      simp only [Act.put, nA, nB, nC]
      refine wpV_take 2 (some 109) (v := ?_) rfl rfl (by kernel_rfl) (fun _ _ _ h => h) rfl HS.out (fun x hx => ?_) ?_
      rotate_left 1
      · go_simp; first | done | with_reducible rfl | rw [if_neg (by omega)] | rw [if_pos (by omega)]
      simp only [Act.put, nA, nB, nC]
      refine wpV_take 3 (some 110) (v := ?_) rfl rfl (by kernel_rfl) (fun _ _ _ h => h) rfl HS.out (fun x hx => ?_) ?_
      rotate_left 1
      · go_simp; first | done | with_reducible rfl | rw [if_neg (by omega)] | rw [if_pos (by omega)]
      simp only [Act.put, nA, nB, nC]
      refine wpV_take 4 (some 111) (v := ?_) rfl rfl (by kernel_rfl) (fun _ _ _ h => h) rfl HS.out (fun x hx => ?_) ?_
      rotate_left 1
      · go_simp; first | done | with_reducible rfl | rw [if_neg (by omega)] | rw [if_pos (by omega)]
      simp only [Act.put, nA, nB, nC]
      refine wpV_take 5 (some 112) (v := ?_) rfl rfl (by kernel_rfl) (fun _ _ _ h => h) rfl HS.out (fun x hx => ?_) ?_
      rotate_left 1
      · go_simp; first | done | with_reducible rfl | rw [if_neg (by omega)] | rw [if_pos (by omega)]
      simp only [Act.put, nA, nB, nC]
      refine wpV_step 6 (by kernel_rfl) rfl rfl ?_  -- call value (Go.Operand.func 62)
      go_wp2_with fail
      refine (IH.out (d - 1) (by omega) (deep - 1) vars _ (by omega) (by omega) (by omega) hvars HL1.out.st.cur (HBY.out.drawn HL1.out.st.drawn)).mono ?_
      rintro e w2 ⟨p, kvp, hcp, rfl, hkp, hc2, hd2⟩
      have HL2 := Lib.hid (HL1.out.step hd2 hc2)
      have HKP := Lib.hid (KidsF.keep (G := fun k => B + 1 ≤ k ∧ some k ≠ kv.ownBlock) (fun _ _ _ => rfl) (Nat.le_refl _) (fun k hk _ => ⟨by have := has_lt' HL1.out.st.blk; omega, fun e => by have := (HL1.out.row.lt k e.symm).2.1; omega⟩) p kvp hkp)
      have HCP := Lib.hid (show count p < 2 ^ d by rwa [Nat.sub_add_cancel (by omega)] at hcp)
      clear hcp hkp hc2 hd2 HL1 HS
      have HS : Hid ((fun x => x.heap[B]? = some (patCells op text num lo hi kv)) w2) := Lib.hid HL2.out.st.blk
      go_wp2_with fail
      refine ⟨HS.out, ?_⟩
      refine wpV_step 7 (by kernel_rfl) rfl rfl ?_  -- buildSlice 
      go_wp2_with fail
      have hlw := Later.alloc (Later.refl w2) (patCells p.op p.text p.num p.lo p.hi kvp)
      refine ⟨hlw.has HS.out, ?_⟩
      refine wpV_last [_, _, _] (by kernel_rfl) rfl rfl ?_
      simp only [List.getElem_toArray, List.getElem_cons_succ, List.getElem_cons_zero]
      obtain ⟨i, hi, hz0, hz1, hz2⟩ := info_parts infoPat
      refine wpList_append_has _ rfl _ _ _ rfl (B + 1) TP i _ 6 72 Try.underlying24 hi hz0 hz1 hz2 rfl _ ps.length xs rfl ((HL2.out.later hlw).row) _ 1 1 [.int .i64 p.op, .string p.text, .int .i64 p.num, .int .i64 p.lo, .int .i64 p.hi, kvp] rfl rfl ?_ ?_ (by omega) ?_ ?_ ?_ ?_
      · exact cells_new _ [_, _, _, _, _, _] _
      · intro u hu
        obtain ⟨ka, kc, rfl, _⟩ := HKP.out.form
        simp only [List.mem_cons, List.not_mem_nil, or_false] at hu
        rcases hu with rfl | rfl | rfl | rfl | rfl | rfl <;> rfl
      · simp only [maxLen]; omega
      · omega
      · have := has_lt' HL2.out.st.blk; simp; omega
      · intro v' w' hrow hgrow hblock
        have hb6 : some B ≠ kv.ownBlock := fun e => by have := (HL2.out.row.lt B e.symm).1; omega
        have HBLK := Lib.hid ((hgrow.block B (has_lt' (hlw.has HS.out)) hb6).trans (hlw.has HS.out))
        have HL3 := Lib.hid ((HL2.out.later hlw).grown (KidsF.keep (fun k _ hk => hlw.block k hk) hlw.size (fun k hk _ => hk) p kvp HKP.out) HCP.out (by omega) hrow hgrow hblock)
        obtain ⟨vA, vc, rfl, _, _⟩ := hrow.form
        clear hrow hgrow hblock hb6 hlw
        obtain ⟨p0, p1, p2, p3, p4, p5⟩ := cells_p HBLK.out
        obtain ⟨f0, f1, f2, f3, f4, f5⟩ := frozen_p HBLK.out
        go_wp2_with fail
        clear p0 p1 p2 p3 p4 p5 f0 f1 f2 f3 f4 f5
        go_roundw
        case rel => exact ⟨ps ++ [p], _, _, by simp, HL3.out⟩
        case measure => simp [intOf]; omega
    · have t1 : decide ((ps.length : Int) < kidsOf op) = false := by simpa using hlt8
      obtain ⟨f0, f1, f2, f3, f4, f5⟩ := frozen_p HL.out.st.res
      obtain ⟨q0, q1, q2, q3, q4, q5⟩ := cells_p HL.out.st.res
      obtain ⟨kA, kc, rfl, hkl, hrf⟩ := rowF_mk HL.out.row HL.out.els (fun k hk => hk.1)
      have HRF := Lib.hid hrf
      clear hrf
      go_wp2_with fail
      refine (l18Kids_any op _).mono ?_
      rintro e w' ⟨rfl, rfl⟩
      go_wp2_with fail
      have hB7 := has_lt' HL.out.st.res
      have hsz := HL.out.st.drawn.below.size
      have HO := fun k hk => Lib.hid (set6_other (wr := wr) (R := w.heap.size) (k := k) hk (.int .i64 op) (.string text) (.int .i64 num) (.int .i64 lo) (.int .i64 hi) (.slice kA ps.length kc))
      refine bodyPost_ret (v := (Pat.mk op text num lo hi ps).v (.slice kA ps.length kc)) (by simp [results, Try.results62, go_sem, p0, p1, p2, p3, p4, p5, q0, q1, q2, q3, q4, q5, f0, f1, f2, f3, f4, f5, hB7]; exact ⟨rfl, rfl, rfl, rfl, rfl⟩) rfl ?_
      refine ⟨.mk op text num lo hi ps, _, ?_, rfl, ?_, ?_, ?_⟩
      · rw [count_eq]; exact countAll_two d ps (by have := HL.out.len; omega) HL.out.cnt
      · simp only [KidsF]
        exact ⟨kA, kc, rfl, hkl, RowF.keep (fun k hk _ => (HO k (by omega)).out) (by simp) (fun k hk _ => by omega) _ _ _ HRF.out⟩
      · obtain ⟨ci, cy, hci, hcb⟩ := HL.out.st.cur
        exact ⟨ci, cy, hci, ((HO C (by omega)).out).trans hcb⟩
      · exact (((((HL.out.st.drawn.own hlt (Nat.le_refl _) _ _).own hlt (Nat.le_refl _) _ _).own hlt (Nat.le_refl _) _ _).own hlt (Nat.le_refl _) _ _).own hlt (Nat.le_refl _) _ _).own hlt (Nat.le_refl _) _ _
end
end Go.Proofs.Ytndefbecoahfhaa
