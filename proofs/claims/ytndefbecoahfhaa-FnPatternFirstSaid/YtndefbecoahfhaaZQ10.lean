/- Part of the walks that the claim stands on. -/
import Derived.Test.YtndefbecoahfhaaZQ9

/- impl's eval: every offset, and the deferred pattern. Printed by gen_endeval.py. -/
namespace Go.Proofs.Ytndefbecoahfhaa
open Go.RowKit

/-- The loop over the offsets. -/
structure ArbSt (w0 w : World) (M : Nat) (dA : Option Addr) (dn dc : Nat) (s : ByteArray) (po : Obj) (b a k : Nat) (acc : List End) (lv : Value) (x : World) : Prop where
  le : a ≤ k ∧ k ≤ s.size + 1 ∧ k - a ≤ b
  acc_eq : acc = (arbE s a).take (k - a)
  ev : EvAt w0 w M dA dn dc s po (b - (k - a)) x
  row : EndRow (w.heap.size + 1) x acc lv
theorem arbE_len (s : ByteArray) (a : Nat) : (arbE s a).length = s.size + 1 - a := by simp [arbE]
theorem arbE_succ (s : ByteArray) (a k : Nat) (h1 : a ≤ k) (h2 : k ≤ s.size) : (arbE s a).take (k + 1 - a) = (arbE s a).take (k - a) ++ [⟨k, []⟩] := by
  rw [show k + 1 - a = (k - a) + 1 by omega, List.take_succ_eq_append_getElem (by rw [arbE_len]; omega)]
  congr 2
  simp [arbE]
  omega
theorem EndRow.empty (w : World) (base : Nat) (B : Nat) (hb : base ≤ B) (h : w.heap[B]? = some (.cells #[] TE (0, 0))) : EndRow base w [] (.slice (some ⟨B, 0, none⟩) 0 0) :=
  ⟨[], ⟨rfl, .inr ⟨B, 0, _, rfl, hb, h, Nat.le_refl _, by decide, by decide, rfl⟩⟩, rfl⟩
theorem EndRow.push {base : Nat} {x y : World} {l : List End} {v' : Value} {xs : List Value} {e : End} {cv : Value} (he : ElemsE x l xs) (hc : HasRow x 0 TK 3 cv e.caps.length (capCells e.caps)) (hk : KeepT TK x y)
    (hrow : HasRow y base TE 2 v' (l.length + 1) (xs ++ [.int .i64 e.at_, cv])) : EndRow base y (l ++ [e]) v' :=
  ⟨_, by rw [List.length_append, List.length_singleton]; exact hrow, ElemsE.keep hk _ _ (ElemsE.append _ _ _ _ he (ElemsE.one hc))⟩
set_option maxRecDepth 100000 in
set_option maxHeartbeats 4000000 in
theorem eval_arb {w0 w : World} {M : Nat} {dA : Option Addr} {dn dc : Nat} {s : ByteArray} {defs : List Pat} {n b a : Nat} {text : ByteArray} {num lo hi : Int} {l : Nat} {kids : List Pat} {A : Option Addr} {c : Nat} 
    (hst : NSt w M dA dn dc s (some (b + 1))) (hl : Later w0 w) (hM : w0.heap.size ≤ M) (hs : s.size ≤ 120) (ha : a ≤ s.size) :
    Calls Try.prog 57 #[.pointer (some ⟨M, 0, none⟩), patV 11 text num lo hi (.slice A l c), .int .i64 a] w (EvPost w M dA dn dc s (b + 1) (ev defs s (n + 1) (b + 1) (.mk 11 text num lo hi kids) a)) := by
  have HS := Lib.hid hst
  have hMlt := hst.lt
  have hb3000 := hst.1
  skip
  have HE := Lib.hid (EvAt.start hst hl hM (.cells #[.int .i64 11, .string text, .int .i64 num, .int .i64 lo, .int .i64 hi, .slice A l c] TP))
  clear hst hl
  go_enter Try.func57, Try.ntmps57
  go_wp2_with fail
  refine (implStep_any M dA dn dc s (some (b + 1)) _ HE.out.st).mono ?_
  rintro e w1 ⟨rfl, hn1, hd1, _⟩
  have HE1 := Lib.hid (HE.out.drawn hd1 (b' := b) hn1)
  have t4 : (less (some (b + 1))).isSome = true := rfl
  clear hn1 hd1 HE
  go_wp2_with fail
  -- region 3: 14 operations, the last []
  refine wpU_begin [] [] (by kernel_rfl) (fun w2 hw2 => ?_)
  have HE2 := Lib.hid (HE1.out.later (drew_later hw2))
  clear hw2 HE1
  refine wpU_take 0 (some 30) (v := ?_) rfl rfl (by kernel_rfl) (fun _ _ _ h => h) rfl (fun x hx => ?_) ?_
  rotate_left 1
  · obtain ⟨m0, m1, m2, m3⟩ := cells_n (HE2.out.st.later hx).2; obtain ⟨p0, p1, p2, p3, p4, p5⟩ := cells_p (hx.has HE2.out.blk); go_simp; first | done | with_reducible rfl | rw [if_neg (by omega)] | rw [if_pos (by omega)]
  simp only [Act.put, nA, nB, nC]
  refine wpU_take 1 (some 31) (v := ?_) rfl rfl (by kernel_rfl) (fun _ _ _ h => h) rfl (fun x hx => ?_) ?_
  rotate_left 1
  · go_simp; first | done | with_reducible rfl | rw [if_neg (by omega)] | rw [if_pos (by omega)]
  simp only [Act.put, nA, nB, nC]
  refine wpU_take 2 (some 32) (v := ?_) rfl rfl (by kernel_rfl) (fun _ _ _ h => h) rfl (fun x hx => ?_) ?_
  rotate_left 1
  · go_simp; first | done | with_reducible rfl | rw [if_neg (by omega)] | rw [if_pos (by omega)]
  simp only [Act.put, nA, nB, nC]
  refine wpU_take 3 (some 33) (v := ?_) rfl rfl (by kernel_rfl) (fun _ _ _ h => h) rfl (fun x hx => ?_) ?_
  rotate_left 1
  · go_simp; first | done | with_reducible rfl | rw [if_neg (by omega)] | rw [if_pos (by omega)]
  simp only [Act.put, nA, nB, nC]
  refine wpU_take 4 (some 34) (v := ?_) rfl rfl (by kernel_rfl) (fun _ _ _ h => h) rfl (fun x hx => ?_) ?_
  rotate_left 1
  · obtain ⟨m0, m1, m2, m3⟩ := cells_n (HE2.out.st.later hx).2; obtain ⟨p0, p1, p2, p3, p4, p5⟩ := cells_p (hx.has HE2.out.blk); go_simp; first | done | with_reducible rfl | rw [if_neg (by omega)] | rw [if_pos (by omega)]
  simp only [Act.put, nA, nB, nC]
  refine wpU_take 5 (some 35) (v := ?_) rfl rfl (by kernel_rfl) (fun _ _ _ h => h) rfl (fun x hx => ?_) ?_
  rotate_left 1
  · go_simp; first | done | with_reducible rfl | rw [if_neg (by omega)] | rw [if_pos (by omega)]
  simp only [Act.put, nA, nB, nC]
  refine wpU_step 6 (by kernel_rfl) rfl rfl ?_  -- call value (Go.Operand.func 78)
  go_wp2_with fail
  refine (simple_else text num lo hi A l c s a _ 11 (by omega)).mono ?_
  rintro e w3 ⟨rfl, hb3⟩
  go_wp2_with fail
  refine ⟨hb3, ?_⟩
  have HE3 := Lib.hid (HE2.out.later hb3)
  clear HE2 hb3
  refine wpU_take 7 (some 29) (v := ?_) rfl rfl (by kernel_rfl) (fun _ _ _ h => h) rfl (fun x hx => ?_) ?_
  rotate_left 1
  · go_simp; first | done | with_reducible rfl | rw [if_neg (by omega)] | rw [if_pos (by omega)]
  simp only [Act.put, nA, nB, nC]
  refine wpU_take 8 (some 37) (v := ?_) rfl rfl (by kernel_rfl) (fun _ _ _ h => h) rfl (fun x hx => ?_) ?_
  rotate_left 1
  · go_simp; first | done | with_reducible rfl | rw [if_neg (by omega)] | rw [if_pos (by omega)]
  simp only [Act.put, nA, nB, nC]
  refine wpU_take 9 (some 38) (v := ?_) rfl rfl (by kernel_rfl) (fun _ _ _ h => h) rfl (fun x hx => ?_) ?_
  rotate_left 1
  · go_simp; first | done | with_reducible rfl | rw [if_neg (by omega)] | rw [if_pos (by omega)]
  simp only [Act.put, nA, nB, nC]
  refine wpU_take 10 (some 39) (v := ?_) rfl rfl (by kernel_rfl) (fun _ _ _ h => h) rfl (fun x hx => ?_) ?_
  rotate_left 1
  · go_simp; first | done | with_reducible rfl | rw [if_neg (by omega)] | rw [if_pos (by omega)]
  simp only [Act.put, nA, nB, nC]
  refine wpU_take 11 (some 8) (v := ?_) rfl rfl (by kernel_rfl) (fun _ _ _ h => h) rfl (fun x hx => ?_) ?_
  rotate_left 1
  · go_simp; first | done | with_reducible rfl | rw [if_neg (by omega)] | rw [if_pos (by omega)]
  simp only [Act.put, nA, nB, nC]
  refine wpU_take 12 (some 9) (v := ?_) rfl rfl (by kernel_rfl) (fun _ _ _ h => h) rfl (fun x hx => ?_) ?_
  rotate_left 1
  · go_simp; first | done | with_reducible rfl | rw [if_neg (by omega)] | rw [if_pos (by omega)]
  simp only [Act.put, nA, nB, nC]
  refine wpU_take 13 (some 10) (v := ?_) rfl rfl (by kernel_rfl) (fun _ _ _ h => h) rfl (fun x hx => ?_) ?_
  rotate_left 1
  · go_simp; first | done | with_reducible rfl | rw [if_neg (by omega)] | rw [if_pos (by omega)]
  simp only [Act.put, nA, nB, nC]
  refine wpU_last [] (by kernel_rfl) rfl rfl ?_
  obtain ⟨m0, m1, m2, m3⟩ := cells_n HE3.out.st.2
  obtain ⟨p0, p1, p2, p3, p4, p5⟩ := cells_p HE3.out.blk
  have hle := Later.alloc (Later.refl w3) (.cells #[] TE)
  have HA : Hid (ArbSt w0 w M dA dn dc s (.cells #[.int .i64 11, .string text, .int .i64 num, .int .i64 lo, .int .i64 hi, .slice A l c] TP (0, 0)) b a a [] (.slice (some ⟨w3.heap.size, 0, none⟩) 0 0) (w3.alloc (.cells #[] TE))) := Lib.hid ⟨⟨Nat.le_refl _, by omega, by omega⟩, by rw [Nat.sub_self, List.take_zero], by rw [Nat.sub_self, Nat.sub_zero]; exact HE3.out.later hle, EndRow.empty _ _ _ HE3.out.size (heap_alloc_new w3 _)⟩
  clear hle HE3
  go_wp2_with fail
  clear m0 m1 m2 m3 p0 p1 p2 p3 p4 p5
  go_loopw [12, 11] (fun i v wx => ∃ (k : Nat) (acc : List End) (lv : Value), lv = v ∧ i = .int .i64 k ∧ ArbSt w0 w M dA dn dc s (.cells #[.int .i64 11, .string text, .int .i64 num, .int .i64 lo, .int .i64 hi, .slice A l c] TP (0, 0)) b a k acc lv wx) (fun i _ _ => s.size + 1 - (intOf i).toNat)
  case atStart => exact ⟨a, _, _, rfl, rfl, HA.out⟩
  case round =>
    clear HA
    obtain ⟨k, acc, lv, rfl, rfl, has⟩ := hrel
    obtain ⟨wo, rfl⟩ : ∃ wo : World, wo = wr := ⟨_, rfl⟩
    obtain ⟨h1, h2, h3⟩ := has.le
    have HACC := Lib.hid has.acc_eq
    obtain ⟨m0, m1, m2, m3⟩ := cells_n has.ev.st.2
    obtain ⟨lA, lc, rfl, _, _⟩ := has.row.form
    have hMl := has.ev.st.lt
    have hwsz := has.ev.size
    have hMw := has.ev.hM.1
    have HEV := Lib.hid has.ev
    have HROW := Lib.hid has.row
    clear has
    by_cases hk : k ≤ s.size
    · have t1 : decide ((k : Int) ≤ s.size) = true := decide_eq_true (by omega)
      have t1' : decide (k ≤ s.size) = true := decide_eq_true (by omega)
      go_wp2_with fail
      clear m0 m1 m2 m3
      refine (implStep_any M dA dn dc s (some (b - (k - a))) _ HEV.out.st).mono ?_
      rintro e w5 ⟨rfl, hn5, hd5, hsw⟩
      by_cases hkb : k - a < b
      · have hless : less (some (b - (k - a))) = some (b - (k + 1 - a)) := by rw [show b - (k - a) = (b - (k + 1 - a)) + 1 by omega]; rfl
        rw [hless] at hn5
        have t5 : (less (some (b - (k - a)))).isSome = true := by rw [hless]; rfl
        obtain ⟨cs, hcs⟩ := HEV.out.st.some_
        have HE5 := Lib.hid (HEV.out.drawn hd5 hn5)
        have hrow5 := HROW.out.same (KeepT.drawn hd5 hcs (by decide)) (fun g h1 h2 _ => hd5.other g h2 (by omega))
        have hla := Later.alloc (Later.refl w5) (.cells #[.int .i64 k, .slice none 0 0] TE)
        have HE6 := Lib.hid (HE5.out.later hla)
        obtain ⟨xs, hx, he⟩ := hrow5.later hla
        have HX := Lib.hid hx
        have HEl := Lib.hid he
        have hlen : acc.length ≤ 10000 := by rw [HACC.out, List.length_take, arbE_len]; omega
        have hsz5 := HE5.out.size
        obtain ⟨i, hi, hz0, hz1, hz2⟩ := info_parts infoE
        clear hn5 hd5 hcs hless hrow5 hla hx he HE5 HROW HEV
        go_wp2_with (at_builtin; refine wpList_append_has _ rfl _ _ _ rfl (w.heap.size + 1) TE i _ 2 32 Try.underlying55 hi hz0 hz1 hz2 rfl _ _ xs rfl HX.out _ 1 1 [.int .i64 k, .slice none 0 0] rfl rfl ?c1 ?c2 (by omega) ?c3 ?c4 ?c5 ?_; fail_if_success done)
        case c1 => rw [← hsw]; exact cells_fresh _ [_, _] _
        case c2 =>
          intro u hu
          simp only [List.mem_cons, List.not_mem_nil, or_false] at hu
          rcases hu with rfl | rfl <;> rfl
        case c3 => simp only [maxLen]; omega
        case c4 => omega
        case c5 => exact HE6.out.size
        intro v7 w7 hrow7 hg7 hb7
        have hgr := DrB.grown (M := M) HX.out hg7 (by have := HE6.out.size; omega)
        have HE7 := Lib.hid (EvAt.mk (HE6.out.st.same (hg7.block M HE6.out.st.lt (fun e => by have := (HX.out.lt M e.symm).1; omega))) (HE6.out.fr.trans' (hgr.weak (Nat.le_succ _)) hMw) ((hg7.block _ HE6.out.size (fun e => by have := (HX.out.lt _ e.symm).1; omega)).trans HE6.out.blk) (hgr.out HE6.out.base (by have := HE6.out.hM; omega) HE6.out.hM.2) HE6.out.hM)
        have HROW7 := Lib.hid (EndRow.push (e := ⟨k, []⟩) HEl.out (HasRow.nil _ _ _ _) hgr.caps hrow7)
        clear hrow7 hg7 hb7 hgr HX HEl HE6
        go_wp2_with fail
        go_roundw
        case rel => exact ⟨k + 1, _, _, rfl, by simp, ⟨by omega, by omega, by omega⟩, by rw [arbE_succ s a k h1 hk, HACC.out], HE7.out, HROW7.out⟩
        case measure => simp [intOf]; omega
      · have hless : less (some (b - (k - a))) = none := by rw [show b - (k - a) = 0 by omega]; rfl
        rw [hless] at hn5
        have t5 : (less (some (b - (k - a)))).isSome = false := by rw [hless]; rfl
        have HD5 := Lib.hid (HEV.out.fr.trans hd5)
        have HN5 := Lib.hid hn5
        clear hn5 hd5 hless
        go_wp2_with fail
        go_ret2
        exact evPost_none (by rw [ev_arb, if_neg (by rw [arbE_len]; omega)]) (EndRow.nil _ _) (LB.nil _) HD5.out HN5.out _
    · have t1 : decide ((k : Int) ≤ s.size) = false := decide_eq_false (by omega)
      have t1' : decide (k ≤ s.size) = false := decide_eq_false (by omega)
      have hke : k = s.size + 1 := by omega
      have hev := HEV.out
      have hlen := arbE_len s a
      have hacc : acc = arbE s a := by rw [HACC.out, hke, show s.size + 1 - a = (arbE s a).length by omega, List.take_length]
      rw [hke, show s.size + 1 - a = (arbE s a).length by omega] at hev
      have HROW1 := Lib.hid (HROW.out.weak (b2 := w.heap.size) (by omega))
      have HEV1 := Lib.hid hev
      have HACC1 := Lib.hid hacc
      clear hev hke hacc
      go_wp2_with fail
      go_ret2
      exact evPost_some (by rw [ev_arb, if_pos (by omega), HACC1.out]) HROW1.out HEV1.out.fr HEV1.out.st

theorem NSt.zero {x : World} {M : Nat} {dA : Option Addr} {dn dc : Nat} {s : ByteArray} {ob : Option Nat} (h : NSt x M dA dn dc s ob) : x.cell? ⟨M, 0, none⟩ = some (.slice dA dn dc) := by
  cases ob with
  | none => obtain ⟨k, h⟩ := h; exact (cells_n h).1
  | some b => exact (cells_n h.2).1
theorem later_drawn {w0 x y : World} {M : Nat} (h : Later w0 x) (hd : Drawn M x y) (hM : w0.heap.size ≤ M) : Later w0 y :=
  ⟨hd.below.os.trans h.os, hd.below.tape.trans h.tape, hd.below.output.trans h.output, Nat.le_trans h.size hd.below.size, fun k hk => (hd.other k (Nat.lt_of_lt_of_le hk h.size) (by omega)).trans (h.block k hk)⟩
set_option maxRecDepth 100000 in
set_option maxHeartbeats 4000000 in
theorem eval_defer {w0 w : World} {M : Nat} {dA : Option Addr} {dn dc : Nat} {s : ByteArray} {defs : List Pat} {n b a : Nat} {text : ByteArray} {num lo hi : Int} {l : Nat} {kids : List Pat} {A : Option Addr} {c : Nat} {i : Nat}
    (hst : NSt w M dA dn dc s (some (b + 1))) (hl : Later w0 w) (hM : w0.heap.size ≤ M) (hs : s.size ≤ 120) (ha : a ≤ s.size) (ih : ∀ (p : Pat) (kv : Value), valid p dn = true → KidsIn w0 p kv → EvalIs w0 M dA dn dc defs s n p kv) (hbn : b < n) (hdn : dn = defs.length) (hnum : num = (i : Int)) (hil : i < defs.length) (hdefs : RowIn w0 dA 0 defs) (hvd : valid defs[i] dn = true) :
    Calls Try.prog 57 #[.pointer (some ⟨M, 0, none⟩), patV 20 text num lo hi (.slice A l c), .int .i64 a] w (EvPost w M dA dn dc s (b + 1) (ev defs s (n + 1) (b + 1) (.mk 20 text num lo hi kids) a)) := by
  subst hnum
  have HR := Lib.hid hdefs
  have hi' : (i : Int) < dn := by omega
  clear hdefs
  have HIH := Lib.hid ih
  clear ih
  have HS := Lib.hid hst
  have hMlt := hst.lt
  have hb3000 := hst.1
  skip
  have HE := Lib.hid (EvAt.start hst hl hM (.cells #[.int .i64 20, .string text, .int .i64 (i : Int), .int .i64 lo, .int .i64 hi, .slice A l c] TP))
  clear hst hl
  go_enter Try.func57, Try.ntmps57
  go_wp2_with fail
  refine (implStep_any M dA dn dc s (some (b + 1)) _ HE.out.st).mono ?_
  rintro e w1 ⟨rfl, hn1, hd1, _⟩
  have HE1 := Lib.hid (HE.out.drawn hd1 (b' := b) hn1)
  have t4 : (less (some (b + 1))).isSome = true := rfl
  clear hn1 hd1 HE
  go_wp2_with fail
  -- region 3: 14 operations, the last []
  refine wpU_begin [] [] (by kernel_rfl) (fun w2 hw2 => ?_)
  have HE2 := Lib.hid (HE1.out.later (drew_later hw2))
  clear hw2 HE1
  refine wpU_take 0 (some 30) (v := ?_) rfl rfl (by kernel_rfl) (fun _ _ _ h => h) rfl (fun x hx => ?_) ?_
  rotate_left 1
  · obtain ⟨m0, m1, m2, m3⟩ := cells_n (HE2.out.st.later hx).2; obtain ⟨p0, p1, p2, p3, p4, p5⟩ := cells_p (hx.has HE2.out.blk); go_simp; first | done | with_reducible rfl | rw [if_neg (by omega)] | rw [if_pos (by omega)]
  simp only [Act.put, nA, nB, nC]
  refine wpU_take 1 (some 31) (v := ?_) rfl rfl (by kernel_rfl) (fun _ _ _ h => h) rfl (fun x hx => ?_) ?_
  rotate_left 1
  · go_simp; first | done | with_reducible rfl | rw [if_neg (by omega)] | rw [if_pos (by omega)]
  simp only [Act.put, nA, nB, nC]
  refine wpU_take 2 (some 32) (v := ?_) rfl rfl (by kernel_rfl) (fun _ _ _ h => h) rfl (fun x hx => ?_) ?_
  rotate_left 1
  · go_simp; first | done | with_reducible rfl | rw [if_neg (by omega)] | rw [if_pos (by omega)]
  simp only [Act.put, nA, nB, nC]
  refine wpU_take 3 (some 33) (v := ?_) rfl rfl (by kernel_rfl) (fun _ _ _ h => h) rfl (fun x hx => ?_) ?_
  rotate_left 1
  · go_simp; first | done | with_reducible rfl | rw [if_neg (by omega)] | rw [if_pos (by omega)]
  simp only [Act.put, nA, nB, nC]
  refine wpU_take 4 (some 34) (v := ?_) rfl rfl (by kernel_rfl) (fun _ _ _ h => h) rfl (fun x hx => ?_) ?_
  rotate_left 1
  · obtain ⟨m0, m1, m2, m3⟩ := cells_n (HE2.out.st.later hx).2; obtain ⟨p0, p1, p2, p3, p4, p5⟩ := cells_p (hx.has HE2.out.blk); go_simp; first | done | with_reducible rfl | rw [if_neg (by omega)] | rw [if_pos (by omega)]
  simp only [Act.put, nA, nB, nC]
  refine wpU_take 5 (some 35) (v := ?_) rfl rfl (by kernel_rfl) (fun _ _ _ h => h) rfl (fun x hx => ?_) ?_
  rotate_left 1
  · go_simp; first | done | with_reducible rfl | rw [if_neg (by omega)] | rw [if_pos (by omega)]
  simp only [Act.put, nA, nB, nC]
  refine wpU_step 6 (by kernel_rfl) rfl rfl ?_  -- call value (Go.Operand.func 78)
  go_wp2_with fail
  refine (simple_else text (i : Int) lo hi A l c s a _ 20 (by omega)).mono ?_
  rintro e w3 ⟨rfl, hb3⟩
  go_wp2_with fail
  refine ⟨hb3, ?_⟩
  have HE3 := Lib.hid (HE2.out.later hb3)
  clear HE2 hb3
  refine wpU_take 7 (some 29) (v := ?_) rfl rfl (by kernel_rfl) (fun _ _ _ h => h) rfl (fun x hx => ?_) ?_
  rotate_left 1
  · go_simp; first | done | with_reducible rfl | rw [if_neg (by omega)] | rw [if_pos (by omega)]
  simp only [Act.put, nA, nB, nC]
  refine wpU_take 8 (some 37) (v := ?_) rfl rfl (by kernel_rfl) (fun _ _ _ h => h) rfl (fun x hx => ?_) ?_
  rotate_left 1
  · go_simp; first | done | with_reducible rfl | rw [if_neg (by omega)] | rw [if_pos (by omega)]
  simp only [Act.put, nA, nB, nC]
  refine wpU_take 9 (some 38) (v := ?_) rfl rfl (by kernel_rfl) (fun _ _ _ h => h) rfl (fun x hx => ?_) ?_
  rotate_left 1
  · go_simp; first | done | with_reducible rfl | rw [if_neg (by omega)] | rw [if_pos (by omega)]
  simp only [Act.put, nA, nB, nC]
  refine wpU_take 10 (some 39) (v := ?_) rfl rfl (by kernel_rfl) (fun _ _ _ h => h) rfl (fun x hx => ?_) ?_
  rotate_left 1
  · go_simp; first | done | with_reducible rfl | rw [if_neg (by omega)] | rw [if_pos (by omega)]
  simp only [Act.put, nA, nB, nC]
  refine wpU_take 11 (some 8) (v := ?_) rfl rfl (by kernel_rfl) (fun _ _ _ h => h) rfl (fun x hx => ?_) ?_
  rotate_left 1
  · go_simp; first | done | with_reducible rfl | rw [if_neg (by omega)] | rw [if_pos (by omega)]
  simp only [Act.put, nA, nB, nC]
  refine wpU_take 12 (some 9) (v := ?_) rfl rfl (by kernel_rfl) (fun _ _ _ h => h) rfl (fun x hx => ?_) ?_
  rotate_left 1
  · go_simp; first | done | with_reducible rfl | rw [if_neg (by omega)] | rw [if_pos (by omega)]
  simp only [Act.put, nA, nB, nC]
  refine wpU_take 13 (some 10) (v := ?_) rfl rfl (by kernel_rfl) (fun _ _ _ h => h) rfl (fun x hx => ?_) ?_
  rotate_left 1
  · go_simp; first | done | with_reducible rfl | rw [if_neg (by omega)] | rw [if_pos (by omega)]
  simp only [Act.put, nA, nB, nC]
  refine wpU_last [] (by kernel_rfl) rfl rfl ?_
  obtain ⟨p0, p1, p2, p3, p4, p5⟩ := cells_p HE3.out.blk
  go_wp2_with fail
  clear p0 p1 p2 p3 p4 p5
  -- region 50: 15 operations, the last []
  refine wpV_begin [] [] (fun x => Drawn M w3 x ∧ ∃ ob, NSt x M dA dn dc s ob) (by kernel_rfl) (fun w4 hw4 => ?_)
  have HE4 := Lib.hid (HE3.out.later (drew_later hw4))
  obtain ⟨g0, kA0, kc0, hA0, hk0, he0⟩ := kid_cells HR.out hil (Below.refl _ _)
  have HK0 := Lib.hid hk0
  have HE0 := Lib.hid he0
  have hBM : w.heap.size ≠ M := by have := HE4.out.hM; omega
  have HS : Hid (Drawn M w3 w4 ∧ ∃ ob, NSt w4 M dA dn dc s ob) := Lib.hid ⟨Drawn.later (drew_later hw4) (Nat.le_of_lt HE3.out.st.lt), _, HE4.out.st⟩
  clear hw4 hk0 he0
  subst hA0
  refine wpV_take 0 (some 219) (v := ?_) rfl rfl (by kernel_rfl) (fun _ _ _ h => h) rfl HS.out (fun x hx => ?_) ?_
  rotate_left 1
  · go_simp; first | done | with_reducible rfl | rw [if_neg (by omega)] | rw [if_pos (by omega)]
  simp only [Act.put, nA, nB, nC]
  refine wpV_take 1 (some 220) (v := ?_) rfl rfl (by kernel_rfl) (fun _ _ _ h => h) rfl HS.out (fun x hx => ?_) ?_
  rotate_left 1
  · go_simp; first | done | with_reducible rfl | rw [if_neg (by omega)] | rw [if_pos (by omega)]
  simp only [Act.put, nA, nB, nC]
  refine wpV_take 2 (some 221) (v := ?_) rfl rfl (by kernel_rfl) (fun _ _ _ h => h) rfl HS.out (fun x hx => ?_) ?_
  rotate_left 1
  · go_simp; first | done | with_reducible rfl | rw [if_neg (by omega)] | rw [if_pos (by omega)]
  simp only [Act.put, nA, nB, nC]
  refine wpV_take 3 (some 222) (v := ?_) rfl rfl (by kernel_rfl) (fun _ _ _ h => h) rfl HS.out (fun x hx => ?_) ?_
  rotate_left 1
  · go_simp; first | done | with_reducible rfl | rw [if_neg (by omega)] | rw [if_pos (by omega)]
  simp only [Act.put, nA, nB, nC]
  refine wpV_take 4 (some 223) (v := ?_) rfl rfl (by kernel_rfl) (fun _ _ _ h => h) rfl HS.out (fun x hx => ?_) ?_
  rotate_left 1
  · have m0 := NSt.zero hx.2.choose_spec; obtain ⟨p0, p1, p2, p3, p4, p5⟩ := cells_p (hx.1.has HE3.out.blk hBM); obtain ⟨e00, e01, e02, e03, e04, e05⟩ := HE0.out.below (later_drawn HE3.out.base hx.1 HE3.out.hM.2); go_simp; first | done | with_reducible rfl | rw [if_neg (by omega)] | rw [if_pos (by omega)]
  simp only [Act.put, nA, nB, nC]
  refine wpV_take 5 (some 224) (v := ?_) rfl rfl (by kernel_rfl) (fun _ _ _ h => h) rfl HS.out (fun x hx => ?_) ?_
  rotate_left 1
  · go_simp; first | done | with_reducible rfl | rw [if_neg (by omega)] | rw [if_pos (by omega)]
  simp only [Act.put, nA, nB, nC]
  refine wpV_take 6 (some 225) (v := ?_) rfl rfl (by kernel_rfl) (fun _ _ _ h => h) rfl HS.out (fun x hx => ?_) ?_
  rotate_left 1
  · have m0 := NSt.zero hx.2.choose_spec; obtain ⟨p0, p1, p2, p3, p4, p5⟩ := cells_p (hx.1.has HE3.out.blk hBM); obtain ⟨e00, e01, e02, e03, e04, e05⟩ := HE0.out.below (later_drawn HE3.out.base hx.1 HE3.out.hM.2); go_simp; first | done | with_reducible rfl | rw [if_neg (by omega)] | rw [if_pos (by omega)]
  simp only [Act.put, nA, nB, nC]
  refine wpV_take 7 (some 226) (v := ?_) rfl rfl (by kernel_rfl) (fun _ _ _ h => h) rfl HS.out (fun x hx => ?_) ?_
  rotate_left 1
  · go_simp; first | done | with_reducible rfl | rw [if_neg (by omega)] | rw [if_pos (by omega)]
  simp only [Act.put, nA, nB, nC]
  refine wpV_take 8 (some 227) (v := ?_) rfl rfl (by kernel_rfl) (fun _ _ _ h => h) rfl HS.out (fun x hx => ?_) ?_
  rotate_left 1
  · have m0 := NSt.zero hx.2.choose_spec; obtain ⟨p0, p1, p2, p3, p4, p5⟩ := cells_p (hx.1.has HE3.out.blk hBM); obtain ⟨e00, e01, e02, e03, e04, e05⟩ := HE0.out.below (later_drawn HE3.out.base hx.1 HE3.out.hM.2); go_simp; first | done | with_reducible rfl | rw [if_neg (by omega)] | rw [if_pos (by omega)]
  simp only [Act.put, nA, nB, nC]
  refine wpV_take 9 (some 228) (v := ?_) rfl rfl (by kernel_rfl) (fun _ _ _ h => h) rfl HS.out (fun x hx => ?_) ?_
  rotate_left 1
  · go_simp; first | done | with_reducible rfl | rw [if_neg (by omega)] | rw [if_pos (by omega)]
  simp only [Act.put, nA, nB, nC]
  refine wpV_step 10 (by kernel_rfl) rfl rfl ?_
  go_wp2_with fail
  refine (HIH.out defs[i] _ hvd HK0.out b a w4 (by omega) ha HE4.out.base HE4.out.st).mono ?_
  rintro e w5 ⟨v5, st5, rfl, hd5, hpost5⟩
  have HS5 : Hid (Drawn M w3 w5 ∧ ∃ ob, NSt w5 M (some ⟨g0, 0, none⟩) dn dc s ob) := Lib.hid ⟨HS.out.1.trans hd5, by
    cases hr : ev defs s n b defs[i] a with
    | none => rw [hr] at hpost5; exact ⟨_, hpost5.2⟩
    | some r => obtain ⟨l, st, b1⟩ := r; rw [hr] at hpost5; exact ⟨_, hpost5.2.2⟩⟩
  have HP5 := Lib.hid hpost5
  clear hd5 hpost5 HS
  have HS := Lib.hid HS5.out
  clear HS5
  go_wp2_with fail
  refine ⟨HS.out, ?_⟩
  refine wpV_take 11 (some 230) (v := ?_) rfl rfl (by kernel_rfl) (fun _ _ _ h => h) rfl HS.out (fun x hx => ?_) ?_
  rotate_left 1
  · go_simp; first | done | with_reducible rfl | rw [if_neg (by omega)] | rw [if_pos (by omega)]
  simp only [Act.put, nA, nB, nC]
  refine wpV_take 12 (some 231) (v := ?_) rfl rfl (by kernel_rfl) (fun _ _ _ h => h) rfl HS.out (fun x hx => ?_) ?_
  rotate_left 1
  · go_simp; first | done | with_reducible rfl | rw [if_neg (by omega)] | rw [if_pos (by omega)]
  simp only [Act.put, nA, nB, nC]
  refine wpV_take 13 (some 6) (v := ?_) rfl rfl (by kernel_rfl) (fun _ _ _ h => h) rfl HS.out (fun x hx => ?_) ?_
  rotate_left 1
  · go_simp; first | done | with_reducible rfl | rw [if_neg (by omega)] | rw [if_pos (by omega)]
  simp only [Act.put, nA, nB, nC]
  refine wpV_take 14 (some 7) (v := ?_) rfl rfl (by kernel_rfl) (fun _ _ _ h => h) rfl HS.out (fun x hx => ?_) ?_
  rotate_left 1
  · go_simp; first | done | with_reducible rfl | rw [if_neg (by omega)] | rw [if_pos (by omega)]
  simp only [Act.put, nA, nB, nC]
  refine wpV_last [] (by kernel_rfl) rfl rfl ?_
  go_wp2_with fail
  go_ret2
  have hsz := HE4.out.size
  have hd5 := HE3.out.fr.trans HS.out.1
  have hpost5 := HP5.out
  cases hr : ev defs s n b defs[i] a with
  | none =>
    rw [hr] at hpost5
    obtain ⟨⟨l, hrow, hlb⟩, hst5⟩ := hpost5
    exact evPost_none (by rw [ev_defer _ _ _ _ _ _ _ _ _ _ hil]; exact hr) (hrow.weak (Nat.le_of_lt hsz)) (hlb.mono (Nat.le_succ b)) hd5 hst5 _
  | some r =>
    obtain ⟨l, st, b1⟩ := r
    rw [hr] at hpost5
    obtain ⟨rfl, hrow, hst5⟩ := hpost5
    exact evPost_some (by rw [ev_defer _ _ _ _ _ _ _ _ _ _ hil]; exact hr) (hrow.weak (Nat.le_of_lt hsz)) hd5 hst5
end Go.Proofs.Ytndefbecoahfhaa

/- impl's eval: the assigned pattern. Printed by gen_endeval.py. -/
namespace Go.Proofs.Ytndefbecoahfhaa
open Go.RowKit

/-- The loop that adds the capture; the budget is as it was. -/
structure AsSt (w : World) (M : Nat) (dA : Option Addr) (dn dc : Nat) (s : ByteArray) (po : Obj) (num : Int) (a : Nat) (ob : Option Nat) (l : List End) (v2 : Value) (j : Nat) (acc : List End) (lv : Value) (x : World) : Prop where
  le : j ≤ l.length
  acc_eq : acc = (assignE num a l).take j
  st : NSt x M dA dn dc s ob
  fr : Drawn M w x
  blk : x.heap[w.heap.size]? = some po
  row : EndRow (w.heap.size + 1) x acc lv
  sec : EndRow 0 x l v2
  apart : ∀ g, v2.ownBlock = some g → lv.ownBlock ≠ some g ∧ g < x.heap.size
  hM : M < w.heap.size
section
variable {w : World} {M : Nat} {dA : Option Addr} {dn dc : Nat} {s : ByteArray} {po : Obj} {num : Int} {a : Nat} {ob : Option Nat} {l : List End} {v2 : Value} {j : Nat} {acc : List End} {lv : Value} {x y : World}
theorem AsSt.size (h : AsSt w M dA dn dc s po num a ob l v2 j acc lv x) : w.heap.size < x.heap.size := has_lt' h.blk
theorem AsSt.later (h : AsSt w M dA dn dc s po num a ob l v2 j acc lv x) (hl : Later x y) : AsSt w M dA dn dc s po num a ob l v2 j acc lv y :=
  ⟨h.le, h.acc_eq, h.st.later hl, h.fr.trans (Drawn.later hl (Nat.le_of_lt h.st.lt)), hl.has h.blk, h.row.later hl, h.sec.later hl, fun g hg => ⟨(h.apart g hg).1, Nat.lt_of_lt_of_le (h.apart g hg).2 hl.size⟩, h.hM⟩
theorem assignE_len (num : Int) (a : Nat) (l : List End) : (assignE num a l).length = l.length := by simp [assignE]
theorem assignE_succ (num : Int) (a : Nat) (l : List End) (j : Nat) (h : j < l.length) : (assignE num a l).take (j + 1) = (assignE num a l).take j ++ [⟨l[j].at_, l[j].caps ++ [⟨num, a, l[j].at_⟩]⟩] := by
  rw [List.take_succ_eq_append_getElem (by rw [assignE_len]; omega)]
  congr 2
  simp [assignE]
theorem AsSt.push {xs : List Value} {cv v' : Value} (h : AsSt w M dA dn dc s po num a ob l v2 j acc lv x) (hlt : j < l.length) (hx : HasRow x (w.heap.size + 1) TE 2 lv acc.length xs) (he : ElemsE x acc xs)
    (hc : HasRow x 0 TK 3 cv (l[j].caps.length + 1) (capCells (l[j].caps ++ [⟨num, a, l[j].at_⟩])))
    (hrow : HasRow y (w.heap.size + 1) TE 2 v' (acc.length + 1) (xs ++ [.int .i64 l[j].at_, cv])) (hg : x.grownBy y lv.ownBlock) (hb : v'.ownBlock = lv.ownBlock ∨ v'.ownBlock = some x.heap.size) :
    AsSt w M dA dn dc s po num a ob l v2 (j + 1) (acc ++ [⟨l[j].at_, l[j].caps ++ [⟨num, a, l[j].at_⟩]⟩]) v' y := by
  have hsz := h.size
  have hM := h.hM
  have hgr := DrB.grown (M := M) hx hg (by omega)
  refine ⟨hlt, by rw [assignE_succ num a l j hlt, h.acc_eq], h.st.same (hg.block M h.st.lt (fun e => by have := (hx.lt M e.symm).1; omega)), h.fr.trans' (hgr.weak (Nat.le_succ _)) hM, (hg.block _ hsz (fun e => by have := (hx.lt _ e.symm).1; omega)).trans h.blk, ?_, h.sec.same hgr.caps (fun g _ h2 h3 => hg.block g h2 (fun e => (h.apart g h3).1 e.symm)), fun g hgg => ⟨?_, Nat.lt_of_lt_of_le (h.apart g hgg).2 hg.size⟩, hM⟩
  · exact EndRow.push (e := ⟨l[j].at_, l[j].caps ++ [⟨num, a, l[j].at_⟩]⟩) he (by simpa using hc) hgr.caps hrow
  · rcases hb with hb | hb
    · rw [hb]; exact (h.apart g hgg).1
    · rw [hb]; intro e; cases e; have := (h.apart _ hgg).2; omega
end
theorem HasRow.fresh (w : World) (e : TypeId) (size base n : Nat) (cs : List Value) (B : Nat) (hB : B = w.heap.size) (hl : cs.length = n * size) (hb : base ≤ w.heap.size) (hn : n ≤ maxLen) : HasRow (w.alloc (.cells cs.toArray e)) base e size (.slice (some ⟨B, 0, none⟩) n n) n cs := by
  subst hB
  exact ⟨hl, .inr ⟨w.heap.size, n, _, rfl, hb, heap_alloc_new w _, Nat.le_refl _, hn, by simp [hl], by simp [← hl]⟩⟩
theorem assignE_lb {num : Int} {a : Nat} {l : List End} {b : Nat} (h : LB l b) : LB (assignE num a l) (b + 1) := ⟨by rw [assignE_len]; have := h.1; omega, fun e he => by
  obtain ⟨y, hy, rfl⟩ := List.mem_map.1 he
  have := h.2 y hy
  simp
  omega⟩
set_option maxRecDepth 100000 in
set_option maxHeartbeats 4000000 in
theorem eval_assign {w0 w : World} {M : Nat} {dA : Option Addr} {dn dc : Nat} {s : ByteArray} {defs : List Pat} {n b a : Nat} {text : ByteArray} {num lo hi : Int} {k0 : Pat} {A : Option Addr} {c : Nat} 
    (hst : NSt w M dA dn dc s (some (b + 1))) (hl : Later w0 w) (hM : w0.heap.size ≤ M) (hs : s.size ≤ 120) (ha : a ≤ s.size) (hkid : KidsIn w0 (.mk 16 text num lo hi [k0]) (.slice A 1 c)) (ih : ∀ (p : Pat) (kv : Value), valid p dn = true → KidsIn w0 p kv → EvalIs w0 M dA dn dc defs s n p kv) (hbn : b < n) (hv0 : valid k0 dn = true) :
    Calls Try.prog 57 #[.pointer (some ⟨M, 0, none⟩), patV 16 text num lo hi (.slice A 1 c), .int .i64 a] w (EvPost w M dA dn dc s (b + 1) (ev defs s (n + 1) (b + 1) (.mk 16 text num lo hi [k0]) a)) := by
  have HIH := Lib.hid ih
  clear ih
  have HS := Lib.hid hst
  have hMlt := hst.lt
  have hb3000 := hst.1
  have HR := Lib.hid (kids_row hkid)
  have HKID := Lib.hid hkid
  clear hkid
  have HE := Lib.hid (EvAt.start hst hl hM (.cells #[.int .i64 16, .string text, .int .i64 num, .int .i64 lo, .int .i64 hi, .slice A 1 c] TP))
  clear hst hl
  go_enter Try.func57, Try.ntmps57
  go_wp2_with fail
  refine (implStep_any M dA dn dc s (some (b + 1)) _ HE.out.st).mono ?_
  rintro e w1 ⟨rfl, hn1, hd1, _⟩
  have HE1 := Lib.hid (HE.out.drawn hd1 (b' := b) hn1)
  have t4 : (less (some (b + 1))).isSome = true := rfl
  clear hn1 hd1 HE
  go_wp2_with fail
  -- region 3: 14 operations, the last []
  refine wpU_begin [] [] (by kernel_rfl) (fun w2 hw2 => ?_)
  have HE2 := Lib.hid (HE1.out.later (drew_later hw2))
  clear hw2 HE1
  refine wpU_take 0 (some 30) (v := ?_) rfl rfl (by kernel_rfl) (fun _ _ _ h => h) rfl (fun x hx => ?_) ?_
  rotate_left 1
  · obtain ⟨m0, m1, m2, m3⟩ := cells_n (HE2.out.st.later hx).2; obtain ⟨p0, p1, p2, p3, p4, p5⟩ := cells_p (hx.has HE2.out.blk); go_simp; first | done | with_reducible rfl | rw [if_neg (by omega)] | rw [if_pos (by omega)]
  simp only [Act.put, nA, nB, nC]
  refine wpU_take 1 (some 31) (v := ?_) rfl rfl (by kernel_rfl) (fun _ _ _ h => h) rfl (fun x hx => ?_) ?_
  rotate_left 1
  · go_simp; first | done | with_reducible rfl | rw [if_neg (by omega)] | rw [if_pos (by omega)]
  simp only [Act.put, nA, nB, nC]
  refine wpU_take 2 (some 32) (v := ?_) rfl rfl (by kernel_rfl) (fun _ _ _ h => h) rfl (fun x hx => ?_) ?_
  rotate_left 1
  · go_simp; first | done | with_reducible rfl | rw [if_neg (by omega)] | rw [if_pos (by omega)]
  simp only [Act.put, nA, nB, nC]
  refine wpU_take 3 (some 33) (v := ?_) rfl rfl (by kernel_rfl) (fun _ _ _ h => h) rfl (fun x hx => ?_) ?_
  rotate_left 1
  · go_simp; first | done | with_reducible rfl | rw [if_neg (by omega)] | rw [if_pos (by omega)]
  simp only [Act.put, nA, nB, nC]
  refine wpU_take 4 (some 34) (v := ?_) rfl rfl (by kernel_rfl) (fun _ _ _ h => h) rfl (fun x hx => ?_) ?_
  rotate_left 1
  · obtain ⟨m0, m1, m2, m3⟩ := cells_n (HE2.out.st.later hx).2; obtain ⟨p0, p1, p2, p3, p4, p5⟩ := cells_p (hx.has HE2.out.blk); go_simp; first | done | with_reducible rfl | rw [if_neg (by omega)] | rw [if_pos (by omega)]
  simp only [Act.put, nA, nB, nC]
  refine wpU_take 5 (some 35) (v := ?_) rfl rfl (by kernel_rfl) (fun _ _ _ h => h) rfl (fun x hx => ?_) ?_
  rotate_left 1
  · go_simp; first | done | with_reducible rfl | rw [if_neg (by omega)] | rw [if_pos (by omega)]
  simp only [Act.put, nA, nB, nC]
  refine wpU_step 6 (by kernel_rfl) rfl rfl ?_  -- call value (Go.Operand.func 78)
  go_wp2_with fail
  refine (simple_else text num lo hi A 1 c s a _ 16 (by omega)).mono ?_
  rintro e w3 ⟨rfl, hb3⟩
  go_wp2_with fail
  refine ⟨hb3, ?_⟩
  have HE3 := Lib.hid (HE2.out.later hb3)
  clear HE2 hb3
  refine wpU_take 7 (some 29) (v := ?_) rfl rfl (by kernel_rfl) (fun _ _ _ h => h) rfl (fun x hx => ?_) ?_
  rotate_left 1
  · go_simp; first | done | with_reducible rfl | rw [if_neg (by omega)] | rw [if_pos (by omega)]
  simp only [Act.put, nA, nB, nC]
  refine wpU_take 8 (some 37) (v := ?_) rfl rfl (by kernel_rfl) (fun _ _ _ h => h) rfl (fun x hx => ?_) ?_
  rotate_left 1
  · go_simp; first | done | with_reducible rfl | rw [if_neg (by omega)] | rw [if_pos (by omega)]
  simp only [Act.put, nA, nB, nC]
  refine wpU_take 9 (some 38) (v := ?_) rfl rfl (by kernel_rfl) (fun _ _ _ h => h) rfl (fun x hx => ?_) ?_
  rotate_left 1
  · go_simp; first | done | with_reducible rfl | rw [if_neg (by omega)] | rw [if_pos (by omega)]
  simp only [Act.put, nA, nB, nC]
  refine wpU_take 10 (some 39) (v := ?_) rfl rfl (by kernel_rfl) (fun _ _ _ h => h) rfl (fun x hx => ?_) ?_
  rotate_left 1
  · go_simp; first | done | with_reducible rfl | rw [if_neg (by omega)] | rw [if_pos (by omega)]
  simp only [Act.put, nA, nB, nC]
  refine wpU_take 11 (some 8) (v := ?_) rfl rfl (by kernel_rfl) (fun _ _ _ h => h) rfl (fun x hx => ?_) ?_
  rotate_left 1
  · go_simp; first | done | with_reducible rfl | rw [if_neg (by omega)] | rw [if_pos (by omega)]
  simp only [Act.put, nA, nB, nC]
  refine wpU_take 12 (some 9) (v := ?_) rfl rfl (by kernel_rfl) (fun _ _ _ h => h) rfl (fun x hx => ?_) ?_
  rotate_left 1
  · go_simp; first | done | with_reducible rfl | rw [if_neg (by omega)] | rw [if_pos (by omega)]
  simp only [Act.put, nA, nB, nC]
  refine wpU_take 13 (some 10) (v := ?_) rfl rfl (by kernel_rfl) (fun _ _ _ h => h) rfl (fun x hx => ?_) ?_
  rotate_left 1
  · go_simp; first | done | with_reducible rfl | rw [if_neg (by omega)] | rw [if_pos (by omega)]
  simp only [Act.put, nA, nB, nC]
  refine wpU_last [] (by kernel_rfl) rfl rfl ?_
  obtain ⟨p0, p1, p2, p3, p4, p5⟩ := cells_p HE3.out.blk
  obtain ⟨g0, kA0, kc0, hA0, hk0, he0⟩ := kid_cells HR.out (j := 0) (by simp) HE3.out.base
  simp only [List.getElem_cons_zero] at hk0 he0
  obtain ⟨e00, e01, e02, e03, e04, e05⟩ := he0
  simp only [Nat.zero_mul, Nat.zero_add] at e00 e01 e02 e03 e04 e05
  have HK0 := Lib.hid hk0
  clear hk0
  subst hA0
  go_wp2_with fail
  refine (HIH.out k0 _ hv0 HK0.out b a w3 (by omega) ha HE3.out.base HE3.out.st).mono ?_
  rintro e w4 ⟨v4, st4, rfl, hd4, hpost4⟩
  obtain ⟨l, ob, hrow, hst4, hl3, hfin⟩ : ∃ l ob, EndRow w3.heap.size w4 l v4 ∧ NSt w4 M dA dn dc s ob ∧ LB l b ∧ (∀ x v, EndRow (w.heap.size + 1) x (assignE num a l) v → Drawn M w x → NSt x M dA dn dc s ob → EvPost w M dA dn dc s (b + 1) (ev defs s (n + 1) (b + 1) (.mk 16 text num lo hi [k0]) a) (.returned (.tuple #[v, .bool st4])) x) := by
    cases hr : ev defs s n b k0 a with
    | none =>
      rw [hr] at hpost4
      obtain ⟨⟨l, hrow, hlb⟩, hst4⟩ := hpost4
      exact ⟨l, none, hrow, hst4, hlb, fun x v h1 h2 h3 => evPost_none (by rw [ev_assign, hr]) (h1.weak (Nat.le_succ _)) (assignE_lb hlb) h2 h3 _⟩
    | some r =>
      obtain ⟨l, st, b1⟩ := r
      rw [hr] at hpost4
      obtain ⟨rfl, hrow, hst4⟩ := hpost4
      obtain ⟨hb1, hlb⟩ := ev_len n b k0 a l st4 b1 hr
      exact ⟨l, some b1, hrow, hst4, hlb.mono (Nat.sub_le _ _), fun x v h1 h2 h3 => evPost_some (by rw [ev_assign, hr]) (h1.weak (Nat.le_succ _)) h2 h3⟩
  have hlen := hl3.1
  have HLB := Lib.hid hl3.2
  have HFIN := Lib.hid hfin
  have hMw := HE3.out.hM.1
  have hsz := HE3.out.size
  have hle4 := Later.alloc (Later.refl w4) (.cells #[] TE)
  have hd5 : Drawn M w w4 := HE3.out.fr.trans hd4
  have HA : Hid (AsSt w M dA dn dc s (.cells #[.int .i64 16, .string text, .int .i64 num, .int .i64 lo, .int .i64 hi, .slice (some ⟨g0, 0, none⟩) 1 c] TP (0, 0)) num a ob l v4 0 [] (.slice (some ⟨w4.heap.size, 0, none⟩) 0 0) (w4.alloc (.cells #[] TE))) := Lib.hid ⟨Nat.zero_le _, rfl, hst4.later hle4, hd5.trans (Drawn.later hle4 (Nat.le_of_lt hst4.lt)), hle4.has (hd4.has HE3.out.blk (by omega)), EndRow.empty _ _ _ (by have := hd4.below.size; omega) (heap_alloc_new w4 _), (hrow.weak (Nat.zero_le _)).later hle4, fun g hg => (by
      obtain ⟨xs, hx, _⟩ := hrow
      have h1 := (hx.lt g hg).2.1
      refine ⟨fun e => ?_, Nat.lt_of_lt_of_le h1 hle4.size⟩
      have e : some w4.heap.size = some g := e
      cases e
      omega), hMw⟩
  obtain ⟨vA, vc, rfl, _, _⟩ := hrow.form
  clear hpost4 hrow hst4 hl3 hfin hle4 hd4 hd5 HE3 HIH hv0 HK0
  go_wp2_with fail
  clear p0 p1 p2 p3 p4 p5 e00 e01 e02 e03 e04 e05
  go_loopw [173, 23] (fun i v wx => ∃ (j : Nat) (acc : List End) (lv : Value), lv = v ∧ i = .int .i64 j ∧ AsSt w M dA dn dc s (.cells #[.int .i64 16, .string text, .int .i64 num, .int .i64 lo, .int .i64 hi, .slice (some ⟨g0, 0, none⟩) 1 c] TP (0, 0)) num a ob l (.slice vA l.length vc) j acc lv wx) (fun i _ _ => l.length - (intOf i).toNat)
  case atStart => exact ⟨0, _, _, rfl, rfl, HA.out⟩
  case round =>
    clear HA
    obtain ⟨j, acc, lv, rfl, rfl, has⟩ := hrel
    have HACC := Lib.hid has.acc_eq
    obtain ⟨wo, rfl⟩ : ∃ wo : World, wo = wr := ⟨_, rfl⟩
    have hjl := has.le
    have HAS := Lib.hid has
    obtain ⟨lA, lc, rfl, _, _⟩ := has.row.form
    clear has
    by_cases hj : j < l.length
    · have t1 : decide ((j : Int) < l.length) = true := decide_eq_true (by omega)
      have t1' : decide (j < l.length) = true := decide_eq_true (by omega)
      obtain ⟨g2, c2', cv2, hv2, _, hg2, a0, a1, hcv2⟩ := HAS.out.sec.cell hj
      obtain ⟨rfl, rfl⟩ : vA = some ⟨g2, 0, none⟩ ∧ vc = c2' := by simpa using hv2
      obtain ⟨cA2, cc2, hcv, _, _⟩ := hcv2.form
      subst hcv
      obtain ⟨xe, hxe⟩ : ∃ xe, l[j] = xe := ⟨_, rfl⟩
      rw [hxe] at a0 a1 hcv2
      have hxc := HLB.out xe (by rw [← hxe]; exact List.getElem_mem hj)
      have HXE := Lib.hid hxe
      have hlx := Later.alloc (Later.refl wo) (.cells #[.int .i64 xe.at_, .slice cA2 xe.caps.length cc2] TE)
      have HAS5 := Lib.hid (HAS.out.later hlx)
      have HB5 := Lib.hid (heap_alloc_new wo (.cells #[.int .i64 xe.at_, .slice cA2 xe.caps.length cc2] TE))
      have HCX5 := Lib.hid (hcv2.keepT (KeepT.later hlx))
      clear hv2 hcv2 hxe hlx HAS
      go_wp2_with fail
      clear a0 a1
      -- region 40: 17 operations, the last [15, 16]
      refine wpU_begin [15, 16] [] (by kernel_rfl) (fun w6 hw6 => ?_)
      have HAS6 := Lib.hid (HAS5.out.later (drew_later hw6))
      have HB6 := Lib.hid ((drew_later hw6).has HB5.out)
      have HCX6 := Lib.hid (HCX5.out.keepT (KeepT.later (drew_later hw6)))
      clear hw6 HAS5 HB5 HCX5
      refine wpU_take 0 (some 177) (v := ?_) rfl rfl (by kernel_rfl) (fun _ _ _ h => h) rfl (fun x hx => ?_) ?_
      rotate_left 1
      · go_simp; first | done | with_reducible rfl | rw [if_neg (by omega)] | rw [if_pos (by omega)]
      simp only [Act.put, nA, nB, nC]
      refine wpU_take 1 (some 178) (v := ?_) rfl rfl (by kernel_rfl) (fun _ _ _ h => h) rfl (fun x hx => ?_) ?_
      rotate_left 1
      · go_simp; first | done | with_reducible rfl | rw [if_neg (by omega)] | rw [if_pos (by omega)]
      simp only [Act.put, nA, nB, nC]
      refine wpU_take 2 (some 179) (v := ?_) rfl rfl (by kernel_rfl) (fun _ _ _ h => h) rfl (fun x hx => ?_) ?_
      rotate_left 1
      · obtain ⟨p0, p1, p2, p3, p4, p5⟩ := cells_p (hx.has HAS6.out.blk); obtain ⟨q0, q1⟩ := cells_two (hx.has HB6.out); go_simp; first | done | with_reducible rfl | rw [if_neg (by omega)] | rw [if_pos (by omega)]
      simp only [Act.put, nA, nB, nC]
      refine wpU_take 3 (some 180) (v := ?_) rfl rfl (by kernel_rfl) (fun _ _ _ h => h) rfl (fun x hx => ?_) ?_
      rotate_left 1
      · go_simp; first | done | with_reducible rfl | rw [if_neg (by omega)] | rw [if_pos (by omega)]
      simp only [Act.put, nA, nB, nC]
      refine wpU_take 4 (some 181) (v := ?_) rfl rfl (by kernel_rfl) (fun _ _ _ h => h) rfl (fun x hx => ?_) ?_
      rotate_left 1
      · obtain ⟨p0, p1, p2, p3, p4, p5⟩ := cells_p (hx.has HAS6.out.blk); obtain ⟨q0, q1⟩ := cells_two (hx.has HB6.out); go_simp; first | done | with_reducible rfl | rw [if_neg (by omega)] | rw [if_pos (by omega)]
      simp only [Act.put, nA, nB, nC]
      refine wpU_take 5 (some 182) (v := ?_) rfl rfl (by kernel_rfl) (fun _ _ _ h => h) rfl (fun x hx => ?_) ?_
      rotate_left 1
      · go_simp; first | done | with_reducible rfl | rw [if_neg (by omega)] | rw [if_pos (by omega)]
      simp only [Act.put, nA, nB, nC]
      refine wpU_take 6 (some 183) (v := ?_) rfl rfl (by kernel_rfl) (fun _ _ _ h => h) rfl (fun x hx => ?_) ?_
      rotate_left 1
      · obtain ⟨p0, p1, p2, p3, p4, p5⟩ := cells_p (hx.has HAS6.out.blk); obtain ⟨q0, q1⟩ := cells_two (hx.has HB6.out); go_simp; first | done | with_reducible rfl | rw [if_neg (by omega)] | rw [if_pos (by omega)]
      simp only [Act.put, nA, nB, nC]
      refine wpU_take 7 (some 184) (v := ?_) rfl rfl (by kernel_rfl) (fun _ _ _ h => h) rfl (fun x hx => ?_) ?_
      rotate_left 1
      · go_simp; first | done | with_reducible rfl | rw [if_neg (by omega)] | rw [if_pos (by omega)]
      simp only [Act.put, nA, nB, nC]
      refine wpU_take 8 (some 185) (v := ?_) rfl rfl (by kernel_rfl) (fun _ _ _ h => h) rfl (fun x hx => ?_) ?_
      rotate_left 1
      · go_simp; first | done | with_reducible rfl | rw [if_neg (by omega)] | rw [if_pos (by omega)]
      simp only [Act.put, nA, nB, nC]
      refine wpU_take 9 (some 186) (v := ?_) rfl rfl (by kernel_rfl) (fun _ _ _ h => h) rfl (fun x hx => ?_) ?_
      rotate_left 1
      · obtain ⟨p0, p1, p2, p3, p4, p5⟩ := cells_p (hx.has HAS6.out.blk); obtain ⟨q0, q1⟩ := cells_two (hx.has HB6.out); go_simp; first | done | with_reducible rfl | rw [if_neg (by omega)] | rw [if_pos (by omega)]
      simp only [Act.put, nA, nB, nC]
      refine wpU_take 10 (some 187) (v := ?_) rfl rfl (by kernel_rfl) (fun _ _ _ h => h) rfl (fun x hx => ?_) ?_
      rotate_left 1
      · go_simp; first | done | with_reducible rfl | rw [if_neg (by omega)] | rw [if_pos (by omega)]
      simp only [Act.put, nA, nB, nC]
      refine wpU_step 11 (by kernel_rfl) rfl rfl ?_  -- buildSlice 
      go_wp2_with fail
      refine ⟨(Later.refl _).alloc _, ?_⟩
      refine wpU_step 12 (by kernel_rfl) rfl rfl ?_  -- call value (Go.Operand.func 80)
      go_wp2_with fail
      have hla := Later.alloc (Later.refl w6) (.cells #[.int .i64 num, .int .i64 a, .int .i64 xe.at_] TK)
      refine (joinCaptures_any xe.caps [⟨num, a, xe.at_⟩] _ _ _ (HCX6.out.keepT (KeepT.later hla)) (HasRow.fresh w6 TK 3 0 1 [.int .i64 num, .int .i64 a, .int .i64 xe.at_] _ rfl rfl (Nat.zero_le _) (by decide)) (by omega) (by simp)).mono ?_
      rintro e w7 ⟨jv, rfl, hj7, hl7⟩
      simp only [List.length_singleton] at hj7
      obtain ⟨jA, jc, hjv, _, _⟩ := hj7.form
      subst hjv
      have HAS7 := Lib.hid (HAS6.out.later (hla.trans hl7))
      have HJ7 := Lib.hid hj7
      clear hj7 hla
      go_wp2_with fail
      refine ⟨hl7, ?_⟩
      refine wpU_take 13 (some 190) (v := ?_) rfl rfl (by kernel_rfl) (fun _ _ _ h => h) rfl (fun x hx => ?_) ?_
      rotate_left 1
      · go_simp; first | done | with_reducible rfl | rw [if_neg (by omega)] | rw [if_pos (by omega)]
      simp only [Act.put, nA, nB, nC]
      refine wpU_step 14 (by kernel_rfl) rfl rfl ?_  -- buildSlice 
      go_wp2_with fail
      refine ⟨(Later.refl _).alloc _, ?_⟩
      refine wpU_last [_, _] (by kernel_rfl) rfl rfl ?_
      simp only [List.getElem_toArray, List.getElem_cons_succ, List.getElem_cons_zero]
      obtain ⟨i, hi, hz0, hz1, hz2⟩ := info_parts infoE
      have hlz := Later.alloc (Later.refl w7) (.cells #[.int .i64 xe.at_, .slice jA (xe.caps.length + 1) jc] TE)
      have has8 := HAS7.out.later hlz
      obtain ⟨xs, hx8, he8⟩ := has8.row
      have hlen8 : acc.length ≤ 10000 := by rw [HACC.out, List.length_take, assignE_len]; omega
      refine wpList_append_has _ rfl _ _ _ rfl (w.heap.size + 1) TE i _ 2 32 Try.underlying55 hi hz0 hz1 hz2 rfl _ _ xs rfl hx8 _ 1 1 [.int .i64 xe.at_, .slice jA (xe.caps.length + 1) jc] rfl rfl ?_ ?_ (by omega) ?_ ?_ ?_ ?_
      · exact cells_fresh _ [_, _] _
      · intro u hu
        simp only [List.mem_cons, List.not_mem_nil, or_false] at hu
        rcases hu with rfl | rfl <;> rfl
      · simp only [maxLen]; omega
      · omega
      · exact has8.size
      · intro v' w9 hrow9 hg9 hb9
        have has9 := has8.push (v' := v') (y := w9) (cv := .slice jA (xe.caps.length + 1) jc) hj hx8 he8 (by rw [HXE.out]; exact ((HJ7.out.weak (Nat.zero_le _)).keepT (KeepT.later hlz))) (by rw [HXE.out]; exact hrow9) hg9 hb9
        have HAS9 := Lib.hid has9
        clear has9 hrow9 hg9 hb9 has8 hx8 he8 hlz
        go_wp2_with fail
        go_roundw
        case rel => exact ⟨j + 1, _, _, rfl, by simp, HAS9.out⟩
        case measure => simp [intOf]; omega
    · have t1 : decide ((j : Int) < l.length) = false := decide_eq_false (by omega)
      have t1' : decide (j < l.length) = false := decide_eq_false (by omega)
      have hje : j = l.length := by omega
      have hacc : acc = assignE num a l := by rw [HACC.out, hje, show l.length = (assignE num a l).length from (assignE_len num a l).symm, List.take_length]
      have HROW := Lib.hid HAS.out.row
      have HACC1 := Lib.hid hacc
      clear hje hacc
      go_wp2_with fail
      go_ret2
      exact HFIN.out _ _ (by rw [← HACC1.out]; exact HROW.out) HAS.out.fr HAS.out.st

end Go.Proofs.Ytndefbecoahfhaa

/- impl's eval at every pattern. Printed by gen_endeval.py. -/
namespace Go.Proofs.Ytndefbecoahfhaa
open Go.RowKit

theorem two_of {α : Type} {l : List α} (h : l.length = 2) : ∃ a b, l = [a, b] := by
  match l, h with
  | [a, b], _ => exact ⟨a, b, rfl⟩
/-- impl's eval. -/
theorem eval_any (w0 : World) (M : Nat) (dA : Option Addr) (dn dc : Nat) (s : ByteArray) (defs : List Pat) (hM : w0.heap.size ≤ M) (hs : s.size ≤ 120) (hdn : dn = defs.length) (hdv : DefsOkV defs) (hdefs : RowIn w0 dA 0 defs) :
    ∀ (n : Nat) (p : Pat) (kv : Value), valid p dn = true → KidsIn w0 p kv → EvalIs w0 M dA dn dc defs s n p kv
  | 0, p, kv, _, _ => fun b a w hbn _ _ _ => absurd hbn (Nat.not_lt_zero _)
  | n + 1, p, kv, hv, hin => fun b a w hbn ha hl hst => by
    have ih := eval_any w0 M dA dn dc s defs hM hs hdn hdv hdefs n
    obtain ⟨A, c, rfl, _, _⟩ := hin.form
    obtain ⟨op, text, num, lo, hi, kids⟩ := p
    cases b with
    | zero => exact eval_zero hst
    | succ b =>
      have hbn' : b < n := Nat.lt_of_succ_lt_succ hbn
      have hop := (valid_kids hv).1
      have hkl := (valid_kids hv).2
      have hw := valid_words hv
      have hkid := kid_v hv
      have hvar := valid_var hv
      simp only [Pat.op, Pat.kids, Pat.text, Pat.num] at hop hkl hw hkid hvar
      by_cases hsi : isSimple op
      · cases hz : oneEnd op text num lo hi s a with
        | none => exact eval_none hst hl hM hs ha hsi hw hz
        | some z => exact eval_some hst hl hM hs ha hsi hw hz
      · unfold isSimple at hsi
        have hcase : op = 11 ∨ op = 13 ∨ op = 14 ∨ op = 15 ∨ op = 16 ∨ op = 17 ∨ op = 18 ∨ op = 19 ∨ op = 20 ∨ op = 21 := by omega
        rcases hcase with rfl | rfl | rfl | rfl | rfl | rfl | rfl | rfl | rfl | rfl
        · exact eval_arb hst hl hM hs ha
        · obtain ⟨k0, rfl⟩ := List.length_eq_one_iff.1 (show kids.length = 1 by have : kidsOf 13 = 1 := rfl; omega)
          exact eval_arbno hst hl hM hs ha hin ih hbn' (hkid 0 (by decide)) hv hdv hdn
        · obtain ⟨k0, k1, rfl⟩ := two_of (show kids.length = 2 by have : kidsOf 14 = 2 := rfl; omega)
          exact eval_cat hst hl hM hs ha hin ih hbn' (hkid 0 (by decide)) (hkid 1 (by decide)) hdv hdn
        · obtain ⟨k0, k1, rfl⟩ := two_of (show kids.length = 2 by have : kidsOf 15 = 2 := rfl; omega)
          exact eval_alt hst hl hM hs ha hin ih hbn' (hkid 0 (by decide)) (hkid 1 (by decide)) hdv hdn
        · obtain ⟨k0, rfl⟩ := List.length_eq_one_iff.1 (show kids.length = 1 by have : kidsOf 16 = 1 := rfl; omega)
          exact eval_assign hst hl hM hs ha hin ih hbn' (hkid 0 (by decide))
        · obtain ⟨k0, rfl⟩ := List.length_eq_one_iff.1 (show kids.length = 1 by have : kidsOf 17 = 1 := rfl; omega)
          exact eval_imm hst hl hM hs ha hin ih hbn' (hkid 0 (by decide))
        · exact eval_cursor hst hl hM hs ha
        · exact eval_fence hst hl hM hs ha
        · obtain ⟨h0, h1⟩ := hvar (by omega)
          have hil : num.toNat < defs.length := by omega
          have hvd := hdv num.toNat hil
          rw [← hdn] at hvd
          have hnum : num = (num.toNat : Int) := by omega
          exact eval_defer (i := num.toNat) hst hl hM hs ha ih hbn' hdn hnum hil hdefs hvd
        · exact eval_abort hst hl hM hs ha
end Go.Proofs.Ytndefbecoahfhaa

/- spec's l19Then: what follows every ending of a first part. Printed by gen_endspec.py. -/
namespace Go.Proofs.Ytndefbecoahfhaa
open Go.RowKit

/-- The state of spec's endings in block M: z is left of the fuel. -/
def FSt (x : World) (M : Nat) (dA : Option Addr) (dn dc : Nat) (s : ByteArray) (z : Int) : Prop := x.heap[M]? = some (.cells #[.slice dA dn dc, .string s, .int .i64 z] TF (0, 0))
section
variable {w x y : World} {M : Nat} {dA : Option Addr} {dn dc : Nat} {s : ByteArray} {z : Int}
theorem FSt.lt (h : FSt x M dA dn dc s z) : M < x.heap.size := has_lt' h
theorem FSt.later (h : FSt x M dA dn dc s z) (hl : Later x y) : FSt y M dA dn dc s z := hl.has h
theorem FSt.same (h : FSt x M dA dn dc s z) (hs : y.heap[M]? = x.heap[M]?) : FSt y M dA dn dc s z := hs.trans h
theorem FSt.cells (h : FSt x M dA dn dc s z) : x.cell? ⟨M, 0, none⟩ = some (.slice dA dn dc) ∧ x.cell? ⟨M, 1, none⟩ = some (.string s) ∧ x.cell? ⟨M, 2, none⟩ = some (.int .i64 z) :=
  ⟨cell_of_row x M 0 _ _ _ h, cell_of_row x M 1 _ _ _ h, cell_of_row x M 2 _ _ _ h⟩
theorem FSt.set (h : FSt x M dA dn dc s z) (z' : Int) : FSt (x.setCell ⟨M, 2, none⟩ (.int .i64 z')) M dA dn dc s z' := by
  have h7 := heap_set_own (o := 2) h (.int .i64 z')
  unfold FSt
  simpa only [List.setIfInBounds_toArray, List.set_cons_zero, List.set_cons_succ] using h7
theorem FSt.of (h : FSt x M dA dn dc s z) {z' : Int} (e : z = z') : FSt x M dA dn dc s z' := e ▸ h
end
theorem DrB.drawnF {base M : Nat} {w x : World} {cs : Array Value} (h : Drawn M w x) (hM : w.heap[M]? = some (.cells cs TF (0, 0))) (hb : base ≤ w.heap.size) : DrB base M w x :=
  ⟨h.below.os, h.below.tape, h.below.output, h.below.size, fun k h1 h2 => h.other k (by omega) h2, KeepT.drawn h hM (by decide), KeepT.drawn h hM (by decide)⟩
theorem InSt.drawnF {w : World} {base M : Nat} {acc l2 : List End} {fe : End} {v2 : Value} {B : Nat} {bo : Obj} {P : Nat} {po : Obj} {k : Nat} {lv : Value} {x y : World} {cs : Array Value} (h : InSt w base M acc l2 fe v2 B bo P po k lv x) (hd : Drawn M x y) (hM : x.heap[M]? = some (.cells cs TF (0, 0))) : InSt w base M acc l2 fe v2 B bo P po k lv y := by
  have hk : KeepT TK x y := KeepT.drawn hd hM (by decide)
  exact ⟨h.lt, h.row.same hk (fun g h1 h2 _ => hd.other g h2 (by have := h.hP; omega)), h.sec.same hk (fun g _ h2 h3 => hd.other g h2 (h.apart g h3).2.1), fun g hg => ⟨(h.apart g hg).1, (h.apart g hg).2.1, Nat.lt_of_lt_of_le (h.apart g hg).2.2 hd.below.size⟩,
    hd.has h.box h.apartB.2, h.apartB, h.fr.trans (DrB.drawnF hd hM h.hP.2.1), hd.has h.blk h.hP.1, ⟨h.hP.1, Nat.le_trans h.hP.2.1 hd.below.size, h.hP.2.2⟩⟩
/-- What l19Ends leaves, at depth n: if the fuel was not enough, it is below zero, but not far. -/
def SpPost (w : World) (M : Nat) (dA : Option Addr) (dn dc : Nat) (s : ByteArray) (b n : Nat) (r : EvR) (e : Ending) (w' : World) : Prop :=
  ∃ v st, e = .returned (.tuple #[v, .bool st]) ∧ Drawn M w w' ∧ match r with
    | some (l, st', b') => st = st' ∧ EndRow w.heap.size w' l v ∧ FSt w' M dA dn dc s b'
    | none => (∃ l, EndRow w.heap.size w' l v ∧ LB l (b + 122)) ∧ ∃ z : Int, FSt w' M dA dn dc s z ∧ z < 0 ∧ -4000 * (n : Int) ≤ z
/-- l19Ends of the pattern p, at depth n. -/
def EndsIs (w0 : World) (M : Nat) (dA : Option Addr) (dn dc : Nat) (defs : List Pat) (s : ByteArray) (n : Nat) (p : Pat) (kv : Value) : Prop :=
  ∀ (b a : Nat) (w : World), b < n → b ≤ 3000 → a ≤ s.size → Later w0 w → FSt w M dA dn dc s b → Calls Try.prog 58 #[.pointer (some ⟨M, 0, none⟩), p.v kv, .int .i64 a] w (SpPost w M dA dn dc s b n (ev defs s n b p a))
set_option maxRecDepth 100000 in
set_option maxHeartbeats 1000000 in
/-- The fuel is used up. -/
theorem ends_neg {M : Nat} {dA : Option Addr} {dn dc : Nat} {s : ByteArray} {z : Int} (op : Int) (text : ByteArray) (num lo hi : Int) (A : Option Addr) (l c a : Nat) (w : World) (h : FSt w M dA dn dc s z) (hz : z < 0) (hlo : -1000000000 ≤ z) :
    Calls Try.prog 58 #[.pointer (some ⟨M, 0, none⟩), patV op text num lo hi (.slice A l c), .int .i64 a] w fun e w' => e = .returned (.tuple #[.slice none 0 0, .bool false]) ∧ Drawn M w w' ∧ FSt w' M dA dn dc s (z - 1) := by
  have hM := h.lt
  have hl := Later.alloc (Later.refl w) (.cells #[.int .i64 op, .string text, .int .i64 num, .int .i64 lo, .int .i64 hi, .slice A l c] TP)
  obtain ⟨m0, m1, m2⟩ := h.cells
  have mf := frozen_of_row w M 2 _ _ h
  have H := Lib.hid h
  have HL := Lib.hid hl
  clear h hl
  go_enter Try.func58, Try.ntmps58
  go_wp2_with fail
  go_ret2
  exact ⟨rfl, ((Drawn.refl M w).set 2 _).trans (Drawn.later (Later.alloc (Later.refl _) _) (by simp; omega)), (H.out.set _).later (Later.alloc (Later.refl _) _)⟩
/-- What l19Then leaves. -/
def ThPost (w : World) (base M : Nat) (dA : Option Addr) (dn dc : Nat) (s : ByteArray) (n m K : Nat) (stop : Bool) (T : EvR) (e : Ending) (w' : World) : Prop :=
  ∃ v hl, e = .returned (.tuple #[v, .bool hl]) ∧ DrB base M w w' ∧ match T with
    | some (L, st', b') => (stop || hl) = st' ∧ EndRow base w' L v ∧ FSt w' M dA dn dc s b'
    | none => (∃ l, EndRow base w' l v ∧ LB l K) ∧ ∃ z : Int, FSt w' M dA dn dc s z ∧ z < 0 ∧ -4000 * (n : Int) - 1 - (m : Int) ≤ z
/-- The fuel at the head of a round; none: it is used up. -/
def ThFuel (wr : World) (M : Nat) (dA : Option Addr) (dn dc : Nat) (s : ByteArray) (n K j c : Nat) (f : Nat → Nat → EvR) (least : Int) (firsts acc : List End) (stop : Bool) (T : EvR) : Option Nat → Prop
  | some b => b < n ∧ b ≤ 3000 ∧ FSt wr M dA dn dc s b ∧ (∃ q, LB acc q ∧ c ≤ q ∧ q + b + 1 ≤ K) ∧ afterE f least (firsts.drop j) acc stop b = T ∧ (∀ e ∈ firsts, e.at_ ≤ s.size)
  | none => T = none ∧ LB acc K ∧ ∃ z : Int, FSt wr M dA dn dc s z ∧ z < 0 ∧ -4000 * (n : Int) - 1 - (j : Int) ≤ z
theorem ThFuel.mono {wr x : World} {M : Nat} {dA : Option Addr} {dn dc : Nat} {s : ByteArray} {n K j c : Nat} {f : Nat → Nat → EvR} {least : Int} {firsts acc : List End} {stop : Bool} {T : EvR} {ob : Option Nat} (h : ThFuel wr M dA dn dc s n K j c f least firsts acc stop T ob) (hl : Later wr x) : ThFuel x M dA dn dc s n K j c f least firsts acc stop T ob := by
  cases ob with
  | some b => exact ⟨h.1, h.2.1, h.2.2.1.later hl, h.2.2.2⟩
  | none => obtain ⟨h1, h2, z, h3, h4⟩ := h; exact ⟨h1, h2, z, h3.later hl, h4⟩
structure ThSt (w : World) (base M : Nat) (dA : Option Addr) (dn dc : Nat) (s : ByteArray) (n K c : Nat) (f : Nat → Nat → EvR) (least : Int) (firsts : List End) (stop : Bool) (T : EvR) (po : Obj) (fv : Value) (j : Nat) (acc : List End) (ob : Option Nat) (lv : Value) (wr : World) : Prop where
  lt : j ≤ firsts.length
  fst : ∀ k, fv.ownBlock = some k → wr.heap[k]? = w.heap[k]? ∧ lv.ownBlock ≠ some k
  row : EndRow base wr acc lv
  fr : DrB base M w wr
  blk : wr.heap[w.heap.size]? = some po
  fuel : ThFuel wr M dA dn dc s n K j c f least firsts acc stop T ob
theorem ThSt.mlt {w : World} {base M : Nat} {dA : Option Addr} {dn dc : Nat} {s : ByteArray} {n K c : Nat} {f : Nat → Nat → EvR} {least : Int} {firsts : List End} {stop : Bool} {T : EvR} {po : Obj} {fv : Value} {j : Nat} {acc : List End} {ob : Option Nat} {lv : Value} {wr : World} (h : ThSt w base M dA dn dc s n K c f least firsts stop T po fv j acc ob lv wr) : M < wr.heap.size := by
  have := h.fuel
  cases ob with
  | some b => exact this.2.2.1.lt
  | none => obtain ⟨_, _, z, h3, _⟩ := this; exact h3.lt

theorem lb_join {acc l2 : List End} {fe : End} {q b1 b2 c k K : Nat} (h1 : LB acc q) (h2 : fe.caps.length ≤ c) (h3 : c ≤ q) (h4 : q + b2 + 1 ≤ K) (h5 : LB l2 (b2 - b1)) (h6 : k ≤ b1 + 1) (h7 : b1 ≤ b2) : LB (acc ++ (l2.take k).map fe.join) K := by
  refine ⟨?_, fun x hx => ?_⟩
  · have := h1.1
    simp
    omega
  · rcases List.mem_append.1 hx with hx | hx
    · have := h1.2 x hx; omega
    · obtain ⟨y, hy, rfl⟩ := List.mem_map.1 hx
      have := h5.2 y (List.mem_of_mem_take hy)
      simp only [End.join, List.length_append]
      omega
theorem cell_heap {w x : World} {g : Nat} (h : x.heap[g]? = w.heap[g]?) (o : Nat) : x.cell? ⟨g, o, none⟩ = w.cell? ⟨g, o, none⟩ := by
  unfold World.cell?
  rw [h]
theorem has_lt'' {w x : World} {g : Nat} (hg : g < w.heap.size) (h : x.heap[g]? = w.heap[g]?) : g < x.heap.size := by
  rcases Nat.lt_or_ge g x.heap.size with h2 | h2
  · exact h2
  · rw [Array.getElem?_eq_none h2, Array.getElem?_eq_getElem hg] at h
    cases h
theorem DrB.cell {base M : Nat} {w x : World} (h : DrB base M w x) {g : Nat} (hg : g < base) (hM : g ≠ M) (o : Nat) : x.cell? ⟨g, o, none⟩ = w.cell? ⟨g, o, none⟩ := by
  unfold World.cell?
  rw [h.other g hg hM]
set_option maxRecDepth 100000 in
set_option maxHeartbeats 8000000 in
theorem then_any (w0 : World) (M : Nat) (dA : Option Addr) (dn dc : Nat) (defs : List Pat) (s : ByteArray) (n : Nat) (p : Pat) (kv : Value) (hev : EndsIs w0 M dA dn dc defs s n p kv)
    (w : World) (base K c : Nat) (ob : Option Nat) (acc firsts : List End) (lv fv : Value) (stop : Bool) (least : Int) (T : EvR) (hl : Later w0 w) (hM0 : w0.heap.size ≤ M) (hMb : M < base) (hbw : base ≤ w.heap.size) (hn : n ≤ 4000)
    (hacc : EndRow base w acc lv) (hf : EndRow 0 w firsts fv) (hfb : ∀ k, fv.ownBlock = some k → k ≠ M ∧ lv.ownBlock ≠ some k) (hfl : firsts.length ≤ 3900) (hfc : ∀ e ∈ firsts, e.caps.length ≤ c) (hc : c ≤ 10000) (hK : K ≤ 10000) (hkv : KidsIn w0 p kv)
    (hfu : ThFuel w M dA dn dc s n K 0 c (fun b a => ev defs s n b p a) least firsts acc stop T ob) :
    Calls Try.prog 81 #[.pointer (some ⟨M, 0, none⟩), fv, p.v kv, .int .i64 least, lv] w (ThPost w base M dA dn dc s n firsts.length K stop T) := by
  obtain ⟨kA, kc, hkvf, _, _⟩ := hkv.form
  subst hkvf
  obtain ⟨fA, fc, hfvf, _, hfcm⟩ := hf.form
  subst hfvf
  have HF := Lib.hid hf
  have HFB := Lib.hid hfb
  have HEV := Lib.hid hev
  have HFC := Lib.hid hfc
  have HL0 := Lib.hid hl
  have hlw := Later.alloc (Later.refl w) (.cells #[.int .i64 p.op, .string p.text, .int .i64 p.num, .int .i64 p.lo, .int .i64 p.hi, .slice kA p.kids.length kc] TP)
  have HA : Hid (ThSt w base M dA dn dc s n K c (fun b a => ev defs s n b p a) least firsts stop T (.cells #[.int .i64 p.op, .string p.text, .int .i64 p.num, .int .i64 p.lo, .int .i64 p.hi, .slice kA p.kids.length kc] TP (0, 0)) (.slice fA firsts.length fc) 0 acc ob lv (w.alloc (.cells #[.int .i64 p.op, .string p.text, .int .i64 p.num, .int .i64 p.lo, .int .i64 p.hi, .slice kA p.kids.length kc] TP))) :=
    Lib.hid ⟨Nat.zero_le _, fun k hk => ⟨hlw.block k (by obtain ⟨xs, hx, _⟩ := hf; exact (hx.lt k hk).2.1), (hfb k hk).2⟩, hacc.later hlw, DrB.later hlw hbw, heap_alloc_new _ _, hfu.mono hlw⟩
  clear hf hfb hev hacc hlw hfc hl hkv hfcm hfu
  go_enter Try.func81, Try.ntmps81
  go_wp2_with fail
  go_loopw [12, 4] (fun i v wr => ∃ (j : Nat) (acc : List End) (ob : Option Nat) (lv : Value), lv = v ∧ i = .int .i64 j ∧ ThSt w base M dA dn dc s n K c (fun b a => ev defs s n b p a) least firsts stop T (.cells #[.int .i64 p.op, .string p.text, .int .i64 p.num, .int .i64 p.lo, .int .i64 p.hi, .slice kA p.kids.length kc] TP (0, 0)) (.slice fA firsts.length fc) j acc ob lv wr) (fun i _ _ => firsts.length - (intOf i).toNat)
  case atStart => exact ⟨0, acc, ob, _, rfl, rfl, HA.out⟩
  case round =>
    clear HA
    obtain ⟨j, acc, ob, lv, rfl, rfl, has⟩ := hrel
    obtain ⟨wo, rfl⟩ : ∃ wo : World, wo = wr := ⟨_, rfl⟩
    have hjl := has.lt
    have hMr := has.mlt
    have HAS := Lib.hid has
    clear has
    by_cases hlt : j < firsts.length
    · have t1 : decide ((j : Int) < firsts.length) = true := decide_eq_true (by omega)
      have t1' : decide (j < firsts.length) = true := decide_eq_true (by omega)
      obtain ⟨g, fc', cvf, hfv, _, hg0, e00, e01, hcvf⟩ := HF.out.cell hlt
      obtain ⟨rfl, rfl⟩ : fA = some ⟨g, 0, none⟩ ∧ fc = fc' := by simpa using hfv
      have hgb := (HFB.out g rfl).1
      have hgf := HAS.out.fst g rfl
      have hcell : ∀ o, wo.cell? ⟨g, o, none⟩ = w.cell? ⟨g, o, none⟩ := fun o => by unfold World.cell?; rw [hgf.1]
      have HGF := Lib.hid hgf
      clear hgf
      have e0 := (hcell _).trans e00
      have e1 := (hcell _).trans e01
      have hg : g < wo.heap.size := Nat.lt_of_lt_of_le hg0 HAS.out.fr.size
      have hgw := hg0
      clear hcell e00 hg0
      obtain ⟨cfA, cfc, hcf, _, _⟩ := hcvf.form
      subst hcf
      clear hfv
      obtain ⟨fe, hfe⟩ : ∃ fe, firsts[j] = fe := ⟨_, rfl⟩
      rw [hfe] at e0 e1 e01 hcvf
      have HE01 := Lib.hid e01
      clear e01
      have hmem : fe ∈ firsts := by rw [← hfe]; exact List.getElem_mem hlt
      have hfc := HFC.out fe hmem
      have HCV := Lib.hid hcvf
      have hdrop : firsts.drop j = fe :: firsts.drop (j + 1) := by rw [List.drop_eq_getElem_cons hlt, hfe]
      have HDR := Lib.hid hdrop
      clear hcvf hfe hdrop
      by_cases hle : (fe.at_ : Int) ≤ least
      · have t2 : decide ((fe.at_ : Int) ≤ least) = true := by simpa using hle
        go_wp2_with fail
        go_roundw
        case rel =>
          refine ⟨j + 1, acc, ob, _, rfl, by simp, by omega, HAS.out.fst, HAS.out.row, HAS.out.fr, HAS.out.blk, ?_⟩
          have hfu := HAS.out.fuel
          cases ob with
          | some b =>
            obtain ⟨h1, h2, h3, h4, h5, h6⟩ := hfu
            rw [HDR.out, afterE, if_pos hle] at h5
            exact ⟨h1, h2, h3, h4, h5, h6⟩
          | none =>
            obtain ⟨h1, h2, z, h3, h4, h5⟩ := hfu
            exact ⟨h1, h2, z, h3, h4, by omega⟩
        case measure => simp [intOf]; omega
      · have t2 : decide ((fe.at_ : Int) ≤ least) = false := by simpa using hle
        have hPM : w.heap.size ≠ M := by omega
        have hBl := HAS.out.blk
        have HBL := Lib.hid hBl
        have hPw : w.heap.size < wo.heap.size := has_lt' hBl
        have HS0 : Hid (Drawn M wo wo) := Lib.hid (Drawn.refl _ _)
        have HE0 := Lib.hid e0
        have HE1 := Lib.hid e1
        have hbo : base ≤ wo.heap.size := Nat.le_trans hbw HAS.out.fr.size
        clear hBl
        have hfu := HAS.out.fuel
        cases ob with
        | none =>
          obtain ⟨hTn, hLB, z, hz, hz0, hzlo⟩ := hfu
          have HFZ := Lib.hid hz
          have HLBK := Lib.hid hLB
          have HTN := Lib.hid hTn
          clear hTn hLB hz
          go_wp2_with fail
          -- region 5: 13 operations, the last []
          refine wpV_begin [] [] (fun x => Drawn M wo x) (by kernel_rfl) (fun w3 hw3 => ?_)
          have HFZ0 := Lib.hid HFZ.out
          have HS := Lib.hid (Drawn.later (drew_later hw3) (Nat.le_of_lt hMr))
          have HFZ3 := Lib.hid (HFZ.out.later (drew_later hw3))
          have HLW3 := Lib.hid (drew_later hw3)
          clear hw3 e0 e1 HS0 HFZ
          refine wpV_take 0 (some 31) (v := ?_) rfl rfl (by kernel_rfl) (fun _ _ _ h => h) rfl HS.out (fun x hx => ?_) ?_
          rotate_left 1
          · go_simp; first | done | with_reducible rfl | rw [if_neg (by omega)] | rw [if_pos (by omega)]
          simp only [Act.put, nA, nB, nC]
          refine wpV_take 1 (some 32) (v := ?_) rfl rfl (by kernel_rfl) (fun _ _ _ h => h) rfl HS.out (fun x hx => ?_) ?_
          rotate_left 1
          · obtain ⟨p0, p1, p2, p3, p4, p5⟩ := cells_p (hx.has HBL.out hPM); have e0 := (hx.cell _ hg hgb).trans HE0.out; go_simp; first | done | with_reducible rfl | rw [if_neg (by omega)] | rw [if_pos (by omega)]
          simp only [Act.put, nA, nB, nC]
          refine wpV_take 2 (some 33) (v := ?_) rfl rfl (by kernel_rfl) (fun _ _ _ h => h) rfl HS.out (fun x hx => ?_) ?_
          rotate_left 1
          · go_simp; first | done | with_reducible rfl | rw [if_neg (by omega)] | rw [if_pos (by omega)]
          simp only [Act.put, nA, nB, nC]
          refine wpV_take 3 (some 34) (v := ?_) rfl rfl (by kernel_rfl) (fun _ _ _ h => h) rfl HS.out (fun x hx => ?_) ?_
          rotate_left 1
          · go_simp; first | done | with_reducible rfl | rw [if_neg (by omega)] | rw [if_pos (by omega)]
          simp only [Act.put, nA, nB, nC]
          refine wpV_take 4 (some 35) (v := ?_) rfl rfl (by kernel_rfl) (fun _ _ _ h => h) rfl HS.out (fun x hx => ?_) ?_
          rotate_left 1
          · go_simp; first | done | with_reducible rfl | rw [if_neg (by omega)] | rw [if_pos (by omega)]
          simp only [Act.put, nA, nB, nC]
          refine wpV_take 5 (some 36) (v := ?_) rfl rfl (by kernel_rfl) (fun _ _ _ h => h) rfl HS.out (fun x hx => ?_) ?_
          rotate_left 1
          · go_simp; first | done | with_reducible rfl | rw [if_neg (by omega)] | rw [if_pos (by omega)]
          simp only [Act.put, nA, nB, nC]
          refine wpV_take 6 (some 37) (v := ?_) rfl rfl (by kernel_rfl) (fun _ _ _ h => h) rfl HS.out (fun x hx => ?_) ?_
          rotate_left 1
          · obtain ⟨p0, p1, p2, p3, p4, p5⟩ := cells_p (hx.has HBL.out hPM); have e0 := (hx.cell _ hg hgb).trans HE0.out; go_simp; first | done | with_reducible rfl | rw [if_neg (by omega)] | rw [if_pos (by omega)]
          simp only [Act.put, nA, nB, nC]
          refine wpV_step 7 (by kernel_rfl) rfl rfl ?_
          go_wp2_with fail
          refine (ends_neg _ _ _ _ _ _ _ _ fe.at_ _ HFZ3.out hz0 (by omega)).mono ?_
          rintro e w4 ⟨rfl, hd4, hz4⟩
          have HS4 := Lib.hid (HS.out.trans hd4)
          have HZ4 := Lib.hid hz4
          clear hd4 hz4 HS
          have HS := Lib.hid HS4.out
          clear HS4
          go_wp2_with fail
          refine ⟨HS.out, ?_⟩
          refine wpV_take 8 (some 30) (v := ?_) rfl rfl (by kernel_rfl) (fun _ _ _ h => h) rfl HS.out (fun x hx => ?_) ?_
          rotate_left 1
          · go_simp; first | done | with_reducible rfl | rw [if_neg (by omega)] | rw [if_pos (by omega)]
          simp only [Act.put, nA, nB, nC]
          refine wpV_take 9 (some 39) (v := ?_) rfl rfl (by kernel_rfl) (fun _ _ _ h => h) rfl HS.out (fun x hx => ?_) ?_
          rotate_left 1
          · go_simp; first | done | with_reducible rfl | rw [if_neg (by omega)] | rw [if_pos (by omega)]
          simp only [Act.put, nA, nB, nC]
          refine wpV_take 10 (some 40) (v := ?_) rfl rfl (by kernel_rfl) (fun _ _ _ h => h) rfl HS.out (fun x hx => ?_) ?_
          rotate_left 1
          · go_simp; first | done | with_reducible rfl | rw [if_neg (by omega)] | rw [if_pos (by omega)]
          simp only [Act.put, nA, nB, nC]
          refine wpV_take 11 (some 13) (v := ?_) rfl rfl (by kernel_rfl) (fun _ _ _ h => h) rfl HS.out (fun x hx => ?_) ?_
          rotate_left 1
          · go_simp; first | done | with_reducible rfl | rw [if_neg (by omega)] | rw [if_pos (by omega)]
          simp only [Act.put, nA, nB, nC]
          refine wpV_take 12 (some 14) (v := ?_) rfl rfl (by kernel_rfl) (fun _ _ _ h => h) rfl HS.out (fun x hx => ?_) ?_
          rotate_left 1
          · go_simp; first | done | with_reducible rfl | rw [if_neg (by omega)] | rw [if_pos (by omega)]
          simp only [Act.put, nA, nB, nC]
          refine wpV_last [] (by kernel_rfl) rfl rfl ?_
          go_wp2_with fail
          go_loopw [15, 4] (fun i v wx => i = .int .i64 0 ∧ v = lv ∧ wx = w4) (fun _ _ _ => 0)
          case atStart => exact ⟨rfl, rfl, rfl⟩
          case round =>
            obtain ⟨rfl, hv, hwx⟩ := hrel
            subst hwx hv
            go_wp2_with fail
            go_roundw
            case rel =>
              have hrow := HAS.out.row.same (KeepT.drawn HS.out HFZ0.out (by decide)) (fun k h1 h2 _ => HS.out.other k h2 (by omega))
              exact ⟨j + 1, acc, none, _, rfl, by simp, by omega, fun k hk => (by cases hk; exact ⟨(HS.out.other g hg hgb).trans HGF.out.1, HGF.out.2⟩), hrow, HAS.out.fr.trans (DrB.drawnF HS.out HFZ0.out hbo), HS.out.has HBL.out hPM, HTN.out, HLBK.out, z - 1, HZ4.out, by omega, by omega⟩
            case measure => simp [intOf]; omega
        | some b2 =>
          obtain ⟨hb2n, hb2, hz, hlb, heq, hfw⟩ := hfu
          rw [HDR.out, afterE, if_neg hle] at heq
          have HFZ := Lib.hid hz
          have HEQ := Lib.hid heq
          have HLB0 := Lib.hid hlb
          have HFW := Lib.hid hfw
          have hfw := hfw fe hmem
          clear hz heq hlb
          go_wp2_with fail
          -- region 5: 13 operations, the last []
          refine wpV_begin [] [] (fun x => Drawn M wo x) (by kernel_rfl) (fun w3 hw3 => ?_)
          have HFZ0 := Lib.hid HFZ.out
          have HS := Lib.hid (Drawn.later (drew_later hw3) (Nat.le_of_lt hMr))
          have HFZ3 := Lib.hid (HFZ.out.later (drew_later hw3))
          have HLW3 := Lib.hid (drew_later hw3)
          clear hw3 e0 e1 HS0 HFZ
          refine wpV_take 0 (some 31) (v := ?_) rfl rfl (by kernel_rfl) (fun _ _ _ h => h) rfl HS.out (fun x hx => ?_) ?_
          rotate_left 1
          · go_simp; first | done | with_reducible rfl | rw [if_neg (by omega)] | rw [if_pos (by omega)]
          simp only [Act.put, nA, nB, nC]
          refine wpV_take 1 (some 32) (v := ?_) rfl rfl (by kernel_rfl) (fun _ _ _ h => h) rfl HS.out (fun x hx => ?_) ?_
          rotate_left 1
          · obtain ⟨p0, p1, p2, p3, p4, p5⟩ := cells_p (hx.has HBL.out hPM); have e0 := (hx.cell _ hg hgb).trans HE0.out; go_simp; first | done | with_reducible rfl | rw [if_neg (by omega)] | rw [if_pos (by omega)]
          simp only [Act.put, nA, nB, nC]
          refine wpV_take 2 (some 33) (v := ?_) rfl rfl (by kernel_rfl) (fun _ _ _ h => h) rfl HS.out (fun x hx => ?_) ?_
          rotate_left 1
          · go_simp; first | done | with_reducible rfl | rw [if_neg (by omega)] | rw [if_pos (by omega)]
          simp only [Act.put, nA, nB, nC]
          refine wpV_take 3 (some 34) (v := ?_) rfl rfl (by kernel_rfl) (fun _ _ _ h => h) rfl HS.out (fun x hx => ?_) ?_
          rotate_left 1
          · go_simp; first | done | with_reducible rfl | rw [if_neg (by omega)] | rw [if_pos (by omega)]
          simp only [Act.put, nA, nB, nC]
          refine wpV_take 4 (some 35) (v := ?_) rfl rfl (by kernel_rfl) (fun _ _ _ h => h) rfl HS.out (fun x hx => ?_) ?_
          rotate_left 1
          · go_simp; first | done | with_reducible rfl | rw [if_neg (by omega)] | rw [if_pos (by omega)]
          simp only [Act.put, nA, nB, nC]
          refine wpV_take 5 (some 36) (v := ?_) rfl rfl (by kernel_rfl) (fun _ _ _ h => h) rfl HS.out (fun x hx => ?_) ?_
          rotate_left 1
          · go_simp; first | done | with_reducible rfl | rw [if_neg (by omega)] | rw [if_pos (by omega)]
          simp only [Act.put, nA, nB, nC]
          refine wpV_take 6 (some 37) (v := ?_) rfl rfl (by kernel_rfl) (fun _ _ _ h => h) rfl HS.out (fun x hx => ?_) ?_
          rotate_left 1
          · obtain ⟨p0, p1, p2, p3, p4, p5⟩ := cells_p (hx.has HBL.out hPM); have e0 := (hx.cell _ hg hgb).trans HE0.out; go_simp; first | done | with_reducible rfl | rw [if_neg (by omega)] | rw [if_pos (by omega)]
          simp only [Act.put, nA, nB, nC]
          refine wpV_step 7 (by kernel_rfl) rfl rfl ?_
          go_wp2_with fail
          refine (HEV.out b2 fe.at_ _ hb2n hb2 hfw ((HAS.out.fr.out HL0.out (by omega) hM0).trans HLW3.out) HFZ3.out).mono ?_
          rintro e w4 ⟨v2, st2, rfl, hd4, hpost⟩
          have HS4 := Lib.hid (HS.out.trans hd4)
          have HP4 := Lib.hid hpost
          clear hd4 hpost HS
          have HS := Lib.hid HS4.out
          clear HS4
          go_wp2_with fail
          refine ⟨HS.out, ?_⟩
          refine wpV_take 8 (some 30) (v := ?_) rfl rfl (by kernel_rfl) (fun _ _ _ h => h) rfl HS.out (fun x hx => ?_) ?_
          rotate_left 1
          · go_simp; first | done | with_reducible rfl | rw [if_neg (by omega)] | rw [if_pos (by omega)]
          simp only [Act.put, nA, nB, nC]
          refine wpV_take 9 (some 39) (v := ?_) rfl rfl (by kernel_rfl) (fun _ _ _ h => h) rfl HS.out (fun x hx => ?_) ?_
          rotate_left 1
          · go_simp; first | done | with_reducible rfl | rw [if_neg (by omega)] | rw [if_pos (by omega)]
          simp only [Act.put, nA, nB, nC]
          refine wpV_take 10 (some 40) (v := ?_) rfl rfl (by kernel_rfl) (fun _ _ _ h => h) rfl HS.out (fun x hx => ?_) ?_
          rotate_left 1
          · go_simp; first | done | with_reducible rfl | rw [if_neg (by omega)] | rw [if_pos (by omega)]
          simp only [Act.put, nA, nB, nC]
          refine wpV_take 11 (some 13) (v := ?_) rfl rfl (by kernel_rfl) (fun _ _ _ h => h) rfl HS.out (fun x hx => ?_) ?_
          rotate_left 1
          · go_simp; first | done | with_reducible rfl | rw [if_neg (by omega)] | rw [if_pos (by omega)]
          simp only [Act.put, nA, nB, nC]
          refine wpV_take 12 (some 14) (v := ?_) rfl rfl (by kernel_rfl) (fun _ _ _ h => h) rfl HS.out (fun x hx => ?_) ?_
          rotate_left 1
          · go_simp; first | done | with_reducible rfl | rw [if_neg (by omega)] | rw [if_pos (by omega)]
          simp only [Act.put, nA, nB, nC]
          refine wpV_last [] (by kernel_rfl) rfl rfl ?_
          have heq1 := HEQ.out
          have hpost := HP4.out
          clear HP4
          cases hr : ev defs s n b2 p fe.at_ with
          | none =>
            rw [hr] at hpost heq1
            simp only at heq1
            obtain ⟨⟨l2, hrow2, hlb2⟩, z, hz4, hzn, hzlo⟩ := hpost
            obtain ⟨A2, c2, hv2, _, hc2⟩ := hrow2.form
            subst hv2
            unfold maxLen at hc2
            have HTN := Lib.hid heq1.symm
            obtain ⟨m0, m1, m2⟩ := hz4.cells
            have HZ4 := Lib.hid hz4
            have hfr4 := HAS.out.fr.trans (DrB.drawnF HS.out HFZ0.out hbo)
            have HFR4 := Lib.hid hfr4
            have HROW := Lib.hid (HAS.out.row.same (KeepT.drawn HS.out HFZ0.out (by decide)) (fun k h1 h2 _ => HS.out.other k h2 (by omega)))
            obtain ⟨q, hq1, hq2, hq3⟩ := HLB0.out
            have HLBK := Lib.hid (hq1.mono (show q ≤ K by omega))
            clear hr heq1 hrow2 hz4 hfr4 hq1
            go_wp2_with fail
            go_loopw [15, 4] (fun i v wx => i = .int .i64 0 ∧ v = lv ∧ wx = w4) (fun _ _ _ => 0)
            case atStart => exact ⟨rfl, rfl, rfl⟩
            case round =>
              obtain ⟨rfl, hv, hwx⟩ := hrel
              subst hwx hv
              have t6 : decide ((0 : Int) ≤ z) = false := decide_eq_false (by omega)
              by_cases hz0 : l2.length = 0
              · have t3 : decide ((0 : Int) < l2.length) = false := decide_eq_false (by omega)
                have t3' : decide (0 < l2.length) = false := decide_eq_false (by omega)
                clear hz0
                cases st2
                · go_wp2_with fail
                  clear m0 m1 m2
                  go_roundw
                  case rel => exact ⟨j + 1, acc, none, _, rfl, by simp, by omega, fun k hk => (by cases hk; exact ⟨(HS.out.other g hg hgb).trans HGF.out.1, HGF.out.2⟩), HROW.out, HFR4.out, HS.out.has HBL.out hPM, HTN.out, HLBK.out, z, HZ4.out, hzn, by omega⟩
                  case measure => simp [intOf]; omega
                · go_wp2_with fail
                  go_ret2
                  refine ⟨_, _, rfl, HFR4.out, ?_⟩
                  rw [HTN.out]
                  exact ⟨⟨_, HROW.out, HLBK.out⟩, z, HZ4.out, hzn, by omega⟩
              · have t3 : decide ((0 : Int) < l2.length) = true := decide_eq_true (by omega)
                have t3' : decide (0 < l2.length) = true := decide_eq_true (by omega)
                clear hz0
                cases st2
                · go_wp2_with fail
                  clear m0 m1 m2
                  go_roundw
                  case rel => exact ⟨j + 1, acc, none, _, rfl, by simp, by omega, fun k hk => (by cases hk; exact ⟨(HS.out.other g hg hgb).trans HGF.out.1, HGF.out.2⟩), HROW.out, HFR4.out, HS.out.has HBL.out hPM, HTN.out, HLBK.out, z, HZ4.out, hzn, by omega⟩
                  case measure => simp [intOf]; omega
                · go_wp2_with fail
                  go_ret2
                  refine ⟨_, _, rfl, HFR4.out, ?_⟩
                  rw [HTN.out]
                  exact ⟨⟨_, HROW.out, HLBK.out⟩, z, HZ4.out, hzn, by omega⟩
          | some r =>
            obtain ⟨l2, inner, b1⟩ := r
            obtain ⟨hb1, hl2⟩ := ev_len n b2 p fe.at_ l2 inner b1 hr
            rw [hr] at hpost heq1
            simp only at heq1
            obtain ⟨rfl, hrow2, hz4⟩ := hpost
            have HIN : Hid (InSt w base M acc l2 fe v2 w.heap.size (.cells #[.int .i64 p.op, .string p.text, .int .i64 p.num, .int .i64 p.lo, .int .i64 p.hi, .slice kA p.kids.length kc] TP (0, 0)) w.heap.size (.cells #[.int .i64 p.op, .string p.text, .int .i64 p.num, .int .i64 p.lo, .int .i64 p.hi, .slice kA p.kids.length kc] TP (0, 0)) 0 lv w4) := Lib.hid (by
              refine ⟨Nat.zero_le _, ?_, hrow2.weak (Nat.zero_le _), fun g2 hg2 => ?_, HS.out.has HBL.out hPM, ⟨fun e => ?_, hPM⟩, HAS.out.fr.trans (DrB.drawnF HS.out HFZ0.out hbo), HS.out.has HBL.out hPM, ⟨hPM, Nat.le_trans hbo HS.out.below.size, hMb⟩⟩
              · rw [List.take_zero, List.map_nil, List.append_nil]
                exact HAS.out.row.same (KeepT.drawn HS.out HFZ0.out (by decide)) (fun k h1 h2 _ => HS.out.other k h2 (by omega))
              · obtain ⟨xs2, hx2, _⟩ := hrow2
                have hg3 := hx2.lt g2 hg2
                have hw3 := HLW3.out.size
                obtain ⟨xs1, hx1, _⟩ := HAS.out.row
                refine ⟨fun e => ?_, by omega, hg3.2.1⟩
                have := (hx1.lt g2 e).2.1
                omega
              · obtain ⟨xs1, hx1, _⟩ := HAS.out.row
                obtain ⟨_, _, cur, hcur⟩ := hx1.lt _ e
                rw [HBL.out] at hcur
                cases hcur)
            obtain ⟨A2, c2, hv2, _, hc2⟩ := hrow2.form
            subst hv2
            unfold maxLen at hc2
            obtain ⟨q, hq1, hq2, hq3⟩ := HLB0.out
            have HEQ1 := Lib.hid heq1
            have HST4 := Lib.hid hz4
            have hl2n := hl2.1
            have HLB := Lib.hid hl2.2
            have HACC := Lib.hid hq1
            have haccn := hq1.1
            obtain ⟨ik, hik, hik0, hik1, hik2⟩ := info_parts infoK
            obtain ⟨ie, hie, hie0, hie1, hie2⟩ := info_parts infoE
            clear hr heq1 hrow2 hz4 hl2 hq1 HEQ
            go_wp2_with fail
            go_loopw [15, 4] (fun i v wx => ∃ (k : Nat) (lv' : Value) (z : Int), lv' = v ∧ i = .int .i64 k ∧ k ≤ b1 + 1 ∧ z = (b1 : Int) - k ∧ FSt wx M dA dn dc s z ∧ (wx.heap[g]? = w.heap[g]? ∧ lv'.ownBlock ≠ some g) ∧ InSt w base M acc l2 fe (.slice A2 l2.length c2) w.heap.size (.cells #[.int .i64 p.op, .string p.text, .int .i64 p.num, .int .i64 p.lo, .int .i64 p.hi, .slice kA p.kids.length kc] TP (0, 0)) w.heap.size (.cells #[.int .i64 p.op, .string p.text, .int .i64 p.num, .int .i64 p.lo, .int .i64 p.hi, .slice kA p.kids.length kc] TP (0, 0)) k lv' wx) (fun i _ _ => l2.length - (intOf i).toNat)
            case atStart => exact ⟨0, _, _, rfl, rfl, Nat.zero_le _, by simp, HST4.out, ⟨(HS.out.other g hg hgb).trans HGF.out.1, HGF.out.2⟩, HIN.out⟩
            case round =>
              clear HIN HST4
              obtain ⟨k, lv', z, rfl, rfl, hkb, hzk, hst, hgx, hin⟩ := hrel
              have HGX := Lib.hid hgx
              clear hgx
              have hkl := hin.lt
              have hMx := hst.lt
              obtain ⟨m0, m1, m2⟩ := hst.cells
              have mf := frozen_of_row wr M 2 _ _ hst
              have HIN := Lib.hid hin
              have HST := Lib.hid hst
              have HZK := Lib.hid hzk
              have hzl : -1 ≤ z := by omega
              have hzu : z ≤ 3000 := by omega
              clear hin hst
              by_cases hk : k < l2.length
              · have t3 : decide ((k : Int) < l2.length) = true := decide_eq_true (by omega)
                have t3' : decide (k < l2.length) = true := decide_eq_true (by omega)
                by_cases hkb1 : k ≤ b1
                · have t4 : decide ((0 : Int) ≤ z) = true := decide_eq_true (by omega)
                  clear hzk
                  obtain ⟨g2, c2', cv2, hv2, _, hg2, a0, a1, hcv2⟩ := HIN.out.sec.cell hk
                  obtain ⟨rfl, rfl⟩ : A2 = some ⟨g2, 0, none⟩ ∧ c2 = c2' := by simpa using hv2
                  obtain ⟨cA2, cc2, hcv, _, _⟩ := hcv2.form
                  subst hcv
                  obtain ⟨xe, hxe⟩ : ∃ xe, l2[k] = xe := ⟨_, rfl⟩
                  rw [hxe] at a0 a1 hcv2
                  have hxc := HLB.out xe (by rw [← hxe]; exact List.getElem_mem hk)
                  have HXE := Lib.hid hxe
                  have hg2M := (HIN.out.apart g2 rfl).2.1
                  have hds : Drawn M wr (wr.setCell ⟨M, 2, none⟩ (.int .i64 (z - 1))) := (Drawn.refl M wr).set 2 _
                  have hg25 : g2 < (wr.setCell ⟨M, 2, none⟩ (.int .i64 (z - 1))).heap.size := Nat.lt_of_lt_of_le hg2 hds.below.size
                  have HIN5 := Lib.hid (HIN.out.drawnF hds HST.out)
                  have HZ5 := Lib.hid (HST.out.set (z - 1))
                  have HCX5 := Lib.hid (hcv2.keepT (KeepT.drawn hds HST.out (by decide)))
                  have HCF5 := Lib.hid (HCV.out.keepT HIN5.out.fr.caps)
                  have hgr : g < wr.heap.size := by have := has_lt'' hgw HGX.out.1; exact this
                  have hg5 : g < (wr.setCell ⟨M, 2, none⟩ (.int .i64 (z - 1))).heap.size := Nat.lt_of_lt_of_le hgr hds.below.size
                  have HG5 := Lib.hid ((hds.other g hgr hgb).trans HGX.out.1)
                  have HA15 := Lib.hid ((hds.cell _ hg2 hg2M).trans a1)
                  have HA05 := Lib.hid ((hds.cell _ hg2 hg2M).trans a0)
                  clear hv2 hxe hds hcv2 a0 a1 HIN HST
                  go_wp2_with fail
                  clear m0 m1 m2 mf
                  -- region 10: 14 operations, the last [12, 13]
                  refine wpU_begin [12, 13] [] (by kernel_rfl) (fun w6 hw6 => ?_)
                  have HIN6 := Lib.hid (HIN5.out.later (drew_later hw6))
                  have HCX6 := Lib.hid (HCX5.out.keepT (KeepT.later (drew_later hw6)))
                  have HCF6 := Lib.hid (HCF5.out.keepT (KeepT.later (drew_later hw6)))
                  have HZ6 := Lib.hid (HZ5.out.later (drew_later hw6))
                  have HG6 := Lib.hid (((drew_later hw6).block g hg5).trans HG5.out)
                  have hg6w : g < w6.heap.size := Nat.lt_of_lt_of_le hg5 (drew_later hw6).size
                  have HA16 := Lib.hid (((drew_later hw6).cell _ hg25).trans HA15.out)
                  have HA06 := Lib.hid (((drew_later hw6).cell _ hg25).trans HA05.out)
                  have hg26 := Nat.lt_of_lt_of_le hg25 (drew_later hw6).size
                  clear hw6 HIN5 HCX5 HCF5 HZ5 HA15 HA05
                  refine wpU_take 1 (some 62) (v := ?_) rfl rfl (by kernel_rfl) (fun _ _ _ h => h) rfl (fun x hx => ?_) ?_
                  rotate_left 1
                  · go_simp; first | done | with_reducible rfl | rw [if_neg (by omega)] | rw [if_pos (by omega)]
                  simp only [Act.put, nA, nB, nC]
                  refine wpU_take 2 (some 63) (v := ?_) rfl rfl (by kernel_rfl) (fun _ _ _ h => h) rfl (fun x hx => ?_) ?_
                  rotate_left 1
                  · go_simp; first | done | with_reducible rfl | rw [if_neg (by omega)] | rw [if_pos (by omega)]
                  simp only [Act.put, nA, nB, nC]
                  refine wpU_take 3 (some 64) (v := ?_) rfl rfl (by kernel_rfl) (fun _ _ _ h => h) rfl (fun x hx => ?_) ?_
                  rotate_left 1
                  · go_simp; first | done | with_reducible rfl | rw [if_neg (by omega)] | rw [if_pos (by omega)]
                  simp only [Act.put, nA, nB, nC]
                  refine wpU_take 4 (some 65) (v := ?_) rfl rfl (by kernel_rfl) (fun _ _ _ h => h) rfl (fun x hx => ?_) ?_
                  rotate_left 1
                  · go_simp; first | done | with_reducible rfl | rw [if_neg (by omega)] | rw [if_pos (by omega)]
                  simp only [Act.put, nA, nB, nC]
                  refine wpU_take 5 (some 66) (v := ?_) rfl rfl (by kernel_rfl) (fun _ _ _ h => h) rfl (fun x hx => ?_) ?_
                  rotate_left 1
                  · have e1 := (((hx.cell _ hg6w).trans (cell_heap HG6.out _)).trans HE01.out); have a1 := (hx.cell _ hg26).trans HA16.out; have hg6 : g < x.heap.size := Nat.lt_of_lt_of_le hg6w hx.size; have hg26x : g2 < x.heap.size := Nat.lt_of_lt_of_le hg26 hx.size; go_simp; first | done | with_reducible rfl | rw [if_neg (by omega)] | rw [if_pos (by omega)]
                  simp only [Act.put, nA, nB, nC]
                  refine wpU_take 7 (some 68) (v := ?_) rfl rfl (by kernel_rfl) (fun _ _ _ h => h) rfl (fun x hx => ?_) ?_
                  rotate_left 1
                  · go_simp; first | done | with_reducible rfl | rw [if_neg (by omega)] | rw [if_pos (by omega)]
                  simp only [Act.put, nA, nB, nC]
                  refine wpU_take 8 (some 69) (v := ?_) rfl rfl (by kernel_rfl) (fun _ _ _ h => h) rfl (fun x hx => ?_) ?_
                  rotate_left 1
                  · go_simp; first | done | with_reducible rfl | rw [if_neg (by omega)] | rw [if_pos (by omega)]
                  simp only [Act.put, nA, nB, nC]
                  refine wpU_take 9 (some 70) (v := ?_) rfl rfl (by kernel_rfl) (fun _ _ _ h => h) rfl (fun x hx => ?_) ?_
                  rotate_left 1
                  · go_simp; first | done | with_reducible rfl | rw [if_neg (by omega)] | rw [if_pos (by omega)]
                  simp only [Act.put, nA, nB, nC]
                  refine wpU_take 10 (some 71) (v := ?_) rfl rfl (by kernel_rfl) (fun _ _ _ h => h) rfl (fun x hx => ?_) ?_
                  rotate_left 1
                  · go_simp; first | done | with_reducible rfl | rw [if_neg (by omega)] | rw [if_pos (by omega)]
                  simp only [Act.put, nA, nB, nC]
                  refine wpU_take 11 (some 72) (v := ?_) rfl rfl (by kernel_rfl) (fun _ _ _ h => h) rfl (fun x hx => ?_) ?_
                  rotate_left 1
                  · have e1 := (((hx.cell _ hg6w).trans (cell_heap HG6.out _)).trans HE01.out); have a1 := (hx.cell _ hg26).trans HA16.out; have hg6 : g < x.heap.size := Nat.lt_of_lt_of_le hg6w hx.size; have hg26x : g2 < x.heap.size := Nat.lt_of_lt_of_le hg26 hx.size; go_simp; first | done | with_reducible rfl | rw [if_neg (by omega)] | rw [if_pos (by omega)]
                  simp only [Act.put, nA, nB, nC]
                  refine wpU_step 0 (by kernel_rfl) rfl rfl ?_  -- buildSlice 
                  go_wp2_with fail
                  refine ⟨(Later.refl _).alloc _, ?_⟩
                  refine wpU_step 6 (by kernel_rfl) rfl rfl ?_  -- call builtin Go.Builtin.append
                  have hle6 := Later.alloc (Later.refl w6) (.cells #[] TK)
                  refine wpList_append_fresh _ rfl _ _ _ rfl w6.heap.size 0 TK ik _ 3 24 Try.underlying31 hik hik0 hik1 hik2 rfl rfl (heap_alloc_new w6 _) (Nat.le_refl _) rfl (HCF6.out.keepT (KeepT.later hle6)) (by omega) (by omega) ?_
                  intro v7 w7 hrow7 hl7 hown7
                  have HR7 := Lib.hid hrow7
                  have HL7 := Lib.hid (hle6.trans hl7)
                  have HCX7 := Lib.hid (HCX6.out.keepT (KeepT.later (hle6.trans hl7)))
                  clear hrow7 hown7
                  go_wp2_with fail
                  refine ⟨hl7, ?_⟩
                  clear hl7 hle6
                  refine wpU_last [_, _] (by kernel_rfl) rfl rfl ?_
                  simp only [List.getElem_toArray, List.getElem_cons_succ, List.getElem_cons_zero]
                  refine wpList_append_row _ rfl _ _ _ rfl w6.heap.size 0 TK ik _ 3 24 Try.underlying31 hik hik0 hik1 hik2 rfl rfl HR7.out rfl HCX7.out (capCells_one _) ?_ ?_ (by omega) ?_ ?_
                  · omega
                  · omega
                  · exact HL7.out.size
                  intro v8 w8 hrow8 hg8 hown8
                  have hL8 : Later w6 w8 := Below.grown HL7.out hg8 HL7.out.size (fun k hk => (HR7.out.lt k hk).1)
                  have HIN8 := Lib.hid (HIN6.out.later hL8)
                  have HZ8 := Lib.hid (HZ6.out.later hL8)
                  have HG8 := Lib.hid ((hL8.block g hg6w).trans HG6.out)
                  have hg8w : g < w8.heap.size := Nat.lt_of_lt_of_le hg6w hL8.size
                  obtain ⟨vA8, vc8, rfl, _, _⟩ := hrow8.form
                  have HR8 := Lib.hid (show HasRow w8 0 TK 3 (.slice vA8 (fe.caps.length + xe.caps.length) vc8) (fe.caps.length + xe.caps.length) (capCells (fe.caps ++ xe.caps)) from by rw [capCells_append]; exact hrow8.weak (Nat.zero_le _))
                  have a0 := (hL8.cell _ hg26).trans HA06.out
                  have hg28 : g2 < w8.heap.size := Nat.lt_of_lt_of_le hg26 hL8.size
                  clear hrow8 hg8 hown8 hL8 HIN6 HZ6 HR7 HL7 HCX7 HCX6 HCF6
                  have hlz := Later.alloc (Later.refl w8) (.cells #[.int .i64 xe.at_, .slice vA8 (fe.caps.length + xe.caps.length) vc8] TE)
                  have hin8 := HIN8.out.later hlz
                  obtain ⟨xs, hx8, he8⟩ := hin8.row
                  have hlen8 : (acc ++ (l2.take k).map fe.join).length ≤ 100000 := by simp; omega
                  have HX8 := Lib.hid hx8
                  have HEl8 := Lib.hid he8
                  have HIN9 := Lib.hid hin8
                  clear hin8 hx8 he8
                  go_wp2_with (at_builtin; refine wpList_append_has _ rfl _ _ _ rfl base TE ie _ 2 32 Try.underlying55 hie hie0 hie1 hie2 rfl _ _ xs rfl HX8.out _ 1 1 [.int .i64 xe.at_, .slice vA8 (fe.caps.length + xe.caps.length) vc8] rfl rfl ?c1 ?c2 (by omega) ?c3 ?c4 ?c5 ?_; fail_if_success done)
                  case c1 => exact cells_fresh _ [_, _] _
                  case c2 =>
                    intro u hu
                    simp only [List.mem_cons, List.not_mem_nil, or_false] at hu
                    rcases hu with rfl | rfl <;> rfl
                  case c3 => simp only [maxLen]; omega
                  case c4 => omega
                  case c5 => exact HIN9.out.hP.2.1
                  intro v' w9 hrow9 hg9 hb9
                  have hst9 : FSt w9 M dA dn dc s (z - 1) := (HZ8.out.later hlz).same (hg9.block M (HZ8.out.later hlz).lt (fun e => by have := (HX8.out.lt M e.symm).1; omega))
                  have hlk : (acc ++ List.map fe.join (List.take k l2)).length = acc.length + k := by simp; omega
                  have hg9x : w9.heap[g]? = w.heap[g]? ∧ v'.ownBlock ≠ some g := by
                    have h1 : g < (w8.alloc (.cells #[.int .i64 xe.at_, .slice vA8 (fe.caps.length + xe.caps.length) vc8] TE)).heap.size := Nat.lt_of_lt_of_le hg8w hlz.size
                    refine ⟨(hg9.block g h1 (fun e => HGX.out.2 e.symm)).trans ((hlz.block g hg8w).trans HG8.out), ?_⟩
                    rcases hb9 with hb | hb
                    · rw [hb]; exact HGX.out.2
                    · rw [hb]; intro e; simp at e; omega
                  have HG9 := Lib.hid hg9x
                  clear hg9x
                  have hin9 := HIN9.out.push (cs := _) rfl hk (y := w9) (v' := v') (jv := .slice vA8 (fe.caps.length + xe.caps.length) vc8) HX8.out HEl8.out (by rw [HXE.out]; simp only [End.join, List.length_append]; exact (HR8.out.keepT (KeepT.later hlz))) (by rw [HXE.out, hlk]; exact hrow9) hg9 (by simpa using hb9)
                  have HI9 := Lib.hid hin9
                  have HS9 := Lib.hid hst9
                  clear hin9 hst9 hrow9 hg9 hb9 hlz HX8 HEl8 HIN9 HIN8 HZ8 HR8 a0
                  go_wp2_with fail
                  go_roundw
                  case rel => exact ⟨k + 1, _, z - 1, rfl, by simp, by omega, by have := HZK.out; omega, HS9.out, HG9.out, HI9.out⟩
                  case measure => simp [intOf]; omega
                · have t4 : decide ((0 : Int) ≤ z) = false := decide_eq_false (by omega)
                  have hzn : z < 0 := by omega
                  clear hzk
                  have heq2 := HEQ1.out
                  rw [if_neg (by omega)] at heq2
                  have HTN := Lib.hid heq2.symm
                  have HLBK := Lib.hid (lb_join HACC.out hfc hq2 hq3 ⟨hl2n, HLB.out⟩ hkb hb1)
                  have HROW := Lib.hid HIN.out.row
                  have HFR := Lib.hid HIN.out.fr
                  have HBLK := Lib.hid HIN.out.blk
                  clear heq2
                  cases st2
                  · go_wp2_with fail
                    clear m0 m1 m2 mf
                    go_roundw
                    case rel => exact ⟨j + 1, _, none, _, rfl, by simp, by omega, fun k hk => (by cases hk; exact HGX.out), HROW.out, HFR.out, HBLK.out, HTN.out, HLBK.out, z, HST.out, hzn, by omega⟩
                    case measure => simp [intOf]; omega
                  · go_wp2_with fail
                    go_ret2
                    refine ⟨_, _, rfl, HFR.out, ?_⟩
                    rw [HTN.out]
                    exact ⟨⟨_, HROW.out, HLBK.out⟩, z, HST.out, hzn, by omega⟩
              · have t3 : decide ((k : Int) < l2.length) = false := decide_eq_false (by omega)
                have t3' : decide (k < l2.length) = false := decide_eq_false (by omega)
                have hke : k = l2.length := by omega
                by_cases hlb1 : l2.length ≤ b1
                · clear hzk
                  have heq2 := HEQ1.out
                  rw [if_pos (by omega)] at heq2
                  have HEQ2 := Lib.hid heq2
                  have hrow := HIN.out.row
                  rw [hke, List.take_length] at hrow
                  have HROW := Lib.hid hrow
                  have HFR := Lib.hid HIN.out.fr
                  have HBLK := Lib.hid HIN.out.blk
                  have HZ2 := Lib.hid (HST.out.of (z' := ((b1 - l2.length : Nat) : Int)) (by have := HZK.out; omega))
                  clear heq2 hrow
                  cases st2
                  · go_wp2_with fail
                    clear m0 m1 m2 mf
                    go_roundw
                    case rel => exact ⟨j + 1, _, some (b1 - l2.length), _, rfl, by simp, by omega, fun k hk => (by cases hk; exact HGX.out), HROW.out, HFR.out, HBLK.out, by omega, by omega, HZ2.out, ⟨q + (b2 - (b1 - l2.length)), ⟨by simp; omega, fun x hx => by
                        rcases List.mem_append.1 hx with hx | hx
                        · have := HACC.out.2 x hx; omega
                        · obtain ⟨y, hy, rfl⟩ := List.mem_map.1 hx
                          have := HLB.out y hy
                          simp only [End.join, List.length_append]
                          omega⟩, by omega, by omega⟩, HEQ2.out, HFW.out⟩
                    case measure => simp [intOf]; omega
                  · go_wp2_with fail
                    go_ret2
                    refine ⟨_, _, rfl, HFR.out, ?_⟩
                    rw [← HEQ2.out]
                    exact ⟨by simp, HROW.out, HZ2.out⟩
                · have hzn : z < 0 := by omega
                  clear hzk
                  have heq2 := HEQ1.out
                  rw [if_neg (by omega)] at heq2
                  have HTN := Lib.hid heq2.symm
                  have HLBK := Lib.hid (lb_join HACC.out hfc hq2 hq3 ⟨hl2n, HLB.out⟩ hkb hb1)
                  have HROW := Lib.hid HIN.out.row
                  have HFR := Lib.hid HIN.out.fr
                  have HBLK := Lib.hid HIN.out.blk
                  clear heq2
                  cases st2
                  · go_wp2_with fail
                    clear m0 m1 m2 mf
                    go_roundw
                    case rel => exact ⟨j + 1, _, none, _, rfl, by simp, by omega, fun k hk => (by cases hk; exact HGX.out), HROW.out, HFR.out, HBLK.out, HTN.out, HLBK.out, z, HST.out, hzn, by omega⟩
                    case measure => simp [intOf]; omega
                  · go_wp2_with fail
                    go_ret2
                    refine ⟨_, _, rfl, HFR.out, ?_⟩
                    rw [HTN.out]
                    exact ⟨⟨_, HROW.out, HLBK.out⟩, z, HST.out, hzn, by omega⟩
    · have t1 : decide ((j : Int) < firsts.length) = false := decide_eq_false (by omega)
      have t1' : decide (j < firsts.length) = false := decide_eq_false (by omega)
      have hj : j = firsts.length := by omega
      go_wp2_with fail
      go_ret2
      refine ⟨_, _, rfl, HAS.out.fr, ?_⟩
      have hfu := HAS.out.fuel
      cases ob with
      | some b =>
        obtain ⟨h1, h2, h3, h4, h5, h6⟩ := hfu
        rw [hj, List.drop_length] at h5
        simp only [afterE] at h5
        rw [← h5]
        exact ⟨by simp, HAS.out.row, h3⟩
      | none =>
        obtain ⟨h1, h2, z, h3, h4, h5⟩ := hfu
        rw [h1]
        exact ⟨⟨acc, HAS.out.row, h2⟩, z, h3, h4, by rw [hj] at h5; exact h5⟩
end Go.Proofs.Ytndefbecoahfhaa

/- spec's l19Ends: its base and the plain cases. Printed by gen_endsp2.py. -/
namespace Go.Proofs.Ytndefbecoahfhaa
open Go.RowKit

theorem kid_cells2 {w0 x : World} {kids : List Pat} {A : Option Addr} (h : RowIn w0 A 0 kids) {j : Nat} (hj : j < kids.length) (hb : Below w0.heap.size w0 x) :
    ∃ g kA kc, A = some ⟨g, 0, none⟩ ∧ KidsIn w0 kids[j] (.slice kA kids[j].kids.length kc) ∧ ElemAt x g j kids[j] (.slice kA kids[j].kids.length kc) ∧ g < w0.heap.size := by
  obtain ⟨g, kv, e, hg, he, hk⟩ := rowOf w0 kids h hj
  obtain ⟨kA, kc, rfl, _, _⟩ := hk.form
  exact ⟨g, kA, kc, e, hk, he.later hg hb, hg⟩
/-- A state of the walk of l19Ends: the pattern's box and the row 'here' stand, block M holds the fuel z. -/
structure SpAt (w0 w : World) (M : Nat) (dA : Option Addr) (dn dc : Nat) (s : ByteArray) (cs : Array Value) (a : Nat) (z : Int) (x : World) : Prop where
  st : FSt x M dA dn dc s z
  fr : Drawn M w x
  blk : x.heap[w.heap.size]? = some (.cells cs TP (0, 0))
  here : x.heap[w.heap.size + 1]? = some (.cells #[.int .i64 a, .slice none 0 0] TE (0, 0))
  base : Later w0 x
  hM : M < w.heap.size ∧ w0.heap.size ≤ M
section
variable {w0 w : World} {M : Nat} {dA : Option Addr} {dn dc : Nat} {s : ByteArray} {cs : Array Value} {a b : Nat} {z z' : Int} {x y : World}
theorem SpAt.later (h : SpAt w0 w M dA dn dc s cs a z x) (hl : Later x y) : SpAt w0 w M dA dn dc s cs a z y :=
  ⟨h.st.later hl, h.fr.trans (Drawn.later hl (Nat.le_of_lt h.st.lt)), hl.has h.blk, hl.has h.here, h.base.trans hl, h.hM⟩
theorem SpAt.drawn (h : SpAt w0 w M dA dn dc s cs a z x) (hd : Drawn M x y) (hs : FSt y M dA dn dc s z') : SpAt w0 w M dA dn dc s cs a z' y :=
  ⟨hs, h.fr.trans hd, hd.has h.blk (by have := h.hM; omega), hd.has h.here (by have := h.hM; omega), later_drawn h.base hd h.hM.2, h.hM⟩
theorem SpAt.size (h : SpAt w0 w M dA dn dc s cs a z x) : w.heap.size + 1 < x.heap.size := has_lt' h.here
theorem SpAt.start (hst : FSt w M dA dn dc s z') (hl : Later w0 w) (hM : w0.heap.size ≤ M) (cs : Array Value) (a : Nat) (z : Int) :
    SpAt w0 w M dA dn dc s cs a z (((w.setCell ⟨M, 2, none⟩ (.int .i64 z)).alloc (.cells cs TP)).alloc (.cells #[.int .i64 a, .slice none 0 0] TE)) := by
  have h1 := hst.set z
  have hd1 : Drawn M w (w.setCell ⟨M, 2, none⟩ (.int .i64 z)) := (Drawn.refl M w).set 2 _
  have l1 := Later.alloc (Later.refl (w.setCell ⟨M, 2, none⟩ (.int .i64 z))) (.cells cs TP)
  have l2 := Later.alloc (Later.refl ((w.setCell ⟨M, 2, none⟩ (.int .i64 z)).alloc (.cells cs TP))) (.cells #[.int .i64 a, .slice none 0 0] TE)
  have hd : Drawn M w (((w.setCell ⟨M, 2, none⟩ (.int .i64 z)).alloc (.cells cs TP)).alloc (.cells #[.int .i64 a, .slice none 0 0] TE)) := hd1.trans (Drawn.later (l1.trans l2) (Nat.le_of_lt h1.lt))
  refine ⟨(h1.later l1).later l2, hd, l2.has ?_, ?_, later_drawn hl hd hM, hst.lt, hM⟩
  · have := heap_alloc_new (w.setCell ⟨M, 2, none⟩ (.int .i64 z)) (.cells cs TP)
    simpa using this
  · have := heap_alloc_new ((w.setCell ⟨M, 2, none⟩ (.int .i64 z)).alloc (.cells cs TP)) (.cells #[.int .i64 a, .slice none 0 0] TE)
    simpa using this
theorem spPost_none {n : Nat} {T : EvR} (hT : T = none) {l : List End} {v : Value} (hr : EndRow w.heap.size x l v) (hl : LB l (b + 122)) (hd : Drawn M w x) (hn : FSt x M dA dn dc s z) (hz : z < 0) (hz2 : -4000 * (n : Int) ≤ z) (st : Bool) : SpPost w M dA dn dc s b n T (.returned (.tuple #[v, .bool st])) x :=
  ⟨v, st, rfl, hd, by subst hT; exact ⟨⟨l, hr, hl⟩, z, hn, hz, hz2⟩⟩
theorem spPost_some {n b' : Nat} {T : EvR} {l : List End} {st : Bool} (hT : T = some (l, st, b')) {v : Value} (hr : EndRow w.heap.size x l v) (hd : Drawn M w x) (hn : FSt x M dA dn dc s b') : SpPost w M dA dn dc s b n T (.returned (.tuple #[v, .bool st])) x :=
  ⟨v, st, rfl, hd, by subst hT; exact ⟨rfl, hr, hn⟩⟩
theorem EndRow.hereRow {base B : Nat} (hb : base ≤ B) (h : x.heap[B]? = some (.cells #[.int .i64 a, .slice none 0 0] TE (0, 0))) : EndRow base x [⟨a, []⟩] (.slice (some ⟨B, 0, none⟩) 1 1) :=
  ⟨[.int .i64 a, .slice none 0 0], ⟨rfl, .inr ⟨B, 1, _, rfl, hb, h, Nat.le_refl _, by decide, Nat.le_refl _, rfl⟩⟩, ElemsE.one (e := ⟨a, []⟩) (HasRow.nil _ _ _ _)⟩
theorem spPost_then {w4 w5 : World} {base n m K : Nat} {stop hl st : Bool} {T : EvR} {v : Value} (hfr : Drawn M w w4) (hbase : w.heap.size ≤ base) (hMw : M < w.heap.size) (hd5 : DrB base M w4 w5)
    (hpost : match T with
      | some (L, st', b') => (stop || hl) = st' ∧ EndRow base w5 L v ∧ FSt w5 M dA dn dc s b'
      | none => (∃ l, EndRow base w5 l v ∧ LB l K) ∧ ∃ z : Int, FSt w5 M dA dn dc s z ∧ z < 0 ∧ -4000 * (n : Int) - 1 - (m : Int) ≤ z)
    (hm : m ≤ 3900) (hK : K ≤ b + 123) (hst : st = (stop || hl)) : SpPost w M dA dn dc s (b + 1) (n + 1) T (.returned (.tuple #[v, .bool st])) w5 := by
  subst hst
  refine ⟨v, _, rfl, hfr.trans' (hd5.weak hbase) hMw, ?_⟩
  cases T with
  | none =>
    obtain ⟨⟨l, h1, h2⟩, z, h3, h4, h5⟩ := hpost
    exact ⟨⟨l, h1.weak hbase, h2.mono (by omega)⟩, z, h3, h4, by omega⟩
  | some r =>
    obtain ⟨L, st', b'⟩ := r
    exact ⟨hpost.1, hpost.2.1.weak hbase, hpost.2.2⟩
end

set_option maxRecDepth 100000 in
set_option maxHeartbeats 1000000 in
theorem ends_zero {w : World} {M : Nat} {dA : Option Addr} {dn dc : Nat} {s : ByteArray} {defs : List Pat} {n a : Nat} {text : ByteArray} {op num lo hi : Int} {kids : List Pat} {A : Option Addr} {l c : Nat}
    (hst : FSt w M dA dn dc s ((0 : Nat) : Int)) :
    Calls Try.prog 58 #[.pointer (some ⟨M, 0, none⟩), patV op text num lo hi (.slice A l c), .int .i64 a] w (SpPost w M dA dn dc s 0 (n + 1) (ev defs s (n + 1) 0 (.mk op text num lo hi kids) a)) := by
  have hMlt := hst.lt
  have hst' := hst.of (show ((0 : Nat) : Int) = (0 : Int) by omega)
  obtain ⟨m0, m1, m2⟩ := hst'.cells
  have mf := frozen_of_row w M 2 _ _ hst'
  have HS := Lib.hid hst'
  clear hst hst'
  go_enter Try.func58, Try.ntmps58
  go_wp2_with fail
  go_ret2
  exact spPost_none (ev_zero ..) (EndRow.nil _ _) (LB.nil _) (((Drawn.refl M w).set 2 _).trans (Drawn.later (Later.alloc (Later.refl _) _) (by simp; omega))) ((HS.out.set (-1)).later (Later.alloc (Later.refl _) _)) (by omega) (by omega) _

set_option maxRecDepth 100000 in
set_option maxHeartbeats 4000000 in
theorem ends_simple {w0 w : World} {M : Nat} {dA : Option Addr} {dn dc : Nat} {s : ByteArray} {defs : List Pat} {n b a : Nat} {text : ByteArray} {num lo hi : Int} {l : Nat} {kids : List Pat} {A : Option Addr} {c : Nat} {op : Int}
    (hst : FSt w M dA dn dc s ((b + 1 : Nat) : Int)) (hb3 : b ≤ 3000) (hl : Later w0 w) (hM : w0.heap.size ≤ M) (hs : s.size ≤ 120) (ha : a ≤ s.size) (hsi : isSimple op) (hok : okWords op text num) :
    Calls Try.prog 58 #[.pointer (some ⟨M, 0, none⟩), patV op text num lo hi (.slice A l c), .int .i64 a] w (SpPost w M dA dn dc s (b + 1) (n + 1) (ev defs s (n + 1) (b + 1) (.mk op text num lo hi kids) a)) := by
  have HSI := Lib.hid hsi
  have HOK := Lib.hid hok
  clear hok
  unfold isSimple at hsi
  have hMlt := hst.lt
  have hlw := hl.size
  have hst' := hst.of (show ((b + 1 : Nat) : Int) = (b : Int) + 1 by omega)
  obtain ⟨m0, m1, m2⟩ := hst'.cells
  have mf := frozen_of_row w M 2 _ _ hst'
  skip
  have HE := Lib.hid (SpAt.start hst' hl hM #[.int .i64 op, .string text, .int .i64 num, .int .i64 lo, .int .i64 hi, .slice A l c] a (b : Int))
  have HLW := Lib.hid hl
  clear hst hst' hl
  go_enter Try.func58, Try.ntmps58
  go_wp2_with fail
  -- region 48: 8 operations, the last []
  refine wpU_begin [] [] (by kernel_rfl) (fun w2 hw2 => ?_)
  have HE2 := Lib.hid (HE.out.later (drew_later hw2))
  clear hw2 HE m0 m1 m2 mf
  refine wpU_take 0 (some 235) (v := ?_) rfl rfl (by kernel_rfl) (fun _ _ _ h => h) rfl (fun x hx => ?_) ?_
  rotate_left 1
  · obtain ⟨m0, m1, m2⟩ := (HE2.out.st.later hx).cells; obtain ⟨p0, p1, p2, p3, p4, p5⟩ := cells_p (hx.has HE2.out.blk); go_simp; first | done | with_reducible rfl | rw [if_neg (by omega)] | rw [if_pos (by omega)]
  simp only [Act.put, nA, nB, nC]
  refine wpU_take 1 (some 236) (v := ?_) rfl rfl (by kernel_rfl) (fun _ _ _ h => h) rfl (fun x hx => ?_) ?_
  rotate_left 1
  · go_simp; first | done | with_reducible rfl | rw [if_neg (by omega)] | rw [if_pos (by omega)]
  simp only [Act.put, nA, nB, nC]
  refine wpU_take 2 (some 237) (v := ?_) rfl rfl (by kernel_rfl) (fun _ _ _ h => h) rfl (fun x hx => ?_) ?_
  rotate_left 1
  · go_simp; first | done | with_reducible rfl | rw [if_neg (by omega)] | rw [if_pos (by omega)]
  simp only [Act.put, nA, nB, nC]
  refine wpU_take 3 (some 238) (v := ?_) rfl rfl (by kernel_rfl) (fun _ _ _ h => h) rfl (fun x hx => ?_) ?_
  rotate_left 1
  · go_simp; first | done | with_reducible rfl | rw [if_neg (by omega)] | rw [if_pos (by omega)]
  simp only [Act.put, nA, nB, nC]
  refine wpU_take 4 (some 239) (v := ?_) rfl rfl (by kernel_rfl) (fun _ _ _ h => h) rfl (fun x hx => ?_) ?_
  rotate_left 1
  · obtain ⟨m0, m1, m2⟩ := (HE2.out.st.later hx).cells; obtain ⟨p0, p1, p2, p3, p4, p5⟩ := cells_p (hx.has HE2.out.blk); go_simp; first | done | with_reducible rfl | rw [if_neg (by omega)] | rw [if_pos (by omega)]
  simp only [Act.put, nA, nB, nC]
  refine wpU_take 5 (some 240) (v := ?_) rfl rfl (by kernel_rfl) (fun _ _ _ h => h) rfl (fun x hx => ?_) ?_
  rotate_left 1
  · go_simp; first | done | with_reducible rfl | rw [if_neg (by omega)] | rw [if_pos (by omega)]
  simp only [Act.put, nA, nB, nC]
  refine wpU_step 6 (by kernel_rfl) rfl rfl ?_  -- call value (Go.Operand.func 82)
  go_wp2_with fail
  refine (l19One_any _ _ _ _ _ _ _ _ _ _ _ HSI.out HOK.out hs ha).mono ?_
  rintro e w3 ⟨rfl, hb3⟩
  go_wp2_with fail
  refine ⟨hb3, ?_⟩
  have HE3 := Lib.hid (HE2.out.later hb3)
  clear HE2 hb3
  refine wpU_take 7 (some 28) (v := ?_) rfl rfl (by kernel_rfl) (fun _ _ _ h => h) rfl (fun x hx => ?_) ?_
  rotate_left 1
  · go_simp; first | done | with_reducible rfl | rw [if_neg (by omega)] | rw [if_pos (by omega)]
  simp only [Act.put, nA, nB, nC]
  refine wpU_last [] (by kernel_rfl) rfl rfl ?_
  cases hz : oneEnd op text num lo hi s a with
  | none =>
    have HZ := Lib.hid hz
    have ht : endInt (none : Option Nat) = -1 := rfl
    clear hz
    go_wp2_with fail
    go_ret2
    exact spPost_some (by rw [ev_simple _ _ _ _ _ _ _ _ _ _ _ HSI.out, HZ.out]) (EndRow.nil _ _) HE3.out.fr HE3.out.st
  | some z =>
    have HZ := Lib.hid hz
    have ht : endInt (some z) = (z : Int) := rfl
    clear hz
    go_wp2_with fail
    go_ret2
    exact spPost_some (by rw [ev_simple _ _ _ _ _ _ _ _ _ _ _ HSI.out, HZ.out]) (EndRow.single _ _ _ _ (by have := HE3.out.size; omega) rfl) (HE3.out.later (Later.alloc (Later.refl _) _)).fr (HE3.out.later (Later.alloc (Later.refl _) _)).st

set_option maxRecDepth 100000 in
set_option maxHeartbeats 4000000 in
theorem ends_cursor {w0 w : World} {M : Nat} {dA : Option Addr} {dn dc : Nat} {s : ByteArray} {defs : List Pat} {n b a : Nat} {text : ByteArray} {num lo hi : Int} {l : Nat} {kids : List Pat} {A : Option Addr} {c : Nat} 
    (hst : FSt w M dA dn dc s ((b + 1 : Nat) : Int)) (hb3 : b ≤ 3000) (hl : Later w0 w) (hM : w0.heap.size ≤ M) (hs : s.size ≤ 120) (ha : a ≤ s.size) :
    Calls Try.prog 58 #[.pointer (some ⟨M, 0, none⟩), patV 18 text num lo hi (.slice A l c), .int .i64 a] w (SpPost w M dA dn dc s (b + 1) (n + 1) (ev defs s (n + 1) (b + 1) (.mk 18 text num lo hi kids) a)) := by
  have hMlt := hst.lt
  have hlw := hl.size
  have hst' := hst.of (show ((b + 1 : Nat) : Int) = (b : Int) + 1 by omega)
  obtain ⟨m0, m1, m2⟩ := hst'.cells
  have mf := frozen_of_row w M 2 _ _ hst'
  skip
  have HE := Lib.hid (SpAt.start hst' hl hM #[.int .i64 18, .string text, .int .i64 num, .int .i64 lo, .int .i64 hi, .slice A l c] a (b : Int))
  have HLW := Lib.hid hl
  clear hst hst' hl
  go_enter Try.func58, Try.ntmps58
  go_wp2_with fail
  go_ret2
  have hB : (⟨(w.setCell ⟨M, 2, none⟩ (.int .i64 (b : Int))).heap.size + 1, 0, none⟩ : Addr) = ⟨w.heap.size + 1, 0, none⟩ := by simp
  exact spPost_some (ev_cursor ..) (EndRow.hereRow (Nat.le_succ _) HE.out.here) HE.out.fr HE.out.st

set_option maxRecDepth 100000 in
set_option maxHeartbeats 4000000 in
theorem ends_fence {w0 w : World} {M : Nat} {dA : Option Addr} {dn dc : Nat} {s : ByteArray} {defs : List Pat} {n b a : Nat} {text : ByteArray} {num lo hi : Int} {l : Nat} {kids : List Pat} {A : Option Addr} {c : Nat} 
    (hst : FSt w M dA dn dc s ((b + 1 : Nat) : Int)) (hb3 : b ≤ 3000) (hl : Later w0 w) (hM : w0.heap.size ≤ M) (hs : s.size ≤ 120) (ha : a ≤ s.size) :
    Calls Try.prog 58 #[.pointer (some ⟨M, 0, none⟩), patV 19 text num lo hi (.slice A l c), .int .i64 a] w (SpPost w M dA dn dc s (b + 1) (n + 1) (ev defs s (n + 1) (b + 1) (.mk 19 text num lo hi kids) a)) := by
  have hMlt := hst.lt
  have hlw := hl.size
  have hst' := hst.of (show ((b + 1 : Nat) : Int) = (b : Int) + 1 by omega)
  obtain ⟨m0, m1, m2⟩ := hst'.cells
  have mf := frozen_of_row w M 2 _ _ hst'
  skip
  have HE := Lib.hid (SpAt.start hst' hl hM #[.int .i64 19, .string text, .int .i64 num, .int .i64 lo, .int .i64 hi, .slice A l c] a (b : Int))
  have HLW := Lib.hid hl
  clear hst hst' hl
  go_enter Try.func58, Try.ntmps58
  go_wp2_with fail
  go_ret2
  have hB : (⟨(w.setCell ⟨M, 2, none⟩ (.int .i64 (b : Int))).heap.size + 1, 0, none⟩ : Addr) = ⟨w.heap.size + 1, 0, none⟩ := by simp
  exact spPost_some (ev_fence ..) (EndRow.hereRow (Nat.le_succ _) HE.out.here) HE.out.fr HE.out.st

set_option maxRecDepth 100000 in
set_option maxHeartbeats 4000000 in
theorem ends_abort {w0 w : World} {M : Nat} {dA : Option Addr} {dn dc : Nat} {s : ByteArray} {defs : List Pat} {n b a : Nat} {text : ByteArray} {num lo hi : Int} {l : Nat} {kids : List Pat} {A : Option Addr} {c : Nat} 
    (hst : FSt w M dA dn dc s ((b + 1 : Nat) : Int)) (hb3 : b ≤ 3000) (hl : Later w0 w) (hM : w0.heap.size ≤ M) (hs : s.size ≤ 120) (ha : a ≤ s.size) :
    Calls Try.prog 58 #[.pointer (some ⟨M, 0, none⟩), patV 21 text num lo hi (.slice A l c), .int .i64 a] w (SpPost w M dA dn dc s (b + 1) (n + 1) (ev defs s (n + 1) (b + 1) (.mk 21 text num lo hi kids) a)) := by
  have hMlt := hst.lt
  have hlw := hl.size
  have hst' := hst.of (show ((b + 1 : Nat) : Int) = (b : Int) + 1 by omega)
  obtain ⟨m0, m1, m2⟩ := hst'.cells
  have mf := frozen_of_row w M 2 _ _ hst'
  skip
  have HE := Lib.hid (SpAt.start hst' hl hM #[.int .i64 21, .string text, .int .i64 num, .int .i64 lo, .int .i64 hi, .slice A l c] a (b : Int))
  have HLW := Lib.hid hl
  clear hst hst' hl
  go_enter Try.func58, Try.ntmps58
  go_wp2_with fail
  go_ret2
  exact spPost_some (ev_abort ..) (EndRow.nil _ _) HE.out.fr HE.out.st

end Go.Proofs.Ytndefbecoahfhaa

/- spec's l19Ends: the cases with the endings of a kid. Printed by gen_endsp2.py. -/
namespace Go.Proofs.Ytndefbecoahfhaa
open Go.RowKit

set_option maxRecDepth 100000 in
set_option maxHeartbeats 4000000 in
theorem ends_cat {w0 w : World} {M : Nat} {dA : Option Addr} {dn dc : Nat} {s : ByteArray} {defs : List Pat} {n b a : Nat} {text : ByteArray} {num lo hi : Int} {k0 k1 : Pat} {A : Option Addr} {c : Nat} 
    (hst : FSt w M dA dn dc s ((b + 1 : Nat) : Int)) (hb3 : b ≤ 3000) (hl : Later w0 w) (hM : w0.heap.size ≤ M) (hs : s.size ≤ 120) (ha : a ≤ s.size) (hkid : KidsIn w0 (.mk 14 text num lo hi [k0, k1]) (.slice A 2 c)) (ih : ∀ (p : Pat) (kv : Value), valid p dn = true → KidsIn w0 p kv → EndsIs w0 M dA dn dc defs s n p kv) (hbn : b < n) (hn : n ≤ 4000) (hv0 : valid k0 dn = true) (hv1 : valid k1 dn = true) (hdv : DefsOkV defs) (hdn : dn = defs.length) :
    Calls Try.prog 58 #[.pointer (some ⟨M, 0, none⟩), patV 14 text num lo hi (.slice A 2 c), .int .i64 a] w (SpPost w M dA dn dc s (b + 1) (n + 1) (ev defs s (n + 1) (b + 1) (.mk 14 text num lo hi [k0, k1]) a)) := by
  have HIH := Lib.hid ih
  clear ih
  have hMlt := hst.lt
  have hlw := hl.size
  have hst' := hst.of (show ((b + 1 : Nat) : Int) = (b : Int) + 1 by omega)
  obtain ⟨m0, m1, m2⟩ := hst'.cells
  have mf := frozen_of_row w M 2 _ _ hst'
  have HR := Lib.hid (kids_row hkid)
  have HKID := Lib.hid hkid
  clear hkid
  obtain ⟨g0, kA0, kc0, hA0, hk0, he0, hg0⟩ := kid_cells2 HR.out (j := 0) (by simp) hl
  simp only [List.getElem_cons_zero] at hk0 he0
  obtain ⟨e00, e01, e02, e03, e04, e05⟩ := he0
  simp only [Nat.zero_mul, Nat.zero_add] at e00 e01 e02 e03 e04 e05
  have HK0 := Lib.hid hk0
  clear hk0
  subst hA0
  have hg0w : g0 < w.heap.size := Nat.lt_of_lt_of_le hg0 hlw
  have hg0M : ¬ g0 = M := by omega
  have HE := Lib.hid (SpAt.start hst' hl hM #[.int .i64 14, .string text, .int .i64 num, .int .i64 lo, .int .i64 hi, .slice (some ⟨g0, 0, none⟩) 2 c] a (b : Int))
  have HLW := Lib.hid hl
  clear hst hst' hl
  go_enter Try.func58, Try.ntmps58
  go_wp2_with fail
  refine (HIH.out k0 _ hv0 HK0.out b a _ hbn hb3 ha HE.out.base HE.out.st).mono ?_
  rintro e w4 ⟨v4, st4, rfl, hd4, hpost4⟩
  have hszX := HE.out.size
  have hMw := HE.out.hM
  clear e00 e01 e02 e03 e04 e05
  clear m0 m1 m2 mf
  obtain ⟨l, ob, K, c', hrow, hlen, hfc, hfu, hc', hK, hK2⟩ : ∃ (l : List End) (ob : Option Nat) (K c' : Nat), EndRow (w.heap.size + 2) w4 l v4 ∧ l.length ≤ 3200 ∧ (∀ e ∈ l, e.caps.length ≤ c') ∧ (∀ x, Later w4 x → ThFuel x M dA dn dc s n K 0 c' (fun b x => ev defs s n b k1 x) (-1) l [] st4 (ev defs s (n + 1) (b + 1) (.mk 14 text num lo hi [k0, k1]) a) ob) ∧ c' ≤ 10000 ∧ K ≤ b + 123 ∧ (∃ z, FSt w4 M dA dn dc s z) := by
    cases hr : ev defs s n b k0 a with
    | none =>
      rw [hr] at hpost4
      obtain ⟨⟨l, hrow, hlb⟩, z, hz4, hzn, hzlo⟩ := hpost4
      exact ⟨l, none, b + 123, b + 122, hrow.weak (by omega), by have := hlb.1; omega, hlb.2, fun x hx => ⟨by rw [ev_cat, hr], LB.nil _, z, hz4.later hx, hzn, by omega⟩, by omega, Nat.le_refl _, z, hz4⟩
    | some r =>
      obtain ⟨l, st, b1⟩ := r
      rw [hr] at hpost4
      obtain ⟨rfl, hrow, hz4⟩ := hpost4
      obtain ⟨hb1, hlb⟩ := ev_len n b k0 a l st4 b1 hr
      have hwi := ev_within hdv n b k0 a l st4 b1 (by rw [← hdn]; exact hv0) ha hr
      exact ⟨l, some b1, b + 0 + 1, b - b1 + 0, hrow.weak (by omega), by have := hlb.1; omega, fun e he => Nat.le_trans (hlb.2 e he) (Nat.le_add_right _ _), fun x hx => ⟨by omega, by omega, hz4.later hx, ⟨b - b1 + 0, LB.nil _, Nat.le_refl _, by omega⟩, by rw [ev_cat, hr]; rfl, fun e he => (hwi e he).2⟩, by omega, by omega, _, hz4⟩
  have HB4 := Lib.hid (later_drawn HE.out.base hd4 hMw.2)
  have HP4 := Lib.hid (hd4.has HE.out.blk (by omega))
  have HFR4 := Lib.hid (HE.out.fr.trans hd4)
  have hsz4 : w.heap.size + 1 < w4.heap.size := Nat.lt_of_lt_of_le hszX hd4.below.size
  have hfb : ∀ k, v4.ownBlock = some k → k ≠ M ∧ (Value.slice none 0 0).ownBlock ≠ some k := fun k hk => by
    obtain ⟨xs, hx, _⟩ := hrow
    have := (hx.lt k hk).1
    exact ⟨by omega, fun e => by cases e⟩
  obtain ⟨vA, vc, rfl, _, _⟩ := hrow.form
  have HROW := Lib.hid hrow
  have HFU := Lib.hid (hfu w4 (Later.refl _))
  have HFB := Lib.hid hfb
  have HFC := Lib.hid hfc
  obtain ⟨p0, p1, p2, p3, p4, p5⟩ := cells_p HP4.out
  obtain ⟨g1, kA1, kc1, hA1, hk1, he1, hg1⟩ := kid_cells2 HR.out (j := 1) (by simp) HB4.out
  simp only [List.getElem_cons_succ, List.getElem_cons_zero] at hk1 he1
  obtain ⟨e10, e11, e12, e13, e14, e15⟩ := he1
  simp only [Nat.one_mul, Nat.reduceAdd] at e10 e11 e12 e13 e14 e15
  have HK1 := Lib.hid hk1
  clear hk1
  obtain rfl : g0 = g1 := by cases hA1; rfl
  clear hA1
  clear hd4 hrow hfu hfb hfc HE hpost4
  go_wp2_with fail
  refine (then_any w0 M dA dn dc defs s n k1 _ (HIH.out k1 _ hv1 HK1.out) w4 w4.heap.size K c' ob [] l _ _ st4 (-1) _ HB4.out hM (by omega) (Nat.le_refl _) hn (EndRow.nil _ _) (HROW.out.weak (Nat.zero_le _)) HFB.out (by omega) HFC.out hc' (by omega) HK1.out HFU.out).mono ?_
  rintro e w5 ⟨v5, hl5, rfl, hd5, hpost5⟩
  have HP5 := Lib.hid hpost5
  have HD5 := Lib.hid hd5
  clear hpost5 hd5
  cases st4 <;> cases hl5
  all_goals
    go_wp2_with fail
    go_ret2
    exact spPost_then HFR4.out (by omega) hMw.1 HD5.out HP5.out (by omega) hK rfl

set_option maxRecDepth 100000 in
set_option maxHeartbeats 4000000 in
theorem ends_arbno {w0 w : World} {M : Nat} {dA : Option Addr} {dn dc : Nat} {s : ByteArray} {defs : List Pat} {n b a : Nat} {text : ByteArray} {num lo hi : Int} {k0 : Pat} {A : Option Addr} {c : Nat} 
    (hst : FSt w M dA dn dc s ((b + 1 : Nat) : Int)) (hb3 : b ≤ 3000) (hl : Later w0 w) (hM : w0.heap.size ≤ M) (hs : s.size ≤ 120) (ha : a ≤ s.size) (hkid : KidsIn w0 (.mk 13 text num lo hi [k0]) (.slice A 1 c)) (ih : ∀ (p : Pat) (kv : Value), valid p dn = true → KidsIn w0 p kv → EndsIs w0 M dA dn dc defs s n p kv) (hbn : b < n) (hn : n ≤ 4000) (hv0 : valid k0 dn = true) (hvp : valid (.mk 13 text num lo hi [k0]) dn = true) (hdv : DefsOkV defs) (hdn : dn = defs.length) :
    Calls Try.prog 58 #[.pointer (some ⟨M, 0, none⟩), patV 13 text num lo hi (.slice A 1 c), .int .i64 a] w (SpPost w M dA dn dc s (b + 1) (n + 1) (ev defs s (n + 1) (b + 1) (.mk 13 text num lo hi [k0]) a)) := by
  have HIH := Lib.hid ih
  clear ih
  have hMlt := hst.lt
  have hlw := hl.size
  have hst' := hst.of (show ((b + 1 : Nat) : Int) = (b : Int) + 1 by omega)
  obtain ⟨m0, m1, m2⟩ := hst'.cells
  have mf := frozen_of_row w M 2 _ _ hst'
  have HR := Lib.hid (kids_row hkid)
  have HKID := Lib.hid hkid
  clear hkid
  obtain ⟨g0, kA0, kc0, hA0, hk0, he0, hg0⟩ := kid_cells2 HR.out (j := 0) (by simp) hl
  simp only [List.getElem_cons_zero] at hk0 he0
  obtain ⟨e00, e01, e02, e03, e04, e05⟩ := he0
  simp only [Nat.zero_mul, Nat.zero_add] at e00 e01 e02 e03 e04 e05
  have HK0 := Lib.hid hk0
  clear hk0
  subst hA0
  have hg0w : g0 < w.heap.size := Nat.lt_of_lt_of_le hg0 hlw
  have hg0M : ¬ g0 = M := by omega
  have HE := Lib.hid (SpAt.start hst' hl hM #[.int .i64 13, .string text, .int .i64 num, .int .i64 lo, .int .i64 hi, .slice (some ⟨g0, 0, none⟩) 1 c] a (b : Int))
  have HLW := Lib.hid hl
  clear hst hst' hl
  go_enter Try.func58, Try.ntmps58
  go_wp2_with fail
  refine (HIH.out k0 _ hv0 HK0.out b a _ hbn hb3 ha HE.out.base HE.out.st).mono ?_
  rintro e w4 ⟨v4, st4, rfl, hd4, hpost4⟩
  have hszX := HE.out.size
  have hMw := HE.out.hM
  clear e00 e01 e02 e03 e04 e05
  clear m0 m1 m2 mf
  obtain ⟨l, ob, K, c', hrow, hlen, hfc, hfu, hc', hK, hK2⟩ : ∃ (l : List End) (ob : Option Nat) (K c' : Nat), EndRow (w.heap.size + 2) w4 l v4 ∧ l.length ≤ 3200 ∧ (∀ e ∈ l, e.caps.length ≤ c') ∧ (∀ x, Later w4 x → ThFuel x M dA dn dc s n K 0 c' (fun b x => ev defs s n b (.mk 13 text num lo hi [k0]) x) a l [⟨a, []⟩] st4 (ev defs s (n + 1) (b + 1) (.mk 13 text num lo hi [k0]) a) ob) ∧ c' ≤ 10000 ∧ K ≤ b + 123 ∧ (∃ z, FSt w4 M dA dn dc s z) := by
    cases hr : ev defs s n b k0 a with
    | none =>
      rw [hr] at hpost4
      obtain ⟨⟨l, hrow, hlb⟩, z, hz4, hzn, hzlo⟩ := hpost4
      exact ⟨l, none, b + 123, b + 122, hrow.weak (by omega), by have := hlb.1; omega, hlb.2, fun x hx => ⟨by rw [ev_arbno, hr], LB.one _ _ (by omega), z, hz4.later hx, hzn, by omega⟩, by omega, Nat.le_refl _, z, hz4⟩
    | some r =>
      obtain ⟨l, st, b1⟩ := r
      rw [hr] at hpost4
      obtain ⟨rfl, hrow, hz4⟩ := hpost4
      obtain ⟨hb1, hlb⟩ := ev_len n b k0 a l st4 b1 hr
      have hwi := ev_within hdv n b k0 a l st4 b1 (by rw [← hdn]; exact hv0) ha hr
      exact ⟨l, some b1, b + 1 + 1, b - b1 + 1, hrow.weak (by omega), by have := hlb.1; omega, fun e he => Nat.le_trans (hlb.2 e he) (Nat.le_add_right _ _), fun x hx => ⟨by omega, by omega, hz4.later hx, ⟨b - b1 + 1, LB.one _ _ (by omega), Nat.le_refl _, by omega⟩, by rw [ev_arbno, hr]; rfl, fun e he => (hwi e he).2⟩, by omega, by omega, _, hz4⟩
  have HB4 := Lib.hid (later_drawn HE.out.base hd4 hMw.2)
  have HP4 := Lib.hid (hd4.has HE.out.blk (by omega))
  have HH4 := Lib.hid (hd4.has HE.out.here (by omega))
  have HFR4 := Lib.hid (HE.out.fr.trans hd4)
  have hsz4 : w.heap.size + 1 < w4.heap.size := Nat.lt_of_lt_of_le hszX hd4.below.size
  have hfb : ∀ k, v4.ownBlock = some k → k ≠ M ∧ (Value.slice (some ⟨w.heap.size + 1, 0, none⟩) 1 1).ownBlock ≠ some k := fun k hk => by
    obtain ⟨xs, hx, _⟩ := hrow
    have := (hx.lt k hk).1
    exact ⟨by omega, fun e => by have e : some (w.heap.size + 1) = some k := e; cases e; omega⟩
  obtain ⟨vA, vc, rfl, _, _⟩ := hrow.form
  have HROW := Lib.hid hrow
  have HFU := Lib.hid (hfu w4 (Later.refl _))
  have HFB := Lib.hid hfb
  have HFC := Lib.hid hfc
  obtain ⟨p0, p1, p2, p3, p4, p5⟩ := cells_p HP4.out
  clear hd4 hrow hfu hfb hfc HE hpost4
  go_wp2_with fail
  refine (then_any w0 M dA dn dc defs s n (.mk 13 text num lo hi [k0]) _ (HIH.out (.mk 13 text num lo hi [k0]) _ hvp HKID.out) w4 (w.heap.size + 1) K c' ob [⟨a, []⟩] l _ _ st4 a _ HB4.out hM (by omega) (by omega) hn (EndRow.hereRow (Nat.le_refl _) HH4.out) (HROW.out.weak (Nat.zero_le _)) HFB.out (by omega) HFC.out hc' (by omega) HKID.out HFU.out).mono ?_
  rintro e w5 ⟨v5, hl5, rfl, hd5, hpost5⟩
  have HP5 := Lib.hid hpost5
  have HD5 := Lib.hid hd5
  clear hpost5 hd5
  cases st4 <;> cases hl5
  all_goals
    go_wp2_with fail
    go_ret2
    exact spPost_then HFR4.out (by omega) hMw.1 HD5.out HP5.out (by omega) hK rfl

set_option maxRecDepth 100000 in
set_option maxHeartbeats 4000000 in
theorem ends_alt {w0 w : World} {M : Nat} {dA : Option Addr} {dn dc : Nat} {s : ByteArray} {defs : List Pat} {n b a : Nat} {text : ByteArray} {num lo hi : Int} {k0 k1 : Pat} {A : Option Addr} {c : Nat} 
    (hst : FSt w M dA dn dc s ((b + 1 : Nat) : Int)) (hb3 : b ≤ 3000) (hl : Later w0 w) (hM : w0.heap.size ≤ M) (hs : s.size ≤ 120) (ha : a ≤ s.size) (hkid : KidsIn w0 (.mk 15 text num lo hi [k0, k1]) (.slice A 2 c)) (ih : ∀ (p : Pat) (kv : Value), valid p dn = true → KidsIn w0 p kv → EndsIs w0 M dA dn dc defs s n p kv) (hbn : b < n) (hn : n ≤ 4000) (hv0 : valid k0 dn = true) (hv1 : valid k1 dn = true) (hdv : DefsOkV defs) (hdn : dn = defs.length) :
    Calls Try.prog 58 #[.pointer (some ⟨M, 0, none⟩), patV 15 text num lo hi (.slice A 2 c), .int .i64 a] w (SpPost w M dA dn dc s (b + 1) (n + 1) (ev defs s (n + 1) (b + 1) (.mk 15 text num lo hi [k0, k1]) a)) := by
  have HIH := Lib.hid ih
  clear ih
  have hMlt := hst.lt
  have hlw := hl.size
  have hst' := hst.of (show ((b + 1 : Nat) : Int) = (b : Int) + 1 by omega)
  obtain ⟨m0, m1, m2⟩ := hst'.cells
  have mf := frozen_of_row w M 2 _ _ hst'
  have HR := Lib.hid (kids_row hkid)
  have HKID := Lib.hid hkid
  clear hkid
  obtain ⟨g0, kA0, kc0, hA0, hk0, he0, hg0⟩ := kid_cells2 HR.out (j := 0) (by simp) hl
  simp only [List.getElem_cons_zero] at hk0 he0
  obtain ⟨e00, e01, e02, e03, e04, e05⟩ := he0
  simp only [Nat.zero_mul, Nat.zero_add] at e00 e01 e02 e03 e04 e05
  have HK0 := Lib.hid hk0
  clear hk0
  subst hA0
  have hg0w : g0 < w.heap.size := Nat.lt_of_lt_of_le hg0 hlw
  have hg0M : ¬ g0 = M := by omega
  have HE := Lib.hid (SpAt.start hst' hl hM #[.int .i64 15, .string text, .int .i64 num, .int .i64 lo, .int .i64 hi, .slice (some ⟨g0, 0, none⟩) 2 c] a (b : Int))
  have HLW := Lib.hid hl
  clear hst hst' hl
  go_enter Try.func58, Try.ntmps58
  go_wp2_with fail
  refine (HIH.out k0 _ hv0 HK0.out b a _ hbn hb3 ha HE.out.base HE.out.st).mono ?_
  rintro e w4 ⟨v4, st4, rfl, hd4, hpost4⟩
  have hszX := HE.out.size
  have hMw := HE.out.hM
  clear e00 e01 e02 e03 e04 e05
  clear m0 m1 m2 mf
  have HB4 := Lib.hid (later_drawn HE.out.base hd4 hMw.2)
  have HP4 := Lib.hid (hd4.has HE.out.blk (by omega))
  have HFR4 := Lib.hid (HE.out.fr.trans hd4)
  have hsz4 : w.heap.size + 1 < w4.heap.size := Nat.lt_of_lt_of_le hszX hd4.below.size
  obtain ⟨g1, kA1, kc1, hA1, hk1, he1, hg1⟩ := kid_cells2 HR.out (j := 1) (by simp) HB4.out
  simp only [List.getElem_cons_succ, List.getElem_cons_zero] at hk1 he1
  obtain ⟨e10, e11, e12, e13, e14, e15⟩ := he1
  simp only [Nat.one_mul, Nat.reduceAdd] at e10 e11 e12 e13 e14 e15
  have HK1 := Lib.hid hk1
  clear hk1
  obtain rfl : g0 = g1 := by cases hA1; rfl
  clear hA1
  obtain ⟨p0, p1, p2, p3, p4, p5⟩ := cells_p HP4.out
  cases hr : ev defs s n b k0 a with
  | none =>
    rw [hr] at hpost4
    obtain ⟨⟨l, hrow, hlb⟩, z, hz4, hzn, hzlo⟩ := hpost4
    have HR0 := Lib.hid hr
    have HROW := Lib.hid (hrow.weak (b2 := w.heap.size) (by omega))
    have HLB := Lib.hid hlb
    have hlen := hlb.1
    have HZ4 := Lib.hid hz4
    obtain ⟨vA, vc, rfl, _, _⟩ := hrow.form
    clear hr hrow hlb hz4 hd4 HE
    cases st4
    · go_wp2_with fail
      refine (ends_neg _ _ _ _ _ _ _ _ a w4 HZ4.out hzn (by omega)).mono ?_
      rintro e w5 ⟨rfl, hd5, hz5⟩
      have HROW6 := Lib.hid (HROW.out.same (KeepT.drawn hd5 HZ4.out (by decide)) (fun k h1 h2 _ => hd5.other k h2 (by omega)))
      have HROW2 : Hid (EndRow 0 w5 [] (.slice none 0 0)) := Lib.hid (EndRow.nil _ _)
      have HD6 := Lib.hid (HFR4.out.trans hd5)
      have HN6 := Lib.hid hz5
      have hl2 : ([] : List End).length = 0 := rfl
      clear hd5 hz5 p0 p1 p2 p3 p4 p5 e10 e11 e12 e13 e14 e15
      obtain ⟨xs1, hx1, he1⟩ := HROW6.out
      obtain ⟨xs2, hx2, he2⟩ := HROW2.out
      obtain ⟨i, hi', hz0, hz1, hz2⟩ := info_parts infoE
      have hle5 := Later.alloc (Later.refl w5) (.cells #[] TE)
      have HX1 := Lib.hid (hx1.keepT (KeepT.later hle5))
      have HX2 := Lib.hid (hx2.keepT (KeepT.later hle5))
      have HE1x := Lib.hid (ElemsE.keep (KeepT.later hle5) _ _ he1)
      have HE2x := Lib.hid (ElemsE.keep (KeepT.later hle5) _ _ he2)
      have HN5 := Lib.hid (HN6.out.later hle5)
      have HD5 := Lib.hid (HD6.out.trans (Drawn.later hle5 (Nat.le_of_lt HN6.out.lt)))
      clear hx1 hx2 he1 he2
      go_wp2_with (at_builtin; go_loud (refine wpList_append_fresh _ rfl _ _ _ rfl w5.heap.size w.heap.size TE i _ 2 32 Try.underlying55 hi' hz0 hz1 hz2 rfl rfl (heap_alloc_new w5 _) (Nat.le_refl _) rfl HX1.out ?a1 (by omega) ?_); fail_if_success done)
      case a1 => omega
      intro v7 w7 hrow7 hl7 hb7
      have HX7 := Lib.hid hrow7
      have HL7 := Lib.hid hl7
      have HX27 := Lib.hid (HX2.out.keepT (KeepT.later hl7))
      clear hrow7 hb7
      go_wp2_with (at_builtin; refine wpList_append_row _ rfl _ _ _ rfl w5.heap.size 0 TE i _ 2 32 Try.underlying55 hi' hz0 hz1 hz2 rfl rfl HX7.out rfl HX27.out (ElemsE.oneCell _ _ HE2x.out) ?a3 ?a4 (by omega) ?a5 ?_; fail_if_success done)
      case a3 => omega
      case a4 => omega
      case a5 => exact Nat.le_trans hle5.size HL7.out.size
      intro v8 w8 hrow8 hg8 hb8
      have hL8 : Later w5 w8 := Below.grown (hle5.trans HL7.out) hg8 (Nat.le_trans hle5.size HL7.out.size) (fun k hk => (HX7.out.lt k hk).1)
      have hgr : KeepT TK w7 w8 := KeepT.grown hg8 (fun k hk => (HX7.out.lt k hk).2.2) (by decide)
      have HROW8 : Hid (EndRow w.heap.size w8 _ _) := Lib.hid (EndRow.weak ⟨_, by rw [List.length_append]; exact hrow8, ElemsE.keep hgr _ _ (ElemsE.keep (KeepT.later HL7.out) _ _ (ElemsE.append _ _ _ _ HE1x.out HE2x.out))⟩ (by have := HD6.out.below.size; omega))
      have HN8 := Lib.hid (HN6.out.later hL8)
      have HD8 := Lib.hid (HD6.out.trans (Drawn.later hL8 (Nat.le_of_lt HN6.out.lt)))
      clear hrow8 hg8 hb8 hL8 hgr hl7
      go_wp2_with fail
      go_ret2
      exact spPost_none (by rw [ev_alt, HR0.out]) HROW8.out (by rw [List.append_nil]; exact HLB.out.mono (by omega)) HD8.out HN8.out (by omega) (by omega) _
    · go_wp2_with fail
      go_ret2
      exact spPost_none (by rw [ev_alt, HR0.out]) HROW.out (HLB.out.mono (by omega)) HFR4.out HZ4.out hzn (by omega) _
  | some r =>
    obtain ⟨l, st, b1⟩ := r
    rw [hr] at hpost4
    obtain ⟨rfl, hrow, hz4⟩ := hpost4
    obtain ⟨hb1, hlb⟩ := ev_len n b k0 a l st4 b1 hr
    have HR0 := Lib.hid hr
    have HROW := Lib.hid (hrow.weak (b2 := w.heap.size) (by omega))
    have HLB := Lib.hid hlb
    have hlen := hlb.1
    have HZ4 := Lib.hid hz4
    obtain ⟨vA, vc, rfl, _, _⟩ := hrow.form
    clear hr hrow hlb hz4 hd4 HE
    cases st4
    · go_wp2_with fail
      refine (HIH.out k1 _ hv1 HK1.out b1 a w4 (by omega) (by omega) ha HB4.out HZ4.out).mono ?_
      rintro e w5 ⟨v5, st5, rfl, hd5, hpost5⟩
      have HROW6 := Lib.hid (HROW.out.same (KeepT.drawn hd5 HZ4.out (by decide)) (fun k h1 h2 _ => hd5.other k h2 (by omega)))
      have HD6 := Lib.hid (HFR4.out.trans hd5)
      clear hd5 p0 p1 p2 p3 p4 p5 e10 e11 e12 e13 e14 e15
      cases hT : ev defs s n b1 k1 a with
      | none =>
        rw [hT] at hpost5
        obtain ⟨⟨l2, hrow2, hlb2⟩, z, hz5, hzn, hzlo⟩ := hpost5
        obtain ⟨vB, vd, rfl, _, _⟩ := hrow2.form
        have hl2 := hlb2.1
        have HROW2 := Lib.hid (hrow2.weak (Nat.zero_le _))
        have HLB2 := Lib.hid hlb2
        have HN6 := Lib.hid hz5
        have HT := Lib.hid hT
        clear hT hz5 hrow2 hlb2
        obtain ⟨xs1, hx1, he1⟩ := HROW6.out
        obtain ⟨xs2, hx2, he2⟩ := HROW2.out
        obtain ⟨i, hi', hz0, hz1, hz2⟩ := info_parts infoE
        have hle5 := Later.alloc (Later.refl w5) (.cells #[] TE)
        have HX1 := Lib.hid (hx1.keepT (KeepT.later hle5))
        have HX2 := Lib.hid (hx2.keepT (KeepT.later hle5))
        have HE1x := Lib.hid (ElemsE.keep (KeepT.later hle5) _ _ he1)
        have HE2x := Lib.hid (ElemsE.keep (KeepT.later hle5) _ _ he2)
        have HN5 := Lib.hid (HN6.out.later hle5)
        have HD5 := Lib.hid (HD6.out.trans (Drawn.later hle5 (Nat.le_of_lt HN6.out.lt)))
        clear hx1 hx2 he1 he2
        go_wp2_with (at_builtin; go_loud (refine wpList_append_fresh _ rfl _ _ _ rfl w5.heap.size w.heap.size TE i _ 2 32 Try.underlying55 hi' hz0 hz1 hz2 rfl rfl (heap_alloc_new w5 _) (Nat.le_refl _) rfl HX1.out ?a1 (by omega) ?_); fail_if_success done)
        case a1 => omega
        intro v7 w7 hrow7 hl7 hb7
        have HX7 := Lib.hid hrow7
        have HL7 := Lib.hid hl7
        have HX27 := Lib.hid (HX2.out.keepT (KeepT.later hl7))
        clear hrow7 hb7
        go_wp2_with (at_builtin; refine wpList_append_row _ rfl _ _ _ rfl w5.heap.size 0 TE i _ 2 32 Try.underlying55 hi' hz0 hz1 hz2 rfl rfl HX7.out rfl HX27.out (ElemsE.oneCell _ _ HE2x.out) ?a3 ?a4 (by omega) ?a5 ?_; fail_if_success done)
        case a3 => omega
        case a4 => omega
        case a5 => exact Nat.le_trans hle5.size HL7.out.size
        intro v8 w8 hrow8 hg8 hb8
        have hL8 : Later w5 w8 := Below.grown (hle5.trans HL7.out) hg8 (Nat.le_trans hle5.size HL7.out.size) (fun k hk => (HX7.out.lt k hk).1)
        have hgr : KeepT TK w7 w8 := KeepT.grown hg8 (fun k hk => (HX7.out.lt k hk).2.2) (by decide)
        have HROW8 : Hid (EndRow w.heap.size w8 _ _) := Lib.hid (EndRow.weak ⟨_, by rw [List.length_append]; exact hrow8, ElemsE.keep hgr _ _ (ElemsE.keep (KeepT.later HL7.out) _ _ (ElemsE.append _ _ _ _ HE1x.out HE2x.out))⟩ (by have := HD6.out.below.size; omega))
        have HN8 := Lib.hid (HN6.out.later hL8)
        have HD8 := Lib.hid (HD6.out.trans (Drawn.later hL8 (Nat.le_of_lt HN6.out.lt)))
        clear hrow8 hg8 hb8 hL8 hgr hl7
        go_wp2_with fail
        go_ret2
        exact spPost_none (by rw [ev_alt, HR0.out]; simp only [Bool.false_eq_true, if_false]; rw [HT.out]) HROW8.out ((LB.append HLB.out HLB2.out).mono (by omega)) HD8.out HN8.out hzn (by omega) _
      | some r =>
        obtain ⟨l2, st', b2⟩ := r
        rw [hT] at hpost5
        obtain ⟨rfl, hrow2, hz5⟩ := hpost5
        obtain ⟨vB, vd, rfl, _, _⟩ := hrow2.form
        obtain ⟨hb2, hlb2⟩ := ev_len n b1 k1 a l2 st5 b2 hT
        have hl2 := hlb2.1
        have HROW2 := Lib.hid (hrow2.weak (Nat.zero_le _))
        have HN6 := Lib.hid hz5
        have HT := Lib.hid hT
        clear hT hz5 hrow2 hlb2
        obtain ⟨xs1, hx1, he1⟩ := HROW6.out
        obtain ⟨xs2, hx2, he2⟩ := HROW2.out
        obtain ⟨i, hi', hz0, hz1, hz2⟩ := info_parts infoE
        have hle5 := Later.alloc (Later.refl w5) (.cells #[] TE)
        have HX1 := Lib.hid (hx1.keepT (KeepT.later hle5))
        have HX2 := Lib.hid (hx2.keepT (KeepT.later hle5))
        have HE1x := Lib.hid (ElemsE.keep (KeepT.later hle5) _ _ he1)
        have HE2x := Lib.hid (ElemsE.keep (KeepT.later hle5) _ _ he2)
        have HN5 := Lib.hid (HN6.out.later hle5)
        have HD5 := Lib.hid (HD6.out.trans (Drawn.later hle5 (Nat.le_of_lt HN6.out.lt)))
        clear hx1 hx2 he1 he2
        go_wp2_with (at_builtin; go_loud (refine wpList_append_fresh _ rfl _ _ _ rfl w5.heap.size w.heap.size TE i _ 2 32 Try.underlying55 hi' hz0 hz1 hz2 rfl rfl (heap_alloc_new w5 _) (Nat.le_refl _) rfl HX1.out ?a1 (by omega) ?_); fail_if_success done)
        case a1 => omega
        intro v7 w7 hrow7 hl7 hb7
        have HX7 := Lib.hid hrow7
        have HL7 := Lib.hid hl7
        have HX27 := Lib.hid (HX2.out.keepT (KeepT.later hl7))
        clear hrow7 hb7
        go_wp2_with (at_builtin; refine wpList_append_row _ rfl _ _ _ rfl w5.heap.size 0 TE i _ 2 32 Try.underlying55 hi' hz0 hz1 hz2 rfl rfl HX7.out rfl HX27.out (ElemsE.oneCell _ _ HE2x.out) ?a3 ?a4 (by omega) ?a5 ?_; fail_if_success done)
        case a3 => omega
        case a4 => omega
        case a5 => exact Nat.le_trans hle5.size HL7.out.size
        intro v8 w8 hrow8 hg8 hb8
        have hL8 : Later w5 w8 := Below.grown (hle5.trans HL7.out) hg8 (Nat.le_trans hle5.size HL7.out.size) (fun k hk => (HX7.out.lt k hk).1)
        have hgr : KeepT TK w7 w8 := KeepT.grown hg8 (fun k hk => (HX7.out.lt k hk).2.2) (by decide)
        have HROW8 : Hid (EndRow w.heap.size w8 _ _) := Lib.hid (EndRow.weak ⟨_, by rw [List.length_append]; exact hrow8, ElemsE.keep hgr _ _ (ElemsE.keep (KeepT.later HL7.out) _ _ (ElemsE.append _ _ _ _ HE1x.out HE2x.out))⟩ (by have := HD6.out.below.size; omega))
        have HN8 := Lib.hid (HN6.out.later hL8)
        have HD8 := Lib.hid (HD6.out.trans (Drawn.later hL8 (Nat.le_of_lt HN6.out.lt)))
        clear hrow8 hg8 hb8 hL8 hgr hl7
        go_wp2_with fail
        go_ret2
        exact spPost_some (by rw [ev_alt, HR0.out]; simp only [Bool.false_eq_true, if_false]; rw [HT.out]) HROW8.out HD8.out HN8.out
    · go_wp2_with fail
      go_ret2
      exact spPost_some (by rw [ev_alt, HR0.out]; rfl) HROW.out HFR4.out HZ4.out

end Go.Proofs.Ytndefbecoahfhaa
