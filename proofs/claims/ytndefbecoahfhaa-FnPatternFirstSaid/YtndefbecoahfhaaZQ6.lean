/- Part of the walks that the claim stands on. -/
import Derived.Test.YtndefbecoahfhaaZQ5
import Derived.Deep.QuietTactic
import Derived.BigQuiet
import Derived.Test.YtndefbecoahfhaaZQ3

/- The matcher finds the first ending, with its captures. No walk in sight. -/
namespace Go.Proofs.Ytndefbecoahfhaa
open Go.RowKit

section
variable {defs : List Pat} {s : ByteArray}
theorem arbE_cons {a : Nat} (h : a ≤ s.size) : arbE s a = ⟨a, []⟩ :: arbE s (a + 1) := by
  unfold arbE
  rw [show s.size + 1 - a = (s.size + 1 - (a + 1)) + 1 by omega, List.range_succ_eq_map]
  simp only [List.map_cons, List.map_map, Nat.add_zero]
  congr 1
  apply List.map_congr_left
  intro i _
  simp only [Function.comp]
  congr 1
  omega
theorem arbE_end : arbE s (s.size + 1) = [] := by simp [arbE]
theorem arb_try {p : Pat} (h : p.op = 11) (gs : List Goal) (caps : List Cap) : ∀ (k a : Nat) (fr : Int), a + k = s.size → Rn defs s (⟨0, p, fr⟩ :: gs) a caps = tryAll defs s gs caps (arbE s a) false
  | 0, a, fr, hk => by
    rw [rn_arb p fr gs a caps h, if_neg (by omega), arbE_cons (by omega), show a + 1 = s.size + 1 by omega, arbE_end]
    simp [tryAll]
  | k + 1, a, fr, hk => by
    rw [rn_arb p fr gs a caps h, if_pos (by omega), arbE_cons (by omega), arb_try h gs caps k (a + 1) 0 (by omega)]
    simp [tryAll]
theorem ev_try (hd : DefsOkV defs) : ∀ (n b : Nat) (p : Pat) (a : Nat) (l : List End) (st : Bool) (b' : Nat), valid p defs.length = true → a ≤ s.size → ev defs s n b p a = some (l, st, b') → ∀ (fr : Int) (gs : List Goal) (caps : List Cap), Rn defs s (⟨0, p, fr⟩ :: gs) a caps = tryAll defs s gs caps l st
  | 0, b, p, a, l, st, b', _, _, h => by simp [ev] at h
  | n + 1, 0, p, a, l, st, b', _, _, h => by simp [ev] at h
  | n + 1, b + 1, p, a, l, st, b', hv, ha, h => by
    have ih := ev_try hd n
    have hw := fun b p l st b' => ev_within (s := s) hd n b p a l st b'
    intro fr gs caps
    rw [ev] at h
    by_cases h11 : p.op = 11
    · rw [if_pos h11] at h
      split at h
      · cases h
        exact arb_try h11 gs caps (s.size - a) a fr (by omega)
      · cases h
    rw [if_neg h11] at h
    by_cases h13 : p.op = 13
    · rw [if_pos h13] at h
      have hk := kid_v hv 0 (by rw [h13]; decide)
      cases h0 : ev defs s n b (p.kid 0) a with
      | none => rw [h0] at h; cases h
      | some r =>
        obtain ⟨l0, s0, b0⟩ := r
        rw [h0] at h
        have hw0 := hw _ _ _ _ _ hk ha h0
        rw [rn_arbno p fr gs a caps h13, rn_ext, ih _ _ _ _ _ _ hk ha h0]
        have := after_try (defs := defs) (s := s) (gs := gs) (gs1 := ⟨4, p, a⟩ :: gs) (caps := caps) (lo := a) (f := fun b x => ev defs s n b p x) (least := a)
          (fun b x l st b' hlo hx hle hf caps => by
            rw [rn_chk, if_neg (by omega)]
            exact ih _ _ _ _ _ _ hv hx hf 0 gs caps)
          (fun x caps hlo hx => by rw [rn_chk, if_pos (by omega)])
          l0 [⟨a, []⟩] s0 b0 l st b' hw0 h
        simpa [tryAll, Oc.or_fail] using this
    rw [if_neg h13] at h
    by_cases h14 : p.op = 14
    · rw [if_pos h14] at h
      have hk := kid_v hv 0 (by rw [h14]; decide)
      have hk1 := kid_v hv 1 (by rw [h14]; decide)
      cases h0 : ev defs s n b (p.kid 0) a with
      | none => rw [h0] at h; cases h
      | some r =>
        obtain ⟨l0, s0, b0⟩ := r
        rw [h0] at h
        have hw0 := hw _ _ _ _ _ hk ha h0
        rw [rn_cat p fr gs a caps h14, ih _ _ _ _ _ _ hk ha h0]
        have := after_try (defs := defs) (s := s) (lo := a) (gs := gs) (gs1 := ⟨0, p.kid 1, 0⟩ :: gs) (caps := caps) (f := fun b x => ev defs s n b (p.kid 1) x) (least := -1)
          (fun b x l st b' hlo hx hle hf caps => ih _ _ _ _ _ _ hk1 hx hf 0 gs caps)
          (fun x caps hlo hx => by omega)
          l0 [] s0 b0 l st b' hw0 h
        simpa [tryAll, Oc.or] using this
    rw [if_neg h14] at h
    by_cases h15 : p.op = 15
    · rw [if_pos h15] at h
      have hk := kid_v hv 0 (by rw [h15]; decide)
      have hk1 := kid_v hv 1 (by rw [h15]; decide)
      cases h0 : ev defs s n b (p.kid 0) a with
      | none => rw [h0] at h; cases h
      | some r =>
        obtain ⟨l0, s0, b0⟩ := r
        rw [h0] at h
        rw [rn_alt p fr gs a caps h15, ih _ _ _ _ _ _ hk ha h0]
        simp only at h
        split at h
        · rename_i hs
          cases h
          rw [hs, try_stop]
        · rename_i hs
          have hs : s0 = false := by simpa using hs
          cases h1 : ev defs s n b0 (p.kid 1) a with
          | none => rw [h1] at h; cases h
          | some r =>
            obtain ⟨l1, s1, b1⟩ := r
            rw [h1] at h
            cases h
            rw [ih _ _ _ _ _ _ hk1 ha h1, hs, try_append]
    rw [if_neg h15] at h
    by_cases h16 : p.op = 16
    · rw [if_pos h16] at h
      have hk := kid_v hv 0 (by rw [h16]; decide)
      cases h0 : ev defs s n b (p.kid 0) a with
      | none => rw [h0] at h; cases h
      | some r =>
        obtain ⟨l0, s0, b0⟩ := r
        rw [h0] at h
        cases h
        rw [rn_assign p fr gs a caps h16, ih _ _ _ _ _ _ hk ha h0]
        exact try_map _ _ _ _ (fun e caps => by rw [rn_cap]; simp [List.append_assoc]) _ _
    rw [if_neg h16] at h
    by_cases h17 : p.op = 17
    · rw [if_pos h17] at h
      have hk := kid_v hv 0 (by rw [h17]; decide)
      rw [rn_immediate p fr gs a caps h17, ih _ _ _ _ _ _ hk ha h]
      have := try_map (defs := defs) (s := s) (⟨2, p, a⟩ :: gs) gs caps id (fun e caps => by rw [rn_imm]; rfl) l st
      rwa [List.map_id] at this
    rw [if_neg h17] at h
    by_cases h18 : p.op = 18
    · rw [if_pos h18] at h; cases h
      rw [rn_cursor p fr gs a caps h18]
      simp [tryAll, Oc.or_fail]
    rw [if_neg h18] at h
    by_cases h19 : p.op = 19
    · rw [if_pos h19] at h; cases h
      rw [rn_fence p fr gs a caps h19]
      simp [tryAll]
    rw [if_neg h19] at h
    by_cases h20 : p.op = 20
    · rw [if_pos h20] at h
      rw [rn_defer p fr gs a caps h20, ih _ _ _ _ _ _ (defs_valid hd hv h20) ha h]
    rw [if_neg h20] at h
    by_cases h21 : p.op = 21
    · rw [if_pos h21] at h; cases h
      rw [rn_abort p fr gs a caps h21]
      simp [tryAll]
    rw [if_neg h21] at h
    rw [rn_simple p fr gs a caps ⟨h11, h13, h14, h15, h16, h17, h18, h19, h20, h21⟩]
    cases ho : oneEnd p.op p.text p.num p.lo p.hi s a with
    | none => rw [ho] at h; cases h; simp [tryAll]
    | some e => rw [ho] at h; cases h; simp [tryAll, Oc.or_fail]
/-- What the matcher answers, said by the endings. -/
theorem first_ending (hd : DefsOkV defs) {n b k : Nat} {p : Pat} {a : Nat} {l : List End} {st : Bool} {b' : Nat} (hv : valid p defs.length = true) (ha : a ≤ s.size) (h : ev defs s n b p a = some (l, st, b')) (hx : (play defs s k 0 [⟨0, p, 0⟩] (.start a)).exhausted = false) :
    match l with
    | [] => (play defs s k 0 [⟨0, p, 0⟩] (.start a)).found = false ∧ (play defs s k 0 [⟨0, p, 0⟩] (.start a)).stopped = st
    | e :: _ => (play defs s k 0 [⟨0, p, 0⟩] (.start a)).found = true ∧ (play defs s k 0 [⟨0, p, 0⟩] (.start a)).at_ = e.at_ ∧ (play defs s k 0 [⟨0, p, 0⟩] (.start a)).caps = e.caps := by
  have h1 := ev_try hd n b p a l st b' hv ha h 0 [] []
  have h2 : Rn defs s [⟨0, p, 0⟩] a [] = (play defs s k 0 [⟨0, p, 0⟩] (.start a)).oc := out_of hx
  rw [h2] at h1
  cases l with
  | nil =>
    unfold Res.oc at h1
    simp only [tryAll] at h1
    cases hf : (play defs s k 0 [⟨0, p, 0⟩] (.start a)).found with
    | true => rw [hf] at h1; cases st <;> simp at h1
    | false =>
      rw [hf] at h1
      refine ⟨rfl, ?_⟩
      cases hs : (play defs s k 0 [⟨0, p, 0⟩] (.start a)).stopped <;> rw [hs] at h1 <;> cases st <;> simp at h1 ⊢
  | cons e es =>
    simp only [tryAll, rn_nil] at h1
    unfold Res.oc at h1
    cases hf : (play defs s k 0 [⟨0, p, 0⟩] (.start a)).found with
    | true =>
      rw [hf] at h1
      simp only [if_true, Oc.or, Oc.found.injEq, List.nil_append] at h1
      exact ⟨rfl, h1.1, h1.2⟩
    | false =>
      rw [hf] at h1
      cases hs : (play defs s k 0 [⟨0, p, 0⟩] (.start a)).stopped <;> rw [hs] at h1 <;> simp [Oc.or] at h1
end
end Go.Proofs.Ytndefbecoahfhaa

/- The cursor of the draws: what its functions leave. (under way) -/
namespace Go.Proofs.Ytndefbecoahfhaa
open Go.RowKit

theorem and_255 (x : Int) : 0 ≤ bits .and .i64 x 255 ∧ bits .and .i64 x 255 ≤ 255 := by
  rw [bits_i64]
  have h : (BitVec.ofInt 64 x &&& BitVec.ofInt 64 255).toNat ≤ 255 := by
    rw [BitVec.toNat_and]
    exact Nat.and_le_right
  rw [IntKind.wrap_i64]
  generalize (BitVec.ofInt 64 x &&& BitVec.ofInt 64 255).toNat = n at *
  omega

/-- The bytes of a slice can be read. -/
def BytesIn (w : World) (C : Nat) (A : Option Addr) (n : Nat) : Prop := ∀ j, j < n → ∃ g o b, A = some ⟨g, o, none⟩ ∧ g ≠ C ∧ g < w.heap.size ∧ 0 ≤ b ∧ b < 256 ∧ w.cell? ⟨g, o + j, none⟩ = some (.int .u8 b)
abbrev TCur : TypeId := 108
/-- The cursor lies in block C, over the bytes A. -/
def CurAt (w : World) (C : Nat) (A : Option Addr) (n c : Nat) : Prop := ∃ (i : Nat) (h : Int), i ≤ n ∧ w.heap[C]? = some (.cells #[.slice A n c, .int .i64 i, .int .i64 h] TCur (0, 0))
/-- What a draw leaves: every block but the cursor's is as it was. -/
structure Drawn (C : Nat) (w x : World) : Prop where
  below : Below C w x
  other : ∀ k, k < w.heap.size → k ≠ C → x.heap[k]? = w.heap[k]?
theorem Drawn.refl (C : Nat) (w : World) : Drawn C w w := ⟨Below.refl _ _, fun _ _ _ => rfl⟩
theorem Drawn.trans {C : Nat} {w x y : World} (h1 : Drawn C w x) (h2 : Drawn C x y) : Drawn C w y :=
  ⟨h1.below.trans h2.below, fun k hk hc => (h2.other k (Nat.lt_of_lt_of_le hk h1.below.size) hc).trans (h1.other k hk hc)⟩
theorem Drawn.later {C : Nat} {w x : World} (h : Later w x) (hC : C ≤ w.heap.size) : Drawn C w x := ⟨Below.mono h hC, fun k hk _ => h.block k hk⟩
/-- A draw of a number from lo to hi. -/
def DrewInt (C : Nat) (A : Option Addr) (n c : Nat) (lo hi : Int) (w : World) (e : Ending) (w' : World) : Prop := ∃ x : Int, lo ≤ x ∧ x ≤ hi ∧ e = .returned (.int .i64 x) ∧ CurAt w' C A n c ∧ Drawn C w w'
theorem has_lt' {w : World} {b : Nat} {o : Obj} (h : w.heap[b]? = some o) : b < w.heap.size := (Array.getElem?_eq_some_iff.1 h).1
theorem cells_cur {x : World} {b : Nat} {v0 v1 v2 : Value} (h : x.heap[b]? = some (.cells #[v0, v1, v2] TCur (0, 0))) : x.cell? ⟨b, 0, none⟩ = some v0 ∧ x.cell? ⟨b, 1, none⟩ = some v1 ∧ x.cell? ⟨b, 2, none⟩ = some v2 :=
  ⟨cell_of_row x b 0 _ _ _ h, cell_of_row x b 1 _ _ _ h, cell_of_row x b 2 _ _ _ h⟩
theorem CurAt.drewN {w : World} {C : Nat} {A : Option Addr} {n c : Nat} (h : CurAt w C A n c) (k : Nat) : CurAt (w.drewN k) C A n c := by
  obtain ⟨i, x, hi, hb⟩ := h
  exact ⟨i, x, hi, Later.has (below_drewN' (Below.refl _ _) k) hb⟩
theorem Drawn.drewN {C : Nat} {w x : World} (h : Drawn C w x) (hC : C ≤ x.heap.size) (k : Nat) : Drawn C w (x.drewN k) := h.trans (Drawn.later (below_drewN' (Below.refl _ _) k) hC)
theorem Drawn.set {C : Nat} {w x : World} (h : Drawn C w x) (o : Nat) (v : Value) : Drawn C w (x.setCell ⟨C, o, none⟩ v) :=
  ⟨Below.setCell h.below (Nat.le_refl _) _, fun k hk hc => ((((OnlyAt.refl C x).set o v).2 k hc)).trans (h.other k hk hc)⟩
theorem cur_set2 {w : World} {C : Nat} {v0 v1 v2 : Value} (h : w.heap[C]? = some (.cells #[v0, v1, v2] TCur (0, 0))) (v : Value) : (w.setCell ⟨C, 2, none⟩ v).heap[C]? = some (.cells #[v0, v1, v] TCur (0, 0)) := by
  have h7 := heap_set_own (o := 2) h v
  simpa only [List.setIfInBounds_toArray, List.set_cons_zero, List.set_cons_succ] using h7
theorem cur_set1 {w : World} {C : Nat} {v0 v1 v2 : Value} (h : w.heap[C]? = some (.cells #[v0, v1, v2] TCur (0, 0))) (v : Value) : (w.setCell ⟨C, 1, none⟩ v).heap[C]? = some (.cells #[v0, v, v2] TCur (0, 0)) := by
  have h7 := heap_set_own (o := 1) h v
  simpa only [List.setIfInBounds_toArray, List.set_cons_zero, List.set_cons_succ] using h7
theorem CurAt.blk_drewN {w : World} {C : Nat} {o : Obj} (h : w.heap[C]? = some o) (k : Nat) : (w.drewN k).heap[C]? = some o := Later.has (below_drewN' (Below.refl _ _) k) h
theorem CurAt.lt {w : World} {C : Nat} {A : Option Addr} {n c : Nat} (h : CurAt w C A n c) : C < w.heap.size := by
  obtain ⟨_, _, _, h⟩ := h
  exact has_lt h
theorem Drawn.cell {C : Nat} {w x : World} (h : Drawn C w x) {g : Nat} (o : Nat) (hg : g < w.heap.size) (hc : g ≠ C) : x.cell? ⟨g, o, none⟩ = w.cell? ⟨g, o, none⟩ := by
  unfold World.cell?
  rw [h.other g hg hc]
theorem BytesIn.drawn {w x : World} {C : Nat} {A : Option Addr} {n : Nat} (h : BytesIn w C A n) (hd : Drawn C w x) : BytesIn x C A n := fun j hj => by
  obtain ⟨g, o, b, e, h1, h2, h3, h4, h5⟩ := h j hj
  exact ⟨g, o, b, e, h1, Nat.lt_of_lt_of_le h2 hd.below.size, h3, h4, (hd.cell _ h2 h1).trans h5⟩
theorem CurAt.later {w x : World} {C : Nat} {A : Option Addr} {n c : Nat} (h : CurAt w C A n c) (hl : Later w x) : CurAt x C A n c := by
  obtain ⟨i, y, hi, hb⟩ := h
  exact ⟨i, y, hi, Later.has hl hb⟩
theorem BytesIn.later {w x : World} {C : Nat} {A : Option Addr} {n : Nat} (h : BytesIn w C A n) (hd : Later w x) : BytesIn x C A n := fun j hj => by
  obtain ⟨g, o, b, e, h1, h2, h3, h4, h5⟩ := h j hj
  exact ⟨g, o, b, e, h1, Nat.lt_of_lt_of_le h2 hd.size, h3, h4, (hd.cell _ h2).trans h5⟩
theorem Drawn.has {C : Nat} {w x : World} (h : Drawn C w x) {b : Nat} {o : Obj} (hb : w.heap[b]? = some o) (hc : b ≠ C) : x.heap[b]? = some o := (h.other b (has_lt' hb) hc).trans hb
set_option maxRecDepth 100000 in
set_option maxHeartbeats 1000000 in
theorem l1Byte_any (C : Nat) (A : Option Addr) (n c : Nat) (w : World) (hcur : CurAt w C A n c) (hby : BytesIn w C A n) (hn : n ≤ 1048576) :
    Calls Try.prog 66 #[.pointer (some ⟨C, 0, none⟩)] w (DrewInt C A n c 0 255 w) := by
  obtain ⟨i, h, hi, hblk⟩ := hcur
  obtain ⟨c0, c1, c2⟩ := cells_cur hblk
  obtain ⟨f0, f1, f2, _⟩ := frozen_r hblk
  have HBY := Lib.hid hby
  have HBLK := Lib.hid hblk
  have hC := has_lt hblk
  clear hby hblk
  by_cases hlt : i < n
  · obtain ⟨g, o, b, hA, hgC, hg, hb0, hb1, hcell⟩ := HBY.out i hlt
    subst hA
    have t1 : decide ((i : Int) < n) = true := by simp; omega
    have t2 : decide (i < n) = true := by simp; omega
    have t3 : wrap64 ((i : Int) + 1) = ((i + 1 : Nat) : Int) := by simp [wrap64]; omega
    have t4 : (g == C) = false := by simpa using hgC
    have t5 : (C == g) = false := by simpa using Ne.symm hgC
    have t6 : (n : Int) > i := by omega
    go_enter Try.func66, Try.ntmps66
    go_wp2_with fail
    go_quiet (fail)
    go_wp2_with fail
    go_quiet (fail)
    go_wp2_with fail
    go_quiet (fail)
    go_wp2_with fail
    go_ret
    generalize hz : wrap64 (bits BinOp.and IntKind.i64 (bits BinOp.xor IntKind.i64 (wrap64 (wrap64 (h * 6364136223846793005) + 1442695040888963407) / 8589934592) (wrap64 (wrap64 (h * 6364136223846793005) + 1442695040888963407) / 35184372088832)) 255 + b) = z
    have hx := and_255 z
    refine ⟨_, hx.1, hx.2, rfl, ⟨i + 1, _, hlt, cur_set1 (CurAt.blk_drewN (cur_set2 HBLK.out _) _) _⟩, (Drawn.drewN ((Drawn.refl C w).set 2 _) (by simp; omega) _).set 1 _⟩
  · have t1 : decide ((i : Int) < n) = false := by simp; omega
    have t2 : decide (i < n) = false := by simp; omega
    go_enter Try.func66, Try.ntmps66
    go_wp2_with fail
    go_quiet (fail)
    go_wp2_with fail
    go_quiet (fail)
    go_wp2_with fail
    go_ret
    have hx := and_255 (bits BinOp.xor IntKind.i64 (wrap64 (wrap64 (h * 6364136223846793005) + 1442695040888963407) / 8589934592) (wrap64 (wrap64 (h * 6364136223846793005) + 1442695040888963407) / 35184372088832))
    exact ⟨_, hx.1, hx.2, rfl, (CurAt.drewN ⟨i, _, hi, cur_set2 HBLK.out _⟩ _).drewN _, (Drawn.drewN ((Drawn.refl C w).set 2 _) (by simp; omega) _).drewN (by simp; omega) _⟩

section
variable (C : Nat) (A : Option Addr) (n c : Nat) (w : World) (hcur : CurAt w C A n c) (hby : BytesIn w C A n) (hn : n ≤ 1048576)
include hcur hby hn
set_option maxRecDepth 100000 in
set_option maxHeartbeats 1000000 in
theorem l1Below_any (m : Nat) (hm : m ≤ 256) : Calls Try.prog 35 #[.pointer (some ⟨C, 0, none⟩), .int .i64 m] w (DrewInt C A n c 0 ((m - 1 : Nat) : Int) w) := by
  have HCUR := Lib.hid hcur
  have HBY := Lib.hid hby
  clear hcur hby
  by_cases h0 : m = 0
  · subst h0
    go_enter Try.func35, Try.ntmps35
    go_wp2_with fail
    go_ret
    exact ⟨0, by simp, by simp, rfl, HCUR.out, Drawn.refl _ _⟩
  · have t1 : decide ((m : Int) ≤ 0) = false := by simp; omega
    have t2 : decide ((m : Int) ≤ 256) = true := by simp; omega
    have t3 : ((m : Int) == 0) = false := by simp; omega
    have t4 : (m : Int) ≠ 0 := by omega
    go_enter Try.func35, Try.ntmps35
    go_wp2_with fail
    refine (l1Byte_any C A n c w HCUR.out HBY.out hn).mono ?_
    rintro e w2 ⟨x, hx0, hx1, rfl, hc2, hd2⟩
    have HC2 := Lib.hid hc2
    have HD2 := Lib.hid hd2
    clear hc2 hd2
    go_wp2_with fail
    go_ret
    have hy0 := Int.emod_nonneg x t4
    have hy1 := Int.emod_lt_of_pos x (show (0 : Int) < m by omega)
    exact ⟨x % m, hy0, by omega, rfl, HC2.out, HD2.out⟩
theorem l1Once_any (m : Nat) (hm : m ≤ 256) : Calls Try.prog 64 #[.pointer (some ⟨C, 0, none⟩), .int .i64 m] w (fun e w' => ∃ b, e = .returned (.bool b) ∧ CurAt w' C A n c ∧ Drawn C w w') := by
  have HCUR := Lib.hid hcur
  have HBY := Lib.hid hby
  clear hcur hby
  go_enter Try.func64, Try.ntmps64
  go_wp2_with fail
  refine (l1Below_any C A n c w HCUR.out HBY.out hn m hm).mono ?_
  rintro e w2 ⟨x, hx0, hx1, rfl, hc2, hd2⟩
  have HC2 := Lib.hid hc2
  have HD2 := Lib.hid hd2
  clear hc2 hd2
  go_wp2_with fail
  all_goals (go_ret; exact ⟨_, rfl, HC2.out, HD2.out⟩)
/-- A member of a row of numbers. -/
theorem l1PickInt_any (g k cap : Nat) (P : Int → Prop) (hk0 : 0 < k) (hk : k ≤ 256) (hg : g < w.heap.size) (hgC : g ≠ C) (hrow : ∀ j, j < k → ∃ v, P v ∧ w.cell? ⟨g, j, none⟩ = some (.int .i64 v)) :
    Calls Try.prog 36 #[.pointer (some ⟨C, 0, none⟩), .slice (some ⟨g, 0, none⟩) k cap] w (fun e w' => ∃ v, P v ∧ e = .returned (.int .i64 v) ∧ CurAt w' C A n c ∧ Drawn C w w') := by
  have HCUR := Lib.hid hcur
  have HBY := Lib.hid hby
  have HROW := Lib.hid hrow
  clear hcur hby hrow
  go_enter Try.func36, Try.ntmps36
  go_wp2_with fail
  refine (l1Below_any C A n c w HCUR.out HBY.out hn k hk).mono ?_
  rintro e w2 ⟨x, hx0, hx1, rfl, hc2, hd2⟩
  obtain ⟨j, rfl⟩ : ∃ j : Nat, x = j := ⟨x.toNat, by omega⟩
  have hj : j < k := by omega
  obtain ⟨v, hv, hcell⟩ := HROW.out j hj
  have hcell2 := (hd2.cell j hg hgC).trans hcell
  have hg2 : g < w2.heap.size := Nat.lt_of_lt_of_le hg hd2.below.size
  have HC2 := Lib.hid hc2
  have HD2 := Lib.hid hd2
  have HV := Lib.hid hv
  clear hc2 hd2 hcell hv
  go_wp2_with fail
  go_ret
  exact ⟨v, HV.out, rfl, HC2.out, HD2.out⟩
/-- A member of a row of texts. -/
theorem l1Pick_any (g k cap : Nat) (P : ByteArray → Prop) (hk0 : 0 < k) (hk : k ≤ 256) (hg : g < w.heap.size) (hgC : g ≠ C) (hrow : ∀ j, j < k → ∃ v, P v ∧ w.cell? ⟨g, j, none⟩ = some (.string v)) :
    Calls Try.prog 65 #[.pointer (some ⟨C, 0, none⟩), .slice (some ⟨g, 0, none⟩) k cap] w (fun e w' => ∃ v, P v ∧ e = .returned (.string v) ∧ CurAt w' C A n c ∧ Drawn C w w') := by
  have HCUR := Lib.hid hcur
  have HBY := Lib.hid hby
  have HROW := Lib.hid hrow
  clear hcur hby hrow
  go_enter Try.func65, Try.ntmps65
  go_wp2_with fail
  refine (l1Below_any C A n c w HCUR.out HBY.out hn k hk).mono ?_
  rintro e w2 ⟨x, hx0, hx1, rfl, hc2, hd2⟩
  obtain ⟨j, rfl⟩ : ∃ j : Nat, x = j := ⟨x.toNat, by omega⟩
  have hj : j < k := by omega
  obtain ⟨v, hv, hcell⟩ := HROW.out j hj
  have hcell2 := (hd2.cell j hg hgC).trans hcell
  have hg2 : g < w2.heap.size := Nat.lt_of_lt_of_le hg hd2.below.size
  have HC2 := Lib.hid hc2
  have HD2 := Lib.hid hd2
  have HV := Lib.hid hv
  clear hc2 hd2 hcell hv
  go_wp2_with fail
  go_ret
  exact ⟨v, HV.out, rfl, HC2.out, HD2.out⟩
/-- l17Part gives a short text. -/
theorem l17Part_any : Calls Try.prog 88 #[.pointer (some ⟨C, 0, none⟩)] w (fun e w' => ∃ v : ByteArray, v.size ≤ 3 ∧ e = .returned (.string v) ∧ CurAt w' C A n c ∧ Drawn C w w') := by
  have HCUR := Lib.hid hcur
  have HBY := Lib.hid hby
  have hlt := hcur.lt
  clear hcur hby
  go_enter Try.func88, Try.ntmps88
  go_wp2_with fail
  refine (l1Pick_any C A n c _ (HCUR.out.later ((Later.refl _).alloc _)) (HBY.out.later ((Later.refl _).alloc _)) hn w.heap.size 8 8 (fun v => v.size ≤ 3) (by omega) (by omega) (by simp) (by omega) (fun j hj => ?_)).mono ?_
  · have hr := fun j => cell_of_row _ w.heap.size j _ _ _ (heap_alloc_new w (.cells #[.string ⟨#[]⟩, .string ⟨#[97]⟩, .string ⟨#[97, 110]⟩, .string ⟨#[110, 97]⟩, .string ⟨#[97, 110, 97]⟩, .string ⟨#[98]⟩, .string ⟨#[44]⟩, .string ⟨#[120]⟩] 9))
    rcases j with _ | _ | _ | _ | _ | _ | _ | _ | j
    all_goals first | omega | exact ⟨_, by decide, hr _⟩
  · rintro e w2 ⟨v, hv, rfl, hc2, hd2⟩
    have HC2 := Lib.hid hc2
    have HD2 := Lib.hid ((Drawn.later ((Later.refl _).alloc _) (Nat.le_of_lt hlt)).trans hd2)
    clear hc2 hd2
    go_wp2_with fail
    go_ret
    exact ⟨v, hv, rfl, HC2.out, HD2.out⟩
end
/-- How great what is drawn may become. -/
theorem l1Size_any (A : Option Addr) (n c : Nat) (hn : n ≤ 1048576) (w : World) : Calls Try.prog 63 #[.slice A n c, .int .i64 4] w (fun e w' => ∃ m : Nat, 2 ≤ m ∧ m ≤ 4 ∧ e = .returned (.int .i64 m) ∧ w' = w) := by
  by_cases h : 60 ≤ n
  · have t3 : decide (4 < 2 + (n : Int) / 20) = true := by simp; omega
    go_enter Try.func63, Try.ntmps63
    go_wp2_with fail
    go_ret
    exact ⟨4, by omega, by omega, rfl, rfl⟩
  · have t3 : decide (4 < 2 + (n : Int) / 20) = false := by simp; omega
    go_enter Try.func63, Try.ntmps63
    go_wp2_with fail
    go_ret
    exact ⟨2 + n / 20, by omega, by omega, rfl, rfl⟩
theorem big_any (A : Option Addr) (n c : Nat) (w : World) : Calls Try.prog 9 #[.slice A n c] w (fun e w' => e = .returned (.bool (decide (1048576 < n))) ∧ w' = w) := by
  have t1 : decide ((1048576 : Int) < n) = decide (1048576 < n) := by simp; omega
  go_enter Try.func9, Try.ntmps9
  go_wp2_with fail
  all_goals (go_ret; exact ⟨rfl, rfl⟩)
end Go.Proofs.Ytndefbecoahfhaa

/- The walk of a drawn region in one order, where what stays is a fact S of the worlds (not 'only new blocks'). -/
namespace Go.Proofs.Ytndefbecoahfhaa
open Go.RowKit

section
variable {P : Program} {ops : Array Oper} {Q : Exit → Act → World → Prop} {S : World → Prop}

/-- The state of the walk: S holds here and behind each operation that is not among the last ones. -/
def wpV (P : Program) (ops : Array Oper) (Q : Exit → Act → World → Prop) (L U : List Nat) (S : World → Prop) (fuel : Nat) (listed : Array Bool) (a : Act) (w : World) : Prop :=
  wpAnyU P .any ops Q (tlOf L U) (puOf U) S fuel listed a w

theorem wpV_begin (L U : List Nat) (S : World → Prop) {id : Nat} {a : Act} {w : World} (hm : P.follows .mixedOrders = true)
    (h : ∀ w1, w1 = w.drew → wpV P ops Q L U S ops.size (Array.replicate ops.size false) a w1) : (Code.region id ops true).wp P Q a w :=
  wp_region_any hm (wpAny_of_U _ _ _ _ (h w.drew rfl))

theorem wpV_take (i : Nat) (d : Option Tmp) {L U : List Nat} {oi : Oper} {v : Value} {fuel : Nat} {listed : Array Bool} {a : Act} {w : World} (hi : ops[i]? = some oi) (hd : oi.dst = d)
    (hB : takeU ops L listed i = true)
    (hQ : ∀ c a w, Q (.panic c) (a.put d v) w → Q (.panic c) a w)
    (hw : Region.wanted oi (yielded ops a.tmps) = true) (hS : S w) (hy : ∀ x, S x → (execOp a.eval oi).run P x = .ok (.value v) x)
    (h : wpV P ops Q L U S fuel (listed.setIfInBounds i true) (a.put d v) w) : wpV P ops Q L U S (fuel + 1) listed a w := by
  subst hd
  simp only [takeU, Bool.and_eq_true] at hB
  obtain ⟨⟨⟨⟨hs, hf⟩, hr⟩, hc⟩, ht⟩ := hB
  refine wpAnyU_first hi (Region.noSelect_spec hs) hQ (fun j _ htj => ?_) fuel listed a w (Region.free_spec hi hf) (closed_of hc) (by simpa using hr) (.inl ⟨hw, hy⟩) hS h
  simp only [tlOf, Bool.or_eq_true] at htj
  rcases htj with h1 | h1
  · exact .inr (List.all_eq_true.1 ht j (by simpa using h1))
  · exact .inl h1

theorem wpV_pure (i : Nat) (d : Option Tmp) {L U : List Nat} {oi : Oper} {v : Value} {fuel : Nat} {listed : Array Bool} {a : Act} {w : World} (hi : ops[i]? = some oi) (hd : oi.dst = d)
    (hB : pureU ops U listed i = true)
    (hQ : ∀ c a w, Q (.panic c) (a.put d v) w → Q (.panic c) a w)
    (hw : Region.wanted oi (yielded ops a.tmps) = true) (hy : ∀ x, (execOp a.eval oi).run P x = .ok (.value v) x)
    (h : wpV P ops Q L U S fuel (listed.setIfInBounds i true) (a.put d v) w) : wpV P ops Q L U S (fuel + 1) listed a w := by
  subst hd
  simp only [pureU, Bool.and_eq_true] at hB
  obtain ⟨⟨⟨hs, hf⟩, hr⟩, hu⟩ := hB
  exact wpAnyU_pure hi (Region.noSelect_spec hs) hQ (by simp only [tlOf, Bool.or_eq_true]; exact .inr hu) fuel listed a w (Region.free_spec hi hf) (by simpa using hr) (.inl ⟨hw, fun x _ => hy x⟩) h

/-- The post of one operation that comes up alone. -/
def StepV (Q : Exit → Act → World → Prop) (S : World → Prop) (K : Act → World → Prop) : Exit → Act → World → Prop
  | .normal, a', w' => S w' ∧ K a' w'
  | e, a', w' => Q e a' w'

theorem wpV_step (i : Nat) {L U : List Nat} {o : Oper} {fuel : Nat} {listed : Array Bool} {a : Act} {w : World} (hr : Region.ready .any ops listed = [i]) (hu : U.contains i = false) (ho : ops[i]? = some o)
    (h : wpList P ops (StepV Q S (fun a' w' => wpV P ops Q L U S fuel (listed.setIfInBounds i true) a' w')) [o] a w) : wpV P ops Q L U S (fuel + 1) listed a w := by
  refine ⟨fun h0 => (by rw [hr] at h0; cases h0), fun j hj => ?_⟩
  rw [hr] at hj
  obtain rfl : j = i := by simpa using hj
  unfold wpList at h
  unfold wpOp
  rw [ho]
  have hK : ∀ a' w', wpList P ops (StepV Q S (fun a' w' => wpV P ops Q L U S fuel (listed.setIfInBounds j true) a' w')) [] a' w' →
      (((tlOf L U j = false → S w') ∧ (puOf U j = true → w' = w)) ∧ wpAnyU P .any ops Q (tlOf L U) (puOf U) S fuel (listed.setIfInBounds j true) a' w') := fun a' w' h' =>
    ⟨⟨fun _ => h'.1, fun h0 => (by unfold puOf at h0; rw [hu] at h0; cases h0)⟩, h'.2⟩
  have hup : o.wp P a w (wpList P ops (StepV Q S (fun a' w' => wpV P ops Q L U S fuel (listed.setIfInBounds j true) a' w')) []) (StepV Q S (fun a' w' => wpV P ops Q L U S fuel (listed.setIfInBounds j true) a' w')) →
      o.wp P a w (wpList P ops (StepV Q S (fun a' w' => wpV P ops Q L U S fuel (listed.setIfInBounds j true) a' w')) []) Q := fun h' => by
    unfold Oper.wp at *
    generalize (execOp a.eval o).run P w = r at *
    cases r with
    | ok n w' => cases n <;> exact h'
    | halt x w' => cases x <;> exact h'
  show if Region.wanted o (yielded ops a.tmps) = true then _ else _
  split
  · rename_i hw
    rw [if_pos hw] at h
    rcases h with h | ⟨h1, h2⟩
    · exact .inl (Oper.wp_mono hK (hup h))
    · exact .inr ⟨h1, h2⟩
  · rename_i hw
    rw [if_neg hw] at h
    exact hK _ _ h

theorem wpV_last {L U : List Nat} (os : List Oper) {n : Nat} {listed : Array Bool} {a : Act} {w : World} (hB : lastB ops L U listed = true) (hn : L.length = n) (hos : L.map (ops[·]?) = os.map some)
    (h : wpList P ops Q os a w) : wpV P ops Q L U S n listed a w := by
  subst hn
  simp only [lastB, Bool.and_eq_true] at hB
  exact wpU_chain L L os listed a w hB.1 (fun i hi => ⟨by simpa using hi, by simpa using List.all_eq_true.1 hB.2 i hi⟩) hos h
end
end Go.Proofs.Ytndefbecoahfhaa

/- How spec's matcher lies in memory, and how it changes. No walk in sight. -/
namespace Go.Proofs.Ytndefbecoahfhaa
open Go.RowKit

abbrev TS : TypeId := 114
abbrev TQ : TypeId := 118
abbrev TD : TypeId := 121

/-- One of spec's goals. -/
structure SG where
  kind : Nat
  p : Pat
  kv : Value
  next : Int
  fr : Int
abbrev SG.cells (g : SG) : List Value := [.int .i64 g.kind, .int .i64 g.p.op, .string g.p.text, .int .i64 g.p.num, .int .i64 g.p.lo, .int .i64 g.p.hi, g.kv, .int .i64 g.next, .int .i64 g.fr]
def sgCells : List SG → List Value
  | [] => []
  | g :: gl => g.cells ++ sgCells gl
theorem sgCells_append : ∀ (a b : List SG), sgCells (a ++ b) = sgCells a ++ sgCells b
  | [], b => rfl
  | g :: a, b => by simp only [List.cons_append, sgCells, sgCells_append a b, List.append_assoc]
theorem sgCells_len : ∀ (a : List SG), (sgCells a).length = a.length * 9
  | [] => rfl
  | g :: a => by simp only [sgCells, List.length_append, sgCells_len a, List.length_cons, List.length_nil]; omega
theorem sgCells_at : ∀ (a : List SG) (i : Nat) (g : SG), a[i]? = some g → ∀ j u, g.cells[j]? = some u → (sgCells a)[i * 9 + j]? = some u
  | [], i, g, h, j, u, _ => by simp at h
  | x :: a, 0, g, h, j, u, hu => by
    simp at h
    subst h
    have hj : j < x.cells.length := (List.getElem?_eq_some_iff.1 hu).1
    simp only [sgCells]
    rw [List.getElem?_append_left (by omega)]
    simpa using hu
  | x :: a, i + 1, g, h, j, u, hu => by
    simp only [sgCells]
    have hl : x.cells.length = 9 := rfl
    rw [List.getElem?_append_right (by omega), hl, show (i + 1) * 9 + j - 9 = i * 9 + j by omega]
    exact sgCells_at a i g (by simpa using h) j u hu

/-- The goals that a number stands for. -/
def Chain (gl : List SG) : Int → List Goal → Prop
  | i, [] => i = -1
  | i, g :: gs => ∃ (j : Nat) (x : SG), i = (j : Int) ∧ gl[j]? = some x ∧ x.kind = g.kind ∧ x.p = g.p ∧ x.fr = g.fr ∧ Chain gl x.next gs
theorem Chain.more {gl : List SG} (x : List SG) : ∀ (gs : List Goal) (i : Int), Chain gl i gs → Chain (gl ++ x) i gs
  | [], _, h => h
  | g :: gs, _, h => by
    simp only [Chain] at h ⊢
    obtain ⟨j, y, e, hj, h1, h2, h3, h4⟩ := h
    have hlt : j < gl.length := (List.getElem?_eq_some_iff.1 hj).1
    exact ⟨j, y, e, by rw [List.getElem?_append_left hlt]; exact hj, h1, h2, h3, Chain.more x gs _ h4⟩
theorem Chain.push {gl : List SG} {gs : List Goal} (x : SG) (g : Goal) (h : Chain gl x.next gs) (h1 : x.kind = g.kind) (h2 : x.p = g.p) (h3 : x.fr = g.fr) : Chain (gl ++ [x]) (gl.length : Int) (g :: gs) :=
  ⟨gl.length, x, rfl, by simp, h1, h2, h3, h.more [x] gs _⟩

theorem Chain.push2 {gl : List SG} {gs : List Goal} (x y : SG) (g g' : Goal) (h : Chain gl x.next gs) (h1 : x.kind = g.kind) (h2 : x.p = g.p) (h3 : x.fr = g.fr) (hn : y.next = (gl.length : Int)) (k1 : y.kind = g'.kind) (k2 : y.p = g'.p) (k3 : y.fr = g'.fr) :
    Chain (gl ++ [x] ++ [y]) ((gl.length : Int) + 1) (g' :: g :: gs) := by
  rw [show ((gl.length : Int) + 1) = ((gl ++ [x]).length : Int) by simp]
  exact Chain.push y g' (by rw [hn]; exact Chain.push x g h h1 h2 h3) k1 k2 k3
/-- A choice's three cells. -/
def SChoiceIs (gl : List SG) (c : Choice) (vs : List Value) : Prop :=
  ∃ i : Int, vs = [.int .i64 i, .int .i64 c.at_, .int .i64 c.ncap] ∧ ((c.stop = true ∧ i = -2) ∨ (c.stop = false ∧ Chain gl i c.goals))
def SChoicesAre (gl : List SG) : List Choice → List Value → Prop
  | [], vs => vs = []
  | c :: cs, vs => ∃ a b, vs = a ++ b ∧ SChoiceIs gl c a ∧ SChoicesAre gl cs b
theorem SChoiceIs.more {gl : List SG} (x : List SG) {c : Choice} {vs : List Value} (h : SChoiceIs gl c vs) : SChoiceIs (gl ++ x) c vs := by
  obtain ⟨i, e, h⟩ := h
  refine ⟨i, e, ?_⟩
  rcases h with h | ⟨h1, h2⟩
  · exact .inl h
  · exact .inr ⟨h1, h2.more x⟩
theorem SChoicesAre.more {gl : List SG} (x : List SG) : ∀ (cs : List Choice) (vs : List Value), SChoicesAre gl cs vs → SChoicesAre (gl ++ x) cs vs
  | [], _, h => h
  | _ :: cs, _, h => by
    simp only [SChoicesAre] at h ⊢
    obtain ⟨a, b, e, h1, h2⟩ := h
    exact ⟨a, b, e, h1.more x, SChoicesAre.more x cs b h2⟩
theorem SChoiceIs.len {gl : List SG} {c : Choice} {vs : List Value} (h : SChoiceIs gl c vs) : vs.length = 3 := by
  obtain ⟨i, rfl, _⟩ := h; rfl
theorem SChoicesAre.len {gl : List SG} : ∀ (cs : List Choice) (vs : List Value), SChoicesAre gl cs vs → vs.length = cs.length * 3
  | [], _, h => by simp only [SChoicesAre] at h; subst h; rfl
  | c :: cs, _, h => by
    simp only [SChoicesAre] at h
    obtain ⟨a, b, rfl, h1, h2⟩ := h
    rw [List.length_append, h1.len, SChoicesAre.len cs b h2, List.length_cons]
    omega
theorem SChoicesAre.push {gl : List SG} {c : Choice} {vc : List Value} (hc : SChoiceIs gl c vc) : ∀ (cs : List Choice) (vs : List Value), SChoicesAre gl cs vs → SChoicesAre gl (cs ++ [c]) (vs ++ vc)
  | [], _, h => by
    simp only [SChoicesAre] at h
    subst h
    exact ⟨vc, [], by simp, hc, rfl⟩
  | _ :: cs, _, h => by
    simp only [SChoicesAre, List.cons_append] at h ⊢
    obtain ⟨a, b, rfl, h1, h2⟩ := h
    exact ⟨a, b ++ vc, by simp, h1, SChoicesAre.push hc cs b h2⟩
theorem SChoicesAre.pop {gl : List SG} {c : Choice} : ∀ (cs : List Choice) (vs : List Value), SChoicesAre gl (cs ++ [c]) vs → ∃ a b, vs = a ++ b ∧ SChoicesAre gl cs a ∧ SChoiceIs gl c b
  | [], vs, h => by
    simp only [List.nil_append, SChoicesAre] at h
    obtain ⟨a, b, rfl, h1, rfl⟩ := h
    exact ⟨[], a, by simp, rfl, h1⟩
  | d :: cs, vs, h => by
    simp only [List.cons_append, SChoicesAre] at h
    obtain ⟨a, b, rfl, h1, h2⟩ := h
    obtain ⟨a', b', rfl, h3, h4⟩ := SChoicesAre.pop cs b h2
    exact ⟨a ++ a', b', by simp, ⟨a, a', rfl, h1, h3⟩, h4⟩

/-- A block of another's, apart from the matcher's own. -/
structure Foreign (w : World) (x : Nat × Obj) (M : Nat) (gv hv cv ev : Value) : Prop where
  blk : w.heap[x.1]? = some x.2
  m : x.1 ≠ M
  g : gv.ownBlock ≠ some x.1
  h : hv.ownBlock ≠ some x.1
  c : cv.ownBlock ≠ some x.1
  e : ev.ownBlock ≠ some x.1

abbrev sCells (gv hv : Value) (gi ai : Int) (cv ev : Value) : Array Value := #[gv, hv, .int .i64 gi, .int .i64 ai, cv, ev]
/-- Spec's matcher at block M. -/
structure SpecAt (w0 w : World) (F : List (Nat × Obj)) (M : Nat) (m : Mst) (gl : List SG) (gi ai : Int) (gv hv cv ev : Value) (hs : List Value) : Prop where
  blk : w.heap[M]? = some (.cells (sCells gv hv gi ai cv ev) TS (0, 0))
  base : w0.heap.size ≤ M
  goals : HasRow w w0.heap.size TQ 9 gv gl.length (sgCells gl)
  kids : ∀ g ∈ gl, KidsIn w0 g.p g.kv
  chs : HasRow w w0.heap.size TD 3 hv m.choices.length hs
  are : SChoicesAre gl m.choices hs
  caps : HasRow w w0.heap.size TK 3 cv m.caps.length (capCells m.caps)
  evs : HasRow w w0.heap.size TK 3 ev m.events.length (capCells m.events)
  apart : cv.ownBlock = none ∨ cv.ownBlock ≠ ev.ownBlock
  foreign : ∀ x ∈ F, Foreign w x M gv hv cv ev
  below : Below w0.heap.size w0 w

section
variable {w0 w : World} {F : List (Nat × Obj)} {M : Nat} {m : Mst} {gl : List SG} {gi ai : Int} {gv hv cv ev : Value} {hs : List Value}

theorem SpecAt.later (h : SpecAt w0 w F M m gl gi ai gv hv cv ev hs) {x : World} (hl : Later w x) : SpecAt w0 x F M m gl gi ai gv hv cv ev hs :=
  ⟨hl.has h.blk, h.base, h.goals.same fun k hk => hl.block k (h.goals.lt k hk).2.1, h.kids, h.chs.same fun k hk => hl.block k (h.chs.lt k hk).2.1, h.are,
    h.caps.same fun k hk => hl.block k (h.caps.lt k hk).2.1, h.evs.same fun k hk => hl.block k (h.evs.lt k hk).2.1, h.apart,
    fun y hy => ⟨hl.has (h.foreign y hy).blk, (h.foreign y hy).m, (h.foreign y hy).g, (h.foreign y hy).h, (h.foreign y hy).c, (h.foreign y hy).e⟩, h.below.trans (Below.mono hl h.below.size)⟩

/-- A block made now is another's. -/
theorem SpecAt.make (h : SpecAt w0 w F M m gl gi ai gv hv cv ev hs) {x : World} (hl : Later w x) {b : Nat} {o : Obj} (hb : x.heap[b]? = some o) (hlt : w.heap.size ≤ b) : SpecAt w0 x ((b, o) :: F) M m gl gi ai gv hv cv ev hs := by
  have h' := h.later hl
  have hM := has_lt h.blk
  refine ⟨h'.blk, h'.base, h'.goals, h'.kids, h'.chs, h'.are, h'.caps, h'.evs, h'.apart, fun y hy => ?_, h'.below⟩
  rcases List.mem_cons.1 hy with rfl | hy
  · refine ⟨hb, by show b ≠ M; omega, ?_, ?_, ?_, ?_⟩
    · intro e; have := (h.goals.lt _ e).2.1; omega
    · intro e; have := (h.chs.lt _ e).2.1; omega
    · intro e; have := (h.caps.lt _ e).2.1; omega
    · intro e; have := (h.evs.lt _ e).2.1; omega
  · exact h'.foreign y hy
/-- Fewer of another's. -/
theorem SpecAt.fewer (h : SpecAt w0 w F M m gl gi ai gv hv cv ev hs) {F' : List (Nat × Obj)} (hF : ∀ x ∈ F', x ∈ F) : SpecAt w0 w F' M m gl gi ai gv hv cv ev hs :=
  ⟨h.blk, h.base, h.goals, h.kids, h.chs, h.are, h.caps, h.evs, h.apart, fun y hy => h.foreign y (hF y hy), h.below⟩

/-- A write into the matcher's own block. -/
theorem SpecAt.set {cur : Array Value} {k : Nat} {u : Value} (hb : w.heap[M]? = some (.cells cur TS (0, 0))) (he : cur.setIfInBounds k u = sCells gv hv gi ai cv ev) (base : w0.heap.size ≤ M)
    (goals : HasRow w w0.heap.size TQ 9 gv gl.length (sgCells gl)) (kids : ∀ g ∈ gl, KidsIn w0 g.p g.kv) (chs : HasRow w w0.heap.size TD 3 hv m.choices.length hs) (are : SChoicesAre gl m.choices hs)
    (caps : HasRow w w0.heap.size TK 3 cv m.caps.length (capCells m.caps)) (evs : HasRow w w0.heap.size TK 3 ev m.events.length (capCells m.events)) (apart : cv.ownBlock = none ∨ cv.ownBlock ≠ ev.ownBlock)
    (foreign : ∀ x ∈ F, Foreign w x M gv hv cv ev) (below : Below w0.heap.size w0 w) : SpecAt w0 (w.setCell ⟨M, k, none⟩ u) F M m gl gi ai gv hv cv ev hs := by
  have other : ∀ {e : TypeId} {size : Nat} {v : Value} {l : Nat} {xs : List Value}, HasRow w w0.heap.size e size v l xs → e ≠ TS → HasRow (w.setCell ⟨M, k, none⟩ u) w0.heap.size e size v l xs := fun h hne =>
    h.same fun b hbk => by
      obtain ⟨_, _, c, hc⟩ := h.lt b hbk
      exact Below.heap_setCell _ _ _ _ (ne_of_type hc hb hne)
  exact ⟨by rw [heap_set_own hb, he], base, other goals (by decide), kids, other chs (by decide), are, other caps (by decide), other evs (by decide), apart,
    fun y hy => ⟨heap_set_other (foreign y hy).blk (foreign y hy).m, (foreign y hy).m, (foreign y hy).g, (foreign y hy).h, (foreign y hy).c, (foreign y hy).e⟩, below.setCell base u⟩

/-- What a growth of one of the four rows leaves of the rest. -/
theorem grown_row {w w' : World} {r : Option Nat} (hg : w.grownBy w' r) {base : Nat} {e : TypeId} {size : Nat} {v : Value} {n : Nat} {xs : List Value} (h : HasRow w base e size v n xs) (hne : ∀ k, v.ownBlock = some k → r ≠ some k) : HasRow w' base e size v n xs :=
  h.same fun b hb => hg.block b (h.lt b hb).2.1 fun e => hne b hb e.symm
theorem row_ne {w : World} {base base' : Nat} {e e' : TypeId} {size size' : Nat} {v v' : Value} {n n' : Nat} {xs xs' : List Value} (h : HasRow w base e size v n xs) (h' : HasRow w base' e' size' v' n' xs') (hne : e ≠ e') : ∀ k, v.ownBlock = some k → v'.ownBlock ≠ some k := fun k hk hk' => by
  obtain ⟨_, _, c, hc⟩ := h.lt k hk
  obtain ⟨_, _, d, hd⟩ := h'.lt k hk'
  exact ne_of_type hc hd hne rfl
theorem grown_blk {w w' : World} {M : Nat} {o : Obj} {r : Option Nat} (hg : w.grownBy w' r) (hb : w.heap[M]? = some o) (hne : r ≠ some M) : w'.heap[M]? = some o := by
  rw [hg.block M (has_lt hb) (fun e => hne e.symm)]; exact hb
theorem row_ne_blk {w : World} {base M : Nat} {e t : TypeId} {size : Nat} {v : Value} {n : Nat} {xs : List Value} {cs : Array Value} (h : HasRow w base e size v n xs) (hb : w.heap[M]? = some (.cells cs t (0, 0))) (hne : e ≠ t) : v.ownBlock ≠ some M := fun hk => by
  obtain ⟨_, _, c, hc⟩ := h.lt M hk
  exact ne_of_type hc hb hne rfl
theorem new_ne {w : World} {v v' : Value} {b : Nat} {o : Obj} (hv : v'.ownBlock = v.ownBlock ∨ v'.ownBlock = some w.heap.size) (h : v.ownBlock ≠ some b) (hb : w.heap[b]? = some o) : v'.ownBlock ≠ some b := by
  rcases hv with hv | hv
  · rw [hv]; exact h
  · rw [hv]
    intro e
    have := has_lt hb
    have := Option.some.inj e
    omega

/-- The goals have grown. -/
theorem SpecAt.grownG (h : SpecAt w0 w F M m gl gi ai gv hv cv ev hs) {w' : World} {v' : Value} {x : SG} (hrow : HasRow w' w0.heap.size TQ 9 v' (gl.length + 1) (sgCells gl ++ x.cells)) (hg : w.grownBy w' gv.ownBlock) (hvo : v'.ownBlock = gv.ownBlock ∨ v'.ownBlock = some w.heap.size) (hx : KidsIn w0 x.p x.kv) :
    w'.heap[M]? = some (.cells (sCells gv hv gi ai cv ev) TS (0, 0)) ∧ SpecAt w0 (w'.setCell ⟨M, 0, none⟩ v') F M m (gl ++ [x]) gi ai v' hv cv ev hs := by
  have hM := grown_blk hg h.blk (row_ne_blk h.goals h.blk (by decide))
  refine ⟨hM, SpecAt.set hM rfl h.base ?_ ?_ (grown_row hg h.chs (row_ne h.chs h.goals (by decide))) (h.are.more [x] _ _) (grown_row hg h.caps (row_ne h.caps h.goals (by decide))) (grown_row hg h.evs (row_ne h.evs h.goals (by decide))) h.apart ?_ (h.below.grown hg h.below.size (fun k hk => (h.goals.lt k hk).1))⟩
  · simpa [sgCells_append, sgCells] using hrow
  · intro g hgm
    rcases List.mem_append.1 hgm with h1 | h1
    · exact h.kids g h1
    · rw [List.mem_singleton.1 h1]; exact hx
  · intro y hy
    have f := h.foreign y hy
    exact ⟨grown_blk hg f.blk f.g, f.m, new_ne hvo f.g f.blk, f.h, f.c, f.e⟩
/-- The choices have grown. -/
theorem SpecAt.grownH (h : SpecAt w0 w F M m gl gi ai gv hv cv ev hs) {w' : World} {v' : Value} {c : Choice} {vc : List Value} (hrow : HasRow w' w0.heap.size TD 3 v' (m.choices.length + 1) (hs ++ vc)) (hg : w.grownBy w' hv.ownBlock) (hv' : v'.ownBlock = hv.ownBlock ∨ v'.ownBlock = some w.heap.size) (hx : SChoiceIs gl c vc) :
    w'.heap[M]? = some (.cells (sCells gv hv gi ai cv ev) TS (0, 0)) ∧ SpecAt w0 (w'.setCell ⟨M, 1, none⟩ v') F M { m with choices := m.choices ++ [c] } gl gi ai gv v' cv ev (hs ++ vc) := by
  have hM := grown_blk hg h.blk (row_ne_blk h.chs h.blk (by decide))
  refine ⟨hM, SpecAt.set (m := { m with choices := m.choices ++ [c] }) hM rfl h.base (grown_row hg h.goals (row_ne h.goals h.chs (by decide))) h.kids (by simpa using hrow) (SChoicesAre.push hx _ _ h.are) (grown_row hg h.caps (row_ne h.caps h.chs (by decide))) (grown_row hg h.evs (row_ne h.evs h.chs (by decide))) h.apart ?_ (h.below.grown hg h.below.size (fun k hk => (h.chs.lt k hk).1))⟩
  intro y hy
  have f := h.foreign y hy
  exact ⟨grown_blk hg f.blk f.h, f.m, f.g, new_ne hv' f.h f.blk, f.c, f.e⟩
/-- The captures have grown. -/
theorem SpecAt.grownC (h : SpecAt w0 w F M m gl gi ai gv hv cv ev hs) {w' : World} {v' : Value} {c : Cap} (hrow : HasRow w' w0.heap.size TK 3 v' (m.caps.length + 1) (capCells m.caps ++ [.int .i64 c.var, .int .i64 c.fr, .int .i64 c.to])) (hg : w.grownBy w' cv.ownBlock) (hv' : v'.ownBlock = cv.ownBlock ∨ v'.ownBlock = some w.heap.size) :
    w'.heap[M]? = some (.cells (sCells gv hv gi ai cv ev) TS (0, 0)) ∧ SpecAt w0 (w'.setCell ⟨M, 4, none⟩ v') F M (m.cap c) gl gi ai gv hv v' ev hs := by
  have hM := grown_blk hg h.blk (row_ne_blk h.caps h.blk (by decide))
  have hce : ∀ k, ev.ownBlock = some k → cv.ownBlock ≠ some k := fun k hk e => by
    rcases h.apart with h1 | h1
    · rw [h1] at e; cases e
    · exact h1 (e.trans hk.symm)
  refine ⟨hM, SpecAt.set (m := m.cap c) hM rfl h.base (grown_row hg h.goals (row_ne h.goals h.caps (by decide))) h.kids (grown_row hg h.chs (row_ne h.chs h.caps (by decide))) h.are (by simpa [Mst.cap, capCells_append, capCells] using hrow) (grown_row hg h.evs hce) (apart_new' h.evs h.apart hv') ?_ (h.below.grown hg h.below.size (fun k hk => (h.caps.lt k hk).1))⟩
  intro y hy
  have f := h.foreign y hy
  exact ⟨grown_blk hg f.blk f.c, f.m, f.g, f.h, new_ne hv' f.c f.blk, f.e⟩
/-- The events have grown. -/
theorem SpecAt.grownE (h : SpecAt w0 w F M m gl gi ai gv hv cv ev hs) {w' : World} {v' : Value} {c : Cap} (hrow : HasRow w' w0.heap.size TK 3 v' (m.events.length + 1) (capCells m.events ++ [.int .i64 c.var, .int .i64 c.fr, .int .i64 c.to])) (hg : w.grownBy w' ev.ownBlock) (hv' : v'.ownBlock = ev.ownBlock ∨ v'.ownBlock = some w.heap.size) :
    w'.heap[M]? = some (.cells (sCells gv hv gi ai cv ev) TS (0, 0)) ∧ SpecAt w0 (w'.setCell ⟨M, 5, none⟩ v') F M (m.event c) gl gi ai gv hv cv v' hs := by
  have hM := grown_blk hg h.blk (row_ne_blk h.evs h.blk (by decide))
  have hce : ∀ k, cv.ownBlock = some k → ev.ownBlock ≠ some k := fun k hk e => by
    rcases h.apart with h1 | h1
    · rw [h1] at hk; cases hk
    · exact h1 (hk.trans e.symm)
  refine ⟨hM, SpecAt.set (m := m.event c) hM rfl h.base (grown_row hg h.goals (row_ne h.goals h.evs (by decide))) h.kids (grown_row hg h.chs (row_ne h.chs h.evs (by decide))) h.are (grown_row hg h.caps hce) (by simpa [Mst.event, capCells_append, capCells] using hrow) (apart_new h.caps h.apart hv') ?_ (h.below.grown hg h.below.size (fun k hk => (h.evs.lt k hk).1))⟩
  intro y hy
  have f := h.foreign y hy
  exact ⟨grown_blk hg f.blk f.e, f.m, f.g, f.h, f.c, new_ne hv' f.e f.blk⟩
/-- Another goal is at hand. -/
theorem SpecAt.setGoal (h : SpecAt w0 w F M m gl gi ai gv hv cv ev hs) (z : Int) : SpecAt w0 (w.setCell ⟨M, 2, none⟩ (.int .i64 z)) F M m gl z ai gv hv cv ev hs :=
  SpecAt.set h.blk rfl h.base h.goals h.kids h.chs h.are h.caps h.evs h.apart h.foreign h.below
theorem SpecAt.setAt (h : SpecAt w0 w F M m gl gi ai gv hv cv ev hs) (z : Int) : SpecAt w0 (w.setCell ⟨M, 3, none⟩ (.int .i64 z)) F M m gl gi z gv hv cv ev hs :=
  SpecAt.set h.blk rfl h.base h.goals h.kids h.chs h.are h.caps h.evs h.apart h.foreign h.below
/-- What the machine's own offset says does not matter here. -/
theorem SpecAt.with_at (h : SpecAt w0 w F M m gl gi ai gv hv cv ev hs) (z : Nat) : SpecAt w0 w F M { m with at_ := z } gl gi ai gv hv cv ev hs :=
  ⟨h.blk, h.base, h.goals, h.kids, h.chs, h.are, h.caps, h.evs, h.apart, h.foreign, h.below⟩
/-- No choice is left. -/
theorem SpecAt.noChoices (h : SpecAt w0 w F M m gl gi ai gv hv cv ev hs) : SpecAt w0 (w.setCell ⟨M, 1, none⟩ (.slice none 0 0)) F M { m with choices := [] } gl gi ai gv (.slice none 0 0) cv ev [] :=
  SpecAt.set (m := { m with choices := [] }) h.blk rfl h.base h.goals h.kids (HasRow.nil _ _ _ _) rfl h.caps h.evs h.apart
    (fun y hy => ⟨(h.foreign y hy).blk, (h.foreign y hy).m, (h.foreign y hy).g, by simp [Value.ownBlock], (h.foreign y hy).c, (h.foreign y hy).e⟩) h.below
end

theorem cells_s {x : World} {M : Nat} {gv hv cv ev : Value} {gi ai : Int} (h : x.heap[M]? = some (.cells (sCells gv hv gi ai cv ev) TS (0, 0))) :
    x.cell? ⟨M, 0, none⟩ = some gv ∧ x.cell? ⟨M, 1, none⟩ = some hv ∧ x.cell? ⟨M, 2, none⟩ = some (.int .i64 gi) ∧ x.cell? ⟨M, 3, none⟩ = some (.int .i64 ai) ∧ x.cell? ⟨M, 4, none⟩ = some cv ∧ x.cell? ⟨M, 5, none⟩ = some ev :=
  ⟨cell_of_row x M 0 _ _ _ h, cell_of_row x M 1 _ _ _ h, cell_of_row x M 2 _ _ _ h, cell_of_row x M 3 _ _ _ h, cell_of_row x M 4 _ _ _ h, cell_of_row x M 5 _ _ _ h⟩
theorem cells_q {x : World} {b : Nat} {t : TypeId} {v0 v1 v2 v3 v4 v5 v6 v7 v8 : Value} (h : x.heap[b]? = some (.cells #[v0, v1, v2, v3, v4, v5, v6, v7, v8] t (0, 0))) :
    x.cell? ⟨b, 0, none⟩ = some v0 ∧ x.cell? ⟨b, 1, none⟩ = some v1 ∧ x.cell? ⟨b, 2, none⟩ = some v2 ∧ x.cell? ⟨b, 3, none⟩ = some v3 ∧ x.cell? ⟨b, 4, none⟩ = some v4 ∧ x.cell? ⟨b, 5, none⟩ = some v5 ∧ x.cell? ⟨b, 6, none⟩ = some v6 ∧ x.cell? ⟨b, 7, none⟩ = some v7 ∧ x.cell? ⟨b, 8, none⟩ = some v8 :=
  ⟨cell_of_row x b 0 _ _ _ h, cell_of_row x b 1 _ _ _ h, cell_of_row x b 2 _ _ _ h, cell_of_row x b 3 _ _ _ h, cell_of_row x b 4 _ _ _ h, cell_of_row x b 5 _ _ _ h, cell_of_row x b 6 _ _ _ h, cell_of_row x b 7 _ _ _ h, cell_of_row x b 8 _ _ _ h⟩
theorem cells_nine (w : World) (v0 v1 v2 v3 v4 v5 v6 v7 v8 : Value) (t : TypeId) : ∀ j u, [v0, v1, v2, v3, v4, v5, v6, v7, v8][j]? = some u → (w.alloc (.cells #[v0, v1, v2, v3, v4, v5, v6, v7, v8] t)).cell? ((⟨w.heap.size, 0, none⟩ : Addr).add j) = some u := by
  intro j u hj
  match j, hj with
  | 0, hj => simp at hj; subst hj; simp [Addr.add]
  | 1, hj => simp at hj; subst hj; simp [Addr.add]
  | 2, hj => simp at hj; subst hj; simp [Addr.add]
  | 3, hj => simp at hj; subst hj; simp [Addr.add]
  | 4, hj => simp at hj; subst hj; simp [Addr.add]
  | 5, hj => simp at hj; subst hj; simp [Addr.add]
  | 6, hj => simp at hj; subst hj; simp [Addr.add]
  | 7, hj => simp at hj; subst hj; simp [Addr.add]
  | 8, hj => simp at hj; subst hj; simp [Addr.add]
  | j + 9, hj => simp at hj
theorem infoQ : (Try.prog.info? TQ).map (fun i => (i.zero, i.size, i.bytes)) = some (some (.agg #[.int .i64 0, .int .i64 0, .string ⟨#[]⟩, .int .i64 0, .int .i64 0, .int .i64 0, .slice none 0 0, .int .i64 0, .int .i64 0]), 9, 96) := by kernel_rfl
theorem infoD : (Try.prog.info? TD).map (fun i => (i.zero, i.size, i.bytes)) = some (some (.agg #[.int .i64 0, .int .i64 0, .int .i64 0]), 3, 24) := by kernel_rfl

end Go.Proofs.Ytndefbecoahfhaa

/- spec's l20Push and l20Later. Printed by gen_spush.py. -/
namespace Go.Proofs.Ytndefbecoahfhaa
open Go.RowKit

set_option maxRecDepth 100000 in
set_option maxHeartbeats 1000000 in
theorem push_any {w0 w : World} {F : List (Nat × Obj)} {M : Nat} {m : Mst} {gl : List SG} {gi ai : Int} {gv hv cv ev : Value} {hs : List Value} (h : SpecAt w0 w F M m gl gi ai gv hv cv ev hs) (kind : Nat) (p : Pat) (kA : Option Addr) (kc : Nat) (next fr : Int) (hk : KidsIn w0 p (.slice kA p.kids.length kc)) (hn : gl.length ≤ 100000) :
    Calls Try.prog 70 #[.pointer (some ⟨M, 0, none⟩), .agg #[.int .i64 kind, .int .i64 p.op, .string p.text, .int .i64 p.num, .int .i64 p.lo, .int .i64 p.hi, .slice kA p.kids.length kc, .int .i64 next, .int .i64 fr]] w
      fun e w' => e = .returned (.int .i64 gl.length) ∧ ∃ gv', SpecAt w0 w' F M m (gl ++ [⟨kind, p, .slice kA p.kids.length kc, next, fr⟩]) gi ai gv' hv cv ev hs := by
  have hblk := h.blk
  obtain ⟨gA, gc, rfl, _, _⟩ := h.goals.form
  obtain ⟨hA, hc, rfl, _, _⟩ := h.chs.form
  obtain ⟨cA, cc, rfl, _, _⟩ := h.caps.form
  obtain ⟨eA, ec, rfl, _, _⟩ := h.evs.form
  have HI := Lib.hid h
  have HK := Lib.hid hk
  clear h hk
  go_enter Try.func70, Try.ntmps70
  go_wp2_with fail
  -- region 1: 11 operations, the last [7, 8, 9, 10]
  refine wpU_begin [7, 8, 9, 10] [0] (by kernel_rfl) (fun w3 hw3 => ?_)
  obtain ⟨hl3, hq3⟩ := drew_alloc hw3
  have HI3 := Lib.hid (HI.out.later hl3)
  have HQ3 := Lib.hid hq3
  clear hw3 hl3 hq3 hblk
  refine wpU_pure 0 (some 5) (v := ?_) rfl rfl (by kernel_rfl) (fun _ _ _ h => h) rfl (fun x => ?_) ?_
  rotate_left 1
  · go_simp; first | done | with_reducible rfl | rw [if_neg (by omega)] | rw [if_pos (by omega)]
  simp only [Act.put, nA, nB, nC]
  refine wpU_take 1 (some 6) (v := ?_) rfl rfl (by kernel_rfl) (fun _ _ _ h => h) rfl (fun x hx => ?_) ?_
  rotate_left 1
  · go_simp; first | done | with_reducible rfl | rw [if_neg (by omega)] | rw [if_pos (by omega)]
  simp only [Act.put, nA, nB, nC]
  refine wpU_take 2 (some 7) (v := ?_) rfl rfl (by kernel_rfl) (fun _ _ _ h => h) rfl (fun x hx => ?_) ?_
  rotate_left 1
  · go_simp; first | done | with_reducible rfl | rw [if_neg (by omega)] | rw [if_pos (by omega)]
  simp only [Act.put, nA, nB, nC]
  refine wpU_take 3 (some 8) (v := ?_) rfl rfl (by kernel_rfl) (fun _ _ _ h => h) rfl (fun x hx => ?_) ?_
  rotate_left 1
  · go_simp; first | done | with_reducible rfl | rw [if_neg (by omega)] | rw [if_pos (by omega)]
  simp only [Act.put, nA, nB, nC]
  refine wpU_take 4 (some 9) (v := ?_) rfl rfl (by kernel_rfl) (fun _ _ _ h => h) rfl (fun x hx => ?_) ?_
  rotate_left 1
  · obtain ⟨s0, s1, s2, s3, s4, s5⟩ := cells_s (hx.has HI3.out.blk); obtain ⟨q0, q1, q2, q3, q4, q5, q6, q7, q8⟩ := cells_q (hx.has HQ3.out); go_simp; first | done | with_reducible rfl | rw [if_neg (by omega)] | rw [if_pos (by omega)]
  simp only [Act.put, nA, nB, nC]
  refine wpU_take 5 (some 10) (v := ?_) rfl rfl (by kernel_rfl) (fun _ _ _ h => h) rfl (fun x hx => ?_) ?_
  rotate_left 1
  · obtain ⟨s0, s1, s2, s3, s4, s5⟩ := cells_s (hx.has HI3.out.blk); obtain ⟨q0, q1, q2, q3, q4, q5, q6, q7, q8⟩ := cells_q (hx.has HQ3.out); go_simp; first | done | with_reducible rfl | rw [if_neg (by omega)] | rw [if_pos (by omega)]
  simp only [Act.put, nA, nB, nC]
  refine wpU_step 6 (by kernel_rfl) rfl rfl ?_  -- buildSlice 
  go_wp2_with fail
  refine ⟨(Later.refl _).alloc _, ?_⟩
  refine wpU_last [_, _, _, _] (by kernel_rfl) rfl rfl ?_
  simp only [List.getElem_toArray, List.getElem_cons_succ, List.getElem_cons_zero]
  obtain ⟨i, hi, hz0, hz1, hz2⟩ := info_parts infoQ
  refine wpList_append_has _ rfl _ _ _ rfl w0.heap.size TQ i _ 9 96 Try.underlying111 hi hz0 hz1 hz2 rfl _ gl.length (sgCells gl) rfl ((HI3.out.later ((Later.refl _).alloc _)).goals) _ 1 1 (SG.cells ⟨kind, p, .slice kA p.kids.length kc, next, fr⟩) rfl rfl ?_ ?_ (by omega) ?_ ?_ ?_ ?_
  · exact cells_nine _ _ _ _ _ _ _ _ _ _ _
  · intro u hu
    simp only [List.mem_cons, List.not_mem_nil, or_false] at hu
    rcases hu with rfl | rfl | rfl | rfl | rfl | rfl | rfl | rfl | rfl <;> rfl
  · simp only [maxLen]; omega
  · omega
  · exact (HI3.out.later ((Later.refl w3).alloc _)).below.size
  · intro v' w' hrow hgrow hblock
    obtain ⟨vA, vc, rfl, _, _⟩ := hrow.form
    obtain ⟨hM', hI'⟩ := (HI3.out.later ((Later.refl w3).alloc _)).grownG hrow hgrow hblock HK.out
    have HI' := Lib.hid hI'
    obtain ⟨s0, s1, s2, s3, s4, s5⟩ := cells_s hM'
    have f0 := frozen_of_row w' M 0 _ _ hM'
    have hlen : ((gl.length : Int) + 1) ≤ 100001 := by omega
    clear hM' hI' hrow hgrow hblock
    go_wp2_with fail
    go_ret
    exact ⟨by first | rfl | simp, _, HI'.out⟩

set_option maxRecDepth 100000 in
set_option maxHeartbeats 1000000 in
theorem later_any {w0 w : World} {F : List (Nat × Obj)} {M : Nat} {m : Mst} {gl : List SG} {gi ai : Int} {gv hv cv ev : Value} {hs : List Value} (h : SpecAt w0 w F M m gl gi ai gv hv cv ev hs) (c : Choice) (i at_ : Int) (hat : at_ = (c.at_ : Int)) (hnc : c.ncap = m.caps.length) (hi : (c.stop = true ∧ i = -2) ∨ (c.stop = false ∧ Chain gl i c.goals)) (hn : m.choices.length ≤ 100000) :
    Calls Try.prog 94 #[.pointer (some ⟨M, 0, none⟩), .int .i64 i, .int .i64 at_] w
      fun e w' => e = .returned (.tuple #[]) ∧ ∃ hv' hs', SpecAt w0 w' F M { m with choices := m.choices ++ [c] } gl gi ai gv hv' cv ev hs' := by
  have hblk := h.blk
  obtain ⟨gA, gc, rfl, _, _⟩ := h.goals.form
  obtain ⟨hA, hc, rfl, _, _⟩ := h.chs.form
  obtain ⟨cA, cc, rfl, _, _⟩ := h.caps.form
  obtain ⟨eA, ec, rfl, _, _⟩ := h.evs.form
  have HI := Lib.hid h
  have HC := Lib.hid hi
  have HN := Lib.hid hnc
  subst hat
  clear h hi hnc
  go_enter Try.func94, Try.ntmps94
  -- region 0: 18 operations, the last [14, 15, 16, 17]
  refine wpU_begin [14, 15, 16, 17] [0] (by kernel_rfl) (fun w3 hw3 => ?_)
  have HI3 := Lib.hid (HI.out.later (drew_later hw3))
  clear hw3 hblk
  refine wpU_pure 0 (some 6) (v := ?_) rfl rfl (by kernel_rfl) (fun _ _ _ h => h) rfl (fun x => ?_) ?_
  rotate_left 1
  · go_simp; first | done | with_reducible rfl | rw [if_neg (by omega)] | rw [if_pos (by omega)]
  simp only [Act.put, nA, nB, nC]
  refine wpU_take 1 (some 7) (v := ?_) rfl rfl (by kernel_rfl) (fun _ _ _ h => h) rfl (fun x hx => ?_) ?_
  rotate_left 1
  · go_simp; first | done | with_reducible rfl | rw [if_neg (by omega)] | rw [if_pos (by omega)]
  simp only [Act.put, nA, nB, nC]
  refine wpU_take 2 (some 8) (v := ?_) rfl rfl (by kernel_rfl) (fun _ _ _ h => h) rfl (fun x hx => ?_) ?_
  rotate_left 1
  · go_simp; first | done | with_reducible rfl | rw [if_neg (by omega)] | rw [if_pos (by omega)]
  simp only [Act.put, nA, nB, nC]
  refine wpU_take 3 (some 9) (v := ?_) rfl rfl (by kernel_rfl) (fun _ _ _ h => h) rfl (fun x hx => ?_) ?_
  rotate_left 1
  · go_simp; first | done | with_reducible rfl | rw [if_neg (by omega)] | rw [if_pos (by omega)]
  simp only [Act.put, nA, nB, nC]
  refine wpU_take 4 (some 10) (v := ?_) rfl rfl (by kernel_rfl) (fun _ _ _ h => h) rfl (fun x hx => ?_) ?_
  rotate_left 1
  · obtain ⟨s0, s1, s2, s3, s4, s5⟩ := cells_s (hx.has HI3.out.blk); go_simp; first | done | with_reducible rfl | rw [if_neg (by omega)] | rw [if_pos (by omega)]
  simp only [Act.put, nA, nB, nC]
  refine wpU_take 5 (some 11) (v := ?_) rfl rfl (by kernel_rfl) (fun _ _ _ h => h) rfl (fun x hx => ?_) ?_
  rotate_left 1
  · go_simp; first | done | with_reducible rfl | rw [if_neg (by omega)] | rw [if_pos (by omega)]
  simp only [Act.put, nA, nB, nC]
  refine wpU_take 6 (some 12) (v := ?_) rfl rfl (by kernel_rfl) (fun _ _ _ h => h) rfl (fun x hx => ?_) ?_
  rotate_left 1
  · go_simp; first | done | with_reducible rfl | rw [if_neg (by omega)] | rw [if_pos (by omega)]
  simp only [Act.put, nA, nB, nC]
  refine wpU_take 7 (some 13) (v := ?_) rfl rfl (by kernel_rfl) (fun _ _ _ h => h) rfl (fun x hx => ?_) ?_
  rotate_left 1
  · go_simp; first | done | with_reducible rfl | rw [if_neg (by omega)] | rw [if_pos (by omega)]
  simp only [Act.put, nA, nB, nC]
  refine wpU_take 8 (some 14) (v := ?_) rfl rfl (by kernel_rfl) (fun _ _ _ h => h) rfl (fun x hx => ?_) ?_
  rotate_left 1
  · go_simp; first | done | with_reducible rfl | rw [if_neg (by omega)] | rw [if_pos (by omega)]
  simp only [Act.put, nA, nB, nC]
  refine wpU_take 9 (some 15) (v := ?_) rfl rfl (by kernel_rfl) (fun _ _ _ h => h) rfl (fun x hx => ?_) ?_
  rotate_left 1
  · go_simp; first | done | with_reducible rfl | rw [if_neg (by omega)] | rw [if_pos (by omega)]
  simp only [Act.put, nA, nB, nC]
  refine wpU_take 10 (some 16) (v := ?_) rfl rfl (by kernel_rfl) (fun _ _ _ h => h) rfl (fun x hx => ?_) ?_
  rotate_left 1
  · obtain ⟨s0, s1, s2, s3, s4, s5⟩ := cells_s (hx.has HI3.out.blk); go_simp; first | done | with_reducible rfl | rw [if_neg (by omega)] | rw [if_pos (by omega)]
  simp only [Act.put, nA, nB, nC]
  refine wpU_take 11 (some 17) (v := ?_) rfl rfl (by kernel_rfl) (fun _ _ _ h => h) rfl (fun x hx => ?_) ?_
  rotate_left 1
  · go_simp; first | done | with_reducible rfl | rw [if_neg (by omega)] | rw [if_pos (by omega)]
  simp only [Act.put, nA, nB, nC]
  refine wpU_take 12 (some 18) (v := ?_) rfl rfl (by kernel_rfl) (fun _ _ _ h => h) rfl (fun x hx => ?_) ?_
  rotate_left 1
  · go_simp; first | done | with_reducible rfl | rw [if_neg (by omega)] | rw [if_pos (by omega)]
  simp only [Act.put, nA, nB, nC]
  refine wpU_step 13 (by kernel_rfl) rfl rfl ?_  -- buildSlice 
  go_wp2_with fail
  refine ⟨(Later.refl _).alloc _, ?_⟩
  refine wpU_last [_, _, _, _] (by kernel_rfl) rfl rfl ?_
  simp only [List.getElem_toArray, List.getElem_cons_succ, List.getElem_cons_zero]
  obtain ⟨i', hi, hz0, hz1, hz2⟩ := info_parts infoD
  refine wpList_append_has _ rfl _ _ _ rfl w0.heap.size TD i' _ 3 24 Try.underlying112 hi hz0 hz1 hz2 rfl _ m.choices.length hs rfl ((HI3.out.later ((Later.refl _).alloc _)).chs) _ 1 1 [.int .i64 i, .int .i64 c.at_, .int .i64 m.caps.length] rfl rfl ?_ ?_ (by omega) ?_ ?_ ?_ ?_
  · exact cells_three _ _ _ _ _
  · intro u hu
    simp only [List.mem_cons, List.not_mem_nil, or_false] at hu
    rcases hu with rfl | rfl | rfl <;> rfl
  · simp only [maxLen]; omega
  · omega
  · exact (HI3.out.later ((Later.refl w3).alloc _)).below.size
  · intro v' w' hrow hgrow hblock
    obtain ⟨vA, vc, rfl, _, _⟩ := hrow.form
    obtain ⟨hM', hI'⟩ := (HI3.out.later ((Later.refl w3).alloc _)).grownH (c := c) hrow hgrow hblock ⟨i, by rw [HN.out], HC.out⟩
    have HI' := Lib.hid hI'
    obtain ⟨s0, s1, s2, s3, s4, s5⟩ := cells_s hM'
    have f1 := frozen_of_row w' M 1 _ _ hM'
    clear hM' hI' hrow hgrow hblock
    go_wp2_with fail
    go_end0
    exact ⟨rfl, _, _, HI'.out⟩

end Go.Proofs.Ytndefbecoahfhaa

/- What spec's l20Step is said with. No walk in sight. -/
namespace Go.Proofs.Ytndefbecoahfhaa
open Go.RowKit

/-- What became of one goal; k: how many goals there were. -/
def SDid (w0 : World) (M : Nat) (m : Mst) (k : Nat) (o : Out) (e : Ending) (w' : World) : Prop :=
  match o with
  | .go gs' m' => ∃ gl gi gv hv cv ev hs, e = .returned (.bool true) ∧ SpecAt w0 w' [] M m' gl gi m'.at_ gv hv cv ev hs ∧ Chain gl gi gs' ∧ gl.length ≤ k + 2
  | .fail => ∃ gl gi ai gv hv cv ev hs, e = .returned (.bool false) ∧ SpecAt w0 w' [] M m gl gi ai gv hv cv ev hs ∧ gl.length ≤ k + 2
  | .stop => ∃ gl gi ai gv hv cv ev hs, e = .returned (.bool false) ∧ SpecAt w0 w' [] M { m with choices := [⟨true, [], m.at_, m.caps.length⟩] } gl gi ai gv hv cv ev hs ∧ gl.length ≤ k + 2

abbrev ogOf (x : SG) : Obj := .cells x.cells.toArray TQ (0, 0)
abbrev opOf (p : Pat) (kv : Value) : Obj := .cells #[.int .i64 p.op, .string p.text, .int .i64 p.num, .int .i64 p.lo, .int .i64 p.hi, kv] TP (0, 0)

section
variable {w0 w : World} {F : List (Nat × Obj)} {M : Nat} {m : Mst} {gl : List SG} {gi ai : Int} {gv hv cv ev : Value} {hs : List Value}
theorem SpecAt.enter (h : SpecAt w0 w F M m gl gi ai gv hv cv ev hs) (o1 o2 : Obj) (nx : Int) : SpecAt w0 (((w.setCell ⟨M, 2, none⟩ (.int .i64 nx)).alloc o1).alloc o2) [(w.heap.size + 1, o2), (w.heap.size, o1)] M m gl nx ai gv hv cv ev hs := by
  have hz : (w.setCell ⟨M, 2, none⟩ (.int .i64 nx)).heap.size = w.heap.size := by simp
  have h1 := (h.fewer (F' := []) (fun x hx => (by cases hx))).setGoal nx
  have h2 := h1.make (b := w.heap.size) ((Later.refl _).alloc o1) (by rw [← hz]; exact heap_alloc_new _ o1) (by omega)
  exact h2.make (b := w.heap.size + 1) ((Later.refl _).alloc o2) (by rw [show w.heap.size + 1 = ((w.setCell ⟨M, 2, none⟩ (.int .i64 nx)).alloc o1).heap.size by simp]; exact heap_alloc_new _ o2) (by simp)
theorem SpecAt.none (h : SpecAt w0 w F M m gl gi ai gv hv cv ev hs) : SpecAt w0 w [] M m gl gi ai gv hv cv ev hs := h.fewer (fun x hx => (by cases hx))

theorem goal_row (h : SpecAt w0 w F M m gl gi ai gv hv cv ev hs) {j : Nat} {x : SG} (hj : gl[j]? = some x) : ∃ g gc, gv = .slice (some ⟨g, 0, none⟩) gl.length gc := by
  have := (List.getElem?_eq_some_iff.1 hj).1
  obtain ⟨g, cap, e, _⟩ := h.goals.block_ (by omega)
  exact ⟨g, cap, e⟩
theorem goal_cells {g gc : Nat} (h : SpecAt w0 w F M m gl gi ai (.slice (some ⟨g, 0, none⟩) gl.length gc) hv cv ev hs) {j : Nat} {x : SG} (hj : gl[j]? = some x) :
    w.cell? ⟨g, j * 9, none⟩ = some (.int .i64 x.kind) ∧ w.cell? ⟨g, j * 9 + 1, none⟩ = some (.int .i64 x.p.op) ∧ w.cell? ⟨g, j * 9 + 2, none⟩ = some (.string x.p.text) ∧ w.cell? ⟨g, j * 9 + 3, none⟩ = some (.int .i64 x.p.num) ∧
      w.cell? ⟨g, j * 9 + 4, none⟩ = some (.int .i64 x.p.lo) ∧ w.cell? ⟨g, j * 9 + 5, none⟩ = some (.int .i64 x.p.hi) ∧ w.cell? ⟨g, j * 9 + 6, none⟩ = some x.kv ∧ w.cell? ⟨g, j * 9 + 7, none⟩ = some (.int .i64 x.next) ∧ w.cell? ⟨g, j * 9 + 8, none⟩ = some (.int .i64 x.fr) := by
  have hc := h.goals.cells (g := g) rfl
  have at_ : ∀ i u, x.cells[i]? = some u → w.cell? ⟨g, j * 9 + i, none⟩ = some u := fun i u hu => hc _ u (sgCells_at gl j x hj i u hu)
  exact ⟨at_ 0 _ rfl, at_ 1 _ rfl, at_ 2 _ rfl, at_ 3 _ rfl, at_ 4 _ rfl, at_ 5 _ rfl, at_ 6 _ rfl, at_ 7 _ rfl, at_ 8 _ rfl⟩

theorem push_at (h : SpecAt w0 w F M m gl gi ai gv hv cv ev hs) (kind : Nat) (p : Pat) (kA : Option Addr) (kc : Nat) (next fr : Int) (hk : KidsIn w0 p (.slice kA p.kids.length kc)) (hn : gl.length ≤ 100000) (z : Int) (hz : z = (kind : Int)) :
    Calls Try.prog 70 #[.pointer (some ⟨M, 0, none⟩), .agg #[.int .i64 z, .int .i64 p.op, .string p.text, .int .i64 p.num, .int .i64 p.lo, .int .i64 p.hi, .slice kA p.kids.length kc, .int .i64 next, .int .i64 fr]] w
      fun e w' => e = .returned (.int .i64 gl.length) ∧ ∃ gv', SpecAt w0 w' F M m (gl ++ [⟨kind, p, .slice kA p.kids.length kc, next, fr⟩]) gi ai gv' hv cv ev hs := by
  subst hz
  exact push_any h kind p kA kc next fr hk hn
end

section
variable {w0 w' : World} {M : Nat} {m m' : Mst} {k : Nat} {gs' : List Goal} {F : List (Nat × Obj)} {gl : List SG} {gi ai : Int} {gv hv cv ev : Value} {hs : List Value}
theorem sdid_go (h : SpecAt w0 w' F M m' gl gi m'.at_ gv hv cv ev hs) (hc : Chain gl gi gs') (hl : gl.length ≤ k + 2) : SDid w0 M m k (.go gs' m') (.returned (.bool true)) w' := ⟨gl, gi, gv, hv, cv, ev, hs, rfl, h.none, hc, hl⟩
theorem sdid_fail (h : SpecAt w0 w' F M m gl gi ai gv hv cv ev hs) (hl : gl.length ≤ k + 2) : SDid w0 M m k .fail (.returned (.bool false)) w' := ⟨gl, gi, ai, gv, hv, cv, ev, hs, rfl, h.none, hl⟩
theorem sdid_stop (h : SpecAt w0 w' F M { m with choices := [⟨true, [], m.at_, m.caps.length⟩] } gl gi ai gv hv cv ev hs) (hl : gl.length ≤ k + 2) : SDid w0 M m k .stop (.returned (.bool false)) w' := ⟨gl, gi, ai, gv, hv, cv, ev, hs, rfl, h.none, hl⟩
end

section
variable {text : ByteArray} {num lo hi : Int} {A : Option Addr} {l c : Nat} {s : ByteArray} {p : Nat} {w : World} {op : Int}
theorem one_some {z : Nat} (h : isSimple op) (hok : okWords op text num) (hs : s.size ≤ 120) (hp : p ≤ s.size) (hz : oneEnd op text num lo hi s p = some z) :
    Calls Try.prog 82 #[patV op text num lo hi (.slice A l c), .string s, .int .i64 p] w fun e w' => e = .returned (.int .i64 z) ∧ Below w.heap.size w w' :=
  (l19One_any text num lo hi A l c s p w op h hok hs hp).mono fun e w' ⟨he, hb⟩ => ⟨by rw [he, hz]; rfl, hb⟩
theorem one_none (h : isSimple op) (hok : okWords op text num) (hs : s.size ≤ 120) (hp : p ≤ s.size) (hz : oneEnd op text num lo hi s p = none) :
    Calls Try.prog 82 #[patV op text num lo hi (.slice A l c), .string s, .int .i64 p] w fun e w' => e = .returned (.int .i64 (-1)) ∧ Below w.heap.size w w' :=
  (l19One_any text num lo hi A l c s p w op h hok hs hp).mono fun e w' ⟨he, hb⟩ => ⟨by rw [he, hz]; rfl, hb⟩
end
end Go.Proofs.Ytndefbecoahfhaa

/- spec's l20Step. Printed by gen_sstep.py. -/
namespace Go.Proofs.Ytndefbecoahfhaa
open Go.RowKit

set_option maxRecDepth 100000 in
set_option maxHeartbeats 1000000 in
theorem sstep_cap {w0 w : World} {M : Nat} {m : Mst} {gl : List SG} {gv hv cv ev : Value} {hs : List Value} {text : ByteArray} {num lo hi : Int} {kids : List Pat} {A : Option Addr} {c : Nat} {fr nx : Int} {gs : List Goal} {j : Nat} {s : ByteArray} {dv : Value} {op : Int}
    (h : SpecAt w0 w [] M m gl (j : Int) m.at_ gv hv cv ev hs) (hj : gl[j]? = some ⟨1, .mk op text num lo hi kids, .slice A kids.length c, nx, fr⟩) (hch : Chain gl nx gs) (hlen : gl.length ≤ 90000) (hne : m.caps.length ≤ 5000) :
    Calls Try.prog 71 #[.pointer (some ⟨M, 0, none⟩), dv, .string s] w (SDid w0 M m gl.length (.go gs (m.cap ⟨num, fr, m.at_⟩))) := by
  have hblk := h.blk
  obtain ⟨g0, gc, rfl⟩ := goal_row h hj
  obtain ⟨hA, hc, rfl, _, _⟩ := h.chs.form
  obtain ⟨cA, cc, rfl, _, _⟩ := h.caps.form
  obtain ⟨eA, ec, rfl, _, _⟩ := h.evs.form
  obtain ⟨s0, s1, s2, s3, s4, s5⟩ := cells_s hblk
  have fs2 := frozen_of_row w M 2 _ _ hblk
  have hMlt := has_lt hblk
  obtain ⟨q0, q1, q2, q3, q4, q5, q6, q7, q8⟩ := goal_cells h hj
  simp only [Pat.op, Pat.text, Pat.num, Pat.lo, Pat.hi] at q1 q2 q3 q4 q5
  have hjl : j < gl.length := (List.getElem?_eq_some_iff.1 hj).1
  have hjl' : (j : Int) < gl.length := by omega
  have hkid : KidsIn w0 (.mk op text num lo hi kids) (.slice A kids.length c) := h.kids _ (List.mem_of_getElem? hj)
  have HKID := Lib.hid hkid
  have HR := Lib.hid (kids_row hkid)
  have HCH := Lib.hid hch
  have HJ := Lib.hid hj
  have HI2 := Lib.hid (h.enter (ogOf ⟨1, .mk op text num lo hi kids, .slice A kids.length c, nx, fr⟩) (opOf (.mk op text num lo hi kids) (.slice A kids.length c)) nx)
  have hbel := h.below.size
  clear h hblk hkid hch hj
  go_enter Try.func71, Try.ntmps71
  go_wp2_with fail
  clear s0 s1 s2 s3 s4 s5 q0 q1 q2 q3 q4 q5 q6 q7 q8 fs2
  -- region 7: 19 operations, the last [15, 16, 17, 18]
  refine wpU_begin [15, 16, 17, 18] [0] (by kernel_rfl) (fun w3 hw3 => ?_)
  have HI3 := Lib.hid (HI2.out.later (drew_later hw3))
  clear hw3
  refine wpU_pure 0 (some 36) (v := ?_) rfl rfl (by kernel_rfl) (fun _ _ _ h => h) rfl (fun x => ?_) ?_
  rotate_left 1
  · go_simp; first | done | with_reducible rfl | rw [if_neg (by omega)] | rw [if_pos (by omega)]
  simp only [Act.put, nA, nB, nC]
  refine wpU_take 1 (some 37) (v := ?_) rfl rfl (by kernel_rfl) (fun _ _ _ h => h) rfl (fun x hx => ?_) ?_
  rotate_left 1
  · go_simp; first | done | with_reducible rfl | rw [if_neg (by omega)] | rw [if_pos (by omega)]
  simp only [Act.put, nA, nB, nC]
  refine wpU_take 2 (some 38) (v := ?_) rfl rfl (by kernel_rfl) (fun _ _ _ h => h) rfl (fun x hx => ?_) ?_
  rotate_left 1
  · go_simp; first | done | with_reducible rfl | rw [if_neg (by omega)] | rw [if_pos (by omega)]
  simp only [Act.put, nA, nB, nC]
  refine wpU_take 3 (some 39) (v := ?_) rfl rfl (by kernel_rfl) (fun _ _ _ h => h) rfl (fun x hx => ?_) ?_
  rotate_left 1
  · go_simp; first | done | with_reducible rfl | rw [if_neg (by omega)] | rw [if_pos (by omega)]
  simp only [Act.put, nA, nB, nC]
  refine wpU_take 4 (some 40) (v := ?_) rfl rfl (by kernel_rfl) (fun _ _ _ h => h) rfl (fun x hx => ?_) ?_
  rotate_left 1
  · obtain ⟨s0, s1, s2, s3, s4, s5⟩ := cells_s (hx.has HI3.out.blk); obtain ⟨p0, p1, p2, p3, p4, p5⟩ := cells_p (hx.has (HI3.out.foreign _ List.mem_cons_self).blk); obtain ⟨q0, q1, q2, q3, q4, q5, q6, q7, q8⟩ := cells_q (hx.has (HI3.out.foreign _ (List.mem_cons_of_mem _ List.mem_cons_self)).blk); simp only [Pat.op, Pat.text, Pat.num, Pat.lo, Pat.hi] at *; go_simp; first | done | with_reducible rfl | rw [if_neg (by omega)] | rw [if_pos (by omega)]
  simp only [Act.put, nA, nB, nC]
  refine wpU_take 5 (some 41) (v := ?_) rfl rfl (by kernel_rfl) (fun _ _ _ h => h) rfl (fun x hx => ?_) ?_
  rotate_left 1
  · go_simp; first | done | with_reducible rfl | rw [if_neg (by omega)] | rw [if_pos (by omega)]
  simp only [Act.put, nA, nB, nC]
  refine wpU_take 6 (some 42) (v := ?_) rfl rfl (by kernel_rfl) (fun _ _ _ h => h) rfl (fun x hx => ?_) ?_
  rotate_left 1
  · obtain ⟨s0, s1, s2, s3, s4, s5⟩ := cells_s (hx.has HI3.out.blk); obtain ⟨p0, p1, p2, p3, p4, p5⟩ := cells_p (hx.has (HI3.out.foreign _ List.mem_cons_self).blk); obtain ⟨q0, q1, q2, q3, q4, q5, q6, q7, q8⟩ := cells_q (hx.has (HI3.out.foreign _ (List.mem_cons_of_mem _ List.mem_cons_self)).blk); simp only [Pat.op, Pat.text, Pat.num, Pat.lo, Pat.hi] at *; go_simp; first | done | with_reducible rfl | rw [if_neg (by omega)] | rw [if_pos (by omega)]
  simp only [Act.put, nA, nB, nC]
  refine wpU_take 7 (some 43) (v := ?_) rfl rfl (by kernel_rfl) (fun _ _ _ h => h) rfl (fun x hx => ?_) ?_
  rotate_left 1
  · go_simp; first | done | with_reducible rfl | rw [if_neg (by omega)] | rw [if_pos (by omega)]
  simp only [Act.put, nA, nB, nC]
  refine wpU_take 8 (some 44) (v := ?_) rfl rfl (by kernel_rfl) (fun _ _ _ h => h) rfl (fun x hx => ?_) ?_
  rotate_left 1
  · obtain ⟨s0, s1, s2, s3, s4, s5⟩ := cells_s (hx.has HI3.out.blk); obtain ⟨p0, p1, p2, p3, p4, p5⟩ := cells_p (hx.has (HI3.out.foreign _ List.mem_cons_self).blk); obtain ⟨q0, q1, q2, q3, q4, q5, q6, q7, q8⟩ := cells_q (hx.has (HI3.out.foreign _ (List.mem_cons_of_mem _ List.mem_cons_self)).blk); simp only [Pat.op, Pat.text, Pat.num, Pat.lo, Pat.hi] at *; go_simp; first | done | with_reducible rfl | rw [if_neg (by omega)] | rw [if_pos (by omega)]
  simp only [Act.put, nA, nB, nC]
  refine wpU_take 9 (some 45) (v := ?_) rfl rfl (by kernel_rfl) (fun _ _ _ h => h) rfl (fun x hx => ?_) ?_
  rotate_left 1
  · go_simp; first | done | with_reducible rfl | rw [if_neg (by omega)] | rw [if_pos (by omega)]
  simp only [Act.put, nA, nB, nC]
  refine wpU_take 10 (some 46) (v := ?_) rfl rfl (by kernel_rfl) (fun _ _ _ h => h) rfl (fun x hx => ?_) ?_
  rotate_left 1
  · go_simp; first | done | with_reducible rfl | rw [if_neg (by omega)] | rw [if_pos (by omega)]
  simp only [Act.put, nA, nB, nC]
  refine wpU_take 11 (some 47) (v := ?_) rfl rfl (by kernel_rfl) (fun _ _ _ h => h) rfl (fun x hx => ?_) ?_
  rotate_left 1
  · go_simp; first | done | with_reducible rfl | rw [if_neg (by omega)] | rw [if_pos (by omega)]
  simp only [Act.put, nA, nB, nC]
  refine wpU_take 12 (some 48) (v := ?_) rfl rfl (by kernel_rfl) (fun _ _ _ h => h) rfl (fun x hx => ?_) ?_
  rotate_left 1
  · obtain ⟨s0, s1, s2, s3, s4, s5⟩ := cells_s (hx.has HI3.out.blk); obtain ⟨p0, p1, p2, p3, p4, p5⟩ := cells_p (hx.has (HI3.out.foreign _ List.mem_cons_self).blk); obtain ⟨q0, q1, q2, q3, q4, q5, q6, q7, q8⟩ := cells_q (hx.has (HI3.out.foreign _ (List.mem_cons_of_mem _ List.mem_cons_self)).blk); simp only [Pat.op, Pat.text, Pat.num, Pat.lo, Pat.hi] at *; go_simp; first | done | with_reducible rfl | rw [if_neg (by omega)] | rw [if_pos (by omega)]
  simp only [Act.put, nA, nB, nC]
  refine wpU_take 13 (some 49) (v := ?_) rfl rfl (by kernel_rfl) (fun _ _ _ h => h) rfl (fun x hx => ?_) ?_
  rotate_left 1
  · go_simp; first | done | with_reducible rfl | rw [if_neg (by omega)] | rw [if_pos (by omega)]
  simp only [Act.put, nA, nB, nC]
  refine wpU_step 14 (by kernel_rfl) rfl rfl ?_  -- buildSlice 
  go_wp2_with fail
  refine ⟨(Later.refl _).alloc _, ?_⟩
  refine wpU_last [_, _, _, _] (by kernel_rfl) rfl rfl ?_
  simp only [List.getElem_toArray, List.getElem_cons_succ, List.getElem_cons_zero]
  obtain ⟨i, hi, hz0, hz1, hz2⟩ := info_parts infoK
  refine wpList_append_has _ rfl _ _ _ rfl w0.heap.size TK i _ 3 24 Try.underlying31 hi hz0 hz1 hz2 rfl _ m.caps.length (capCells m.caps) rfl ((HI3.out.later ((Later.refl _).alloc _)).caps) _ 1 1 [.int .i64 num, .int .i64 fr, .int .i64 m.at_] rfl rfl ?_ ?_ (by omega) ?_ ?_ ?_ ?_
  · exact cells_three _ _ _ _ _
  · intro u hu
    simp only [List.mem_cons, List.not_mem_nil, or_false] at hu
    rcases hu with rfl | rfl | rfl <;> rfl
  · simp only [maxLen]; omega
  · omega
  · exact (HI3.out.later ((Later.refl w3).alloc _)).below.size
  · intro v' w' hrow hgrow hblock
    obtain ⟨vA, vc, rfl, _, _⟩ := hrow.form
    obtain ⟨hM', hI'⟩ := (HI3.out.later ((Later.refl w3).alloc _)).grownC (c := ⟨num, fr, m.at_⟩) hrow hgrow hblock
    have HI' := Lib.hid hI'
    obtain ⟨s0, s1, s2, s3, s4, s5⟩ := cells_s hM'
    have fF := frozen_of_row w' M 4 _ _ hM'
    clear hM' hI' hrow hgrow hblock
    go_wp2_with fail
    go_ret
    exact sdid_go (m' := m.cap ⟨num, fr, m.at_⟩) HI'.out HCH.out (by omega)

set_option maxRecDepth 100000 in
set_option maxHeartbeats 1000000 in
theorem sstep_event {w0 w : World} {M : Nat} {m : Mst} {gl : List SG} {gv hv cv ev : Value} {hs : List Value} {text : ByteArray} {num lo hi : Int} {kids : List Pat} {A : Option Addr} {c : Nat} {fr nx : Int} {gs : List Goal} {j : Nat} {s : ByteArray} {dv : Value} {op : Int}
    (h : SpecAt w0 w [] M m gl (j : Int) m.at_ gv hv cv ev hs) (hj : gl[j]? = some ⟨2, .mk op text num lo hi kids, .slice A kids.length c, nx, fr⟩) (hch : Chain gl nx gs) (hlen : gl.length ≤ 90000) (hne : m.events.length ≤ 5000) :
    Calls Try.prog 71 #[.pointer (some ⟨M, 0, none⟩), dv, .string s] w (SDid w0 M m gl.length (.go gs (m.event ⟨num, fr, m.at_⟩))) := by
  have hblk := h.blk
  obtain ⟨g0, gc, rfl⟩ := goal_row h hj
  obtain ⟨hA, hc, rfl, _, _⟩ := h.chs.form
  obtain ⟨cA, cc, rfl, _, _⟩ := h.caps.form
  obtain ⟨eA, ec, rfl, _, _⟩ := h.evs.form
  obtain ⟨s0, s1, s2, s3, s4, s5⟩ := cells_s hblk
  have fs2 := frozen_of_row w M 2 _ _ hblk
  have hMlt := has_lt hblk
  obtain ⟨q0, q1, q2, q3, q4, q5, q6, q7, q8⟩ := goal_cells h hj
  simp only [Pat.op, Pat.text, Pat.num, Pat.lo, Pat.hi] at q1 q2 q3 q4 q5
  have hjl : j < gl.length := (List.getElem?_eq_some_iff.1 hj).1
  have hjl' : (j : Int) < gl.length := by omega
  have hkid : KidsIn w0 (.mk op text num lo hi kids) (.slice A kids.length c) := h.kids _ (List.mem_of_getElem? hj)
  have HKID := Lib.hid hkid
  have HR := Lib.hid (kids_row hkid)
  have HCH := Lib.hid hch
  have HJ := Lib.hid hj
  have HI2 := Lib.hid (h.enter (ogOf ⟨2, .mk op text num lo hi kids, .slice A kids.length c, nx, fr⟩) (opOf (.mk op text num lo hi kids) (.slice A kids.length c)) nx)
  have hbel := h.below.size
  clear h hblk hkid hch hj
  go_enter Try.func71, Try.ntmps71
  go_wp2_with fail
  clear s0 s1 s2 s3 s4 s5 q0 q1 q2 q3 q4 q5 q6 q7 q8 fs2
  -- region 10: 19 operations, the last [15, 16, 17, 18]
  refine wpU_begin [15, 16, 17, 18] [0] (by kernel_rfl) (fun w3 hw3 => ?_)
  have HI3 := Lib.hid (HI2.out.later (drew_later hw3))
  clear hw3
  refine wpU_pure 0 (some 56) (v := ?_) rfl rfl (by kernel_rfl) (fun _ _ _ h => h) rfl (fun x => ?_) ?_
  rotate_left 1
  · go_simp; first | done | with_reducible rfl | rw [if_neg (by omega)] | rw [if_pos (by omega)]
  simp only [Act.put, nA, nB, nC]
  refine wpU_take 1 (some 57) (v := ?_) rfl rfl (by kernel_rfl) (fun _ _ _ h => h) rfl (fun x hx => ?_) ?_
  rotate_left 1
  · go_simp; first | done | with_reducible rfl | rw [if_neg (by omega)] | rw [if_pos (by omega)]
  simp only [Act.put, nA, nB, nC]
  refine wpU_take 2 (some 58) (v := ?_) rfl rfl (by kernel_rfl) (fun _ _ _ h => h) rfl (fun x hx => ?_) ?_
  rotate_left 1
  · go_simp; first | done | with_reducible rfl | rw [if_neg (by omega)] | rw [if_pos (by omega)]
  simp only [Act.put, nA, nB, nC]
  refine wpU_take 3 (some 59) (v := ?_) rfl rfl (by kernel_rfl) (fun _ _ _ h => h) rfl (fun x hx => ?_) ?_
  rotate_left 1
  · go_simp; first | done | with_reducible rfl | rw [if_neg (by omega)] | rw [if_pos (by omega)]
  simp only [Act.put, nA, nB, nC]
  refine wpU_take 4 (some 60) (v := ?_) rfl rfl (by kernel_rfl) (fun _ _ _ h => h) rfl (fun x hx => ?_) ?_
  rotate_left 1
  · obtain ⟨s0, s1, s2, s3, s4, s5⟩ := cells_s (hx.has HI3.out.blk); obtain ⟨p0, p1, p2, p3, p4, p5⟩ := cells_p (hx.has (HI3.out.foreign _ List.mem_cons_self).blk); obtain ⟨q0, q1, q2, q3, q4, q5, q6, q7, q8⟩ := cells_q (hx.has (HI3.out.foreign _ (List.mem_cons_of_mem _ List.mem_cons_self)).blk); simp only [Pat.op, Pat.text, Pat.num, Pat.lo, Pat.hi] at *; go_simp; first | done | with_reducible rfl | rw [if_neg (by omega)] | rw [if_pos (by omega)]
  simp only [Act.put, nA, nB, nC]
  refine wpU_take 5 (some 61) (v := ?_) rfl rfl (by kernel_rfl) (fun _ _ _ h => h) rfl (fun x hx => ?_) ?_
  rotate_left 1
  · go_simp; first | done | with_reducible rfl | rw [if_neg (by omega)] | rw [if_pos (by omega)]
  simp only [Act.put, nA, nB, nC]
  refine wpU_take 6 (some 62) (v := ?_) rfl rfl (by kernel_rfl) (fun _ _ _ h => h) rfl (fun x hx => ?_) ?_
  rotate_left 1
  · obtain ⟨s0, s1, s2, s3, s4, s5⟩ := cells_s (hx.has HI3.out.blk); obtain ⟨p0, p1, p2, p3, p4, p5⟩ := cells_p (hx.has (HI3.out.foreign _ List.mem_cons_self).blk); obtain ⟨q0, q1, q2, q3, q4, q5, q6, q7, q8⟩ := cells_q (hx.has (HI3.out.foreign _ (List.mem_cons_of_mem _ List.mem_cons_self)).blk); simp only [Pat.op, Pat.text, Pat.num, Pat.lo, Pat.hi] at *; go_simp; first | done | with_reducible rfl | rw [if_neg (by omega)] | rw [if_pos (by omega)]
  simp only [Act.put, nA, nB, nC]
  refine wpU_take 7 (some 63) (v := ?_) rfl rfl (by kernel_rfl) (fun _ _ _ h => h) rfl (fun x hx => ?_) ?_
  rotate_left 1
  · go_simp; first | done | with_reducible rfl | rw [if_neg (by omega)] | rw [if_pos (by omega)]
  simp only [Act.put, nA, nB, nC]
  refine wpU_take 8 (some 64) (v := ?_) rfl rfl (by kernel_rfl) (fun _ _ _ h => h) rfl (fun x hx => ?_) ?_
  rotate_left 1
  · obtain ⟨s0, s1, s2, s3, s4, s5⟩ := cells_s (hx.has HI3.out.blk); obtain ⟨p0, p1, p2, p3, p4, p5⟩ := cells_p (hx.has (HI3.out.foreign _ List.mem_cons_self).blk); obtain ⟨q0, q1, q2, q3, q4, q5, q6, q7, q8⟩ := cells_q (hx.has (HI3.out.foreign _ (List.mem_cons_of_mem _ List.mem_cons_self)).blk); simp only [Pat.op, Pat.text, Pat.num, Pat.lo, Pat.hi] at *; go_simp; first | done | with_reducible rfl | rw [if_neg (by omega)] | rw [if_pos (by omega)]
  simp only [Act.put, nA, nB, nC]
  refine wpU_take 9 (some 65) (v := ?_) rfl rfl (by kernel_rfl) (fun _ _ _ h => h) rfl (fun x hx => ?_) ?_
  rotate_left 1
  · go_simp; first | done | with_reducible rfl | rw [if_neg (by omega)] | rw [if_pos (by omega)]
  simp only [Act.put, nA, nB, nC]
  refine wpU_take 10 (some 66) (v := ?_) rfl rfl (by kernel_rfl) (fun _ _ _ h => h) rfl (fun x hx => ?_) ?_
  rotate_left 1
  · go_simp; first | done | with_reducible rfl | rw [if_neg (by omega)] | rw [if_pos (by omega)]
  simp only [Act.put, nA, nB, nC]
  refine wpU_take 11 (some 67) (v := ?_) rfl rfl (by kernel_rfl) (fun _ _ _ h => h) rfl (fun x hx => ?_) ?_
  rotate_left 1
  · go_simp; first | done | with_reducible rfl | rw [if_neg (by omega)] | rw [if_pos (by omega)]
  simp only [Act.put, nA, nB, nC]
  refine wpU_take 12 (some 68) (v := ?_) rfl rfl (by kernel_rfl) (fun _ _ _ h => h) rfl (fun x hx => ?_) ?_
  rotate_left 1
  · obtain ⟨s0, s1, s2, s3, s4, s5⟩ := cells_s (hx.has HI3.out.blk); obtain ⟨p0, p1, p2, p3, p4, p5⟩ := cells_p (hx.has (HI3.out.foreign _ List.mem_cons_self).blk); obtain ⟨q0, q1, q2, q3, q4, q5, q6, q7, q8⟩ := cells_q (hx.has (HI3.out.foreign _ (List.mem_cons_of_mem _ List.mem_cons_self)).blk); simp only [Pat.op, Pat.text, Pat.num, Pat.lo, Pat.hi] at *; go_simp; first | done | with_reducible rfl | rw [if_neg (by omega)] | rw [if_pos (by omega)]
  simp only [Act.put, nA, nB, nC]
  refine wpU_take 13 (some 69) (v := ?_) rfl rfl (by kernel_rfl) (fun _ _ _ h => h) rfl (fun x hx => ?_) ?_
  rotate_left 1
  · go_simp; first | done | with_reducible rfl | rw [if_neg (by omega)] | rw [if_pos (by omega)]
  simp only [Act.put, nA, nB, nC]
  refine wpU_step 14 (by kernel_rfl) rfl rfl ?_  -- buildSlice 
  go_wp2_with fail
  refine ⟨(Later.refl _).alloc _, ?_⟩
  refine wpU_last [_, _, _, _] (by kernel_rfl) rfl rfl ?_
  simp only [List.getElem_toArray, List.getElem_cons_succ, List.getElem_cons_zero]
  obtain ⟨i, hi, hz0, hz1, hz2⟩ := info_parts infoK
  refine wpList_append_has _ rfl _ _ _ rfl w0.heap.size TK i _ 3 24 Try.underlying31 hi hz0 hz1 hz2 rfl _ m.events.length (capCells m.events) rfl ((HI3.out.later ((Later.refl _).alloc _)).evs) _ 1 1 [.int .i64 num, .int .i64 fr, .int .i64 m.at_] rfl rfl ?_ ?_ (by omega) ?_ ?_ ?_ ?_
  · exact cells_three _ _ _ _ _
  · intro u hu
    simp only [List.mem_cons, List.not_mem_nil, or_false] at hu
    rcases hu with rfl | rfl | rfl <;> rfl
  · simp only [maxLen]; omega
  · omega
  · exact (HI3.out.later ((Later.refl w3).alloc _)).below.size
  · intro v' w' hrow hgrow hblock
    obtain ⟨vA, vc, rfl, _, _⟩ := hrow.form
    obtain ⟨hM', hI'⟩ := (HI3.out.later ((Later.refl w3).alloc _)).grownE (c := ⟨num, fr, m.at_⟩) hrow hgrow hblock
    have HI' := Lib.hid hI'
    obtain ⟨s0, s1, s2, s3, s4, s5⟩ := cells_s hM'
    have fF := frozen_of_row w' M 5 _ _ hM'
    clear hM' hI' hrow hgrow hblock
    go_wp2_with fail
    go_ret
    exact sdid_go (m' := m.event ⟨num, fr, m.at_⟩) HI'.out HCH.out (by omega)

set_option maxRecDepth 100000 in
set_option maxHeartbeats 1000000 in
theorem sstep_cursor {w0 w : World} {M : Nat} {m : Mst} {gl : List SG} {gv hv cv ev : Value} {hs : List Value} {text : ByteArray} {num lo hi : Int} {kids : List Pat} {A : Option Addr} {c : Nat} {fr nx : Int} {gs : List Goal} {j : Nat} {s : ByteArray} {dv : Value} 
    (h : SpecAt w0 w [] M m gl (j : Int) m.at_ gv hv cv ev hs) (hj : gl[j]? = some ⟨0, .mk 18 text num lo hi kids, .slice A kids.length c, nx, fr⟩) (hch : Chain gl nx gs) (hlen : gl.length ≤ 90000) (hne : m.events.length ≤ 5000) :
    Calls Try.prog 71 #[.pointer (some ⟨M, 0, none⟩), dv, .string s] w (SDid w0 M m gl.length (.go gs (m.event ⟨num, m.at_, -1⟩))) := by
  have hblk := h.blk
  obtain ⟨g0, gc, rfl⟩ := goal_row h hj
  obtain ⟨hA, hc, rfl, _, _⟩ := h.chs.form
  obtain ⟨cA, cc, rfl, _, _⟩ := h.caps.form
  obtain ⟨eA, ec, rfl, _, _⟩ := h.evs.form
  obtain ⟨s0, s1, s2, s3, s4, s5⟩ := cells_s hblk
  have fs2 := frozen_of_row w M 2 _ _ hblk
  have hMlt := has_lt hblk
  obtain ⟨q0, q1, q2, q3, q4, q5, q6, q7, q8⟩ := goal_cells h hj
  simp only [Pat.op, Pat.text, Pat.num, Pat.lo, Pat.hi] at q1 q2 q3 q4 q5
  have hjl : j < gl.length := (List.getElem?_eq_some_iff.1 hj).1
  have hjl' : (j : Int) < gl.length := by omega
  have hkid : KidsIn w0 (.mk 18 text num lo hi kids) (.slice A kids.length c) := h.kids _ (List.mem_of_getElem? hj)
  have HKID := Lib.hid hkid
  have HR := Lib.hid (kids_row hkid)
  have HCH := Lib.hid hch
  have HJ := Lib.hid hj
  have HI2 := Lib.hid (h.enter (ogOf ⟨0, .mk 18 text num lo hi kids, .slice A kids.length c, nx, fr⟩) (opOf (.mk 18 text num lo hi kids) (.slice A kids.length c)) nx)
  have hbel := h.below.size
  clear h hblk hkid hch hj
  go_enter Try.func71, Try.ntmps71
  go_wp2_with fail
  clear s0 s1 s2 s3 s4 s5 q0 q1 q2 q3 q4 q5 q6 q7 q8 fs2
  -- region 41: 17 operations, the last [13, 14, 15, 16]
  refine wpU_begin [13, 14, 15, 16] [0] (by kernel_rfl) (fun w3 hw3 => ?_)
  have HI3 := Lib.hid (HI2.out.later (drew_later hw3))
  clear hw3
  refine wpU_pure 0 (some 228) (v := ?_) rfl rfl (by kernel_rfl) (fun _ _ _ h => h) rfl (fun x => ?_) ?_
  rotate_left 1
  · go_simp; first | done | with_reducible rfl | rw [if_neg (by omega)] | rw [if_pos (by omega)]
  simp only [Act.put, nA, nB, nC]
  refine wpU_take 1 (some 229) (v := ?_) rfl rfl (by kernel_rfl) (fun _ _ _ h => h) rfl (fun x hx => ?_) ?_
  rotate_left 1
  · go_simp; first | done | with_reducible rfl | rw [if_neg (by omega)] | rw [if_pos (by omega)]
  simp only [Act.put, nA, nB, nC]
  refine wpU_take 2 (some 230) (v := ?_) rfl rfl (by kernel_rfl) (fun _ _ _ h => h) rfl (fun x hx => ?_) ?_
  rotate_left 1
  · go_simp; first | done | with_reducible rfl | rw [if_neg (by omega)] | rw [if_pos (by omega)]
  simp only [Act.put, nA, nB, nC]
  refine wpU_take 3 (some 231) (v := ?_) rfl rfl (by kernel_rfl) (fun _ _ _ h => h) rfl (fun x hx => ?_) ?_
  rotate_left 1
  · go_simp; first | done | with_reducible rfl | rw [if_neg (by omega)] | rw [if_pos (by omega)]
  simp only [Act.put, nA, nB, nC]
  refine wpU_take 4 (some 232) (v := ?_) rfl rfl (by kernel_rfl) (fun _ _ _ h => h) rfl (fun x hx => ?_) ?_
  rotate_left 1
  · obtain ⟨s0, s1, s2, s3, s4, s5⟩ := cells_s (hx.has HI3.out.blk); obtain ⟨p0, p1, p2, p3, p4, p5⟩ := cells_p (hx.has (HI3.out.foreign _ List.mem_cons_self).blk); obtain ⟨q0, q1, q2, q3, q4, q5, q6, q7, q8⟩ := cells_q (hx.has (HI3.out.foreign _ (List.mem_cons_of_mem _ List.mem_cons_self)).blk); simp only [Pat.op, Pat.text, Pat.num, Pat.lo, Pat.hi] at *; go_simp; first | done | with_reducible rfl | rw [if_neg (by omega)] | rw [if_pos (by omega)]
  simp only [Act.put, nA, nB, nC]
  refine wpU_take 5 (some 233) (v := ?_) rfl rfl (by kernel_rfl) (fun _ _ _ h => h) rfl (fun x hx => ?_) ?_
  rotate_left 1
  · go_simp; first | done | with_reducible rfl | rw [if_neg (by omega)] | rw [if_pos (by omega)]
  simp only [Act.put, nA, nB, nC]
  refine wpU_take 6 (some 234) (v := ?_) rfl rfl (by kernel_rfl) (fun _ _ _ h => h) rfl (fun x hx => ?_) ?_
  rotate_left 1
  · obtain ⟨s0, s1, s2, s3, s4, s5⟩ := cells_s (hx.has HI3.out.blk); obtain ⟨p0, p1, p2, p3, p4, p5⟩ := cells_p (hx.has (HI3.out.foreign _ List.mem_cons_self).blk); obtain ⟨q0, q1, q2, q3, q4, q5, q6, q7, q8⟩ := cells_q (hx.has (HI3.out.foreign _ (List.mem_cons_of_mem _ List.mem_cons_self)).blk); simp only [Pat.op, Pat.text, Pat.num, Pat.lo, Pat.hi] at *; go_simp; first | done | with_reducible rfl | rw [if_neg (by omega)] | rw [if_pos (by omega)]
  simp only [Act.put, nA, nB, nC]
  refine wpU_take 7 (some 235) (v := ?_) rfl rfl (by kernel_rfl) (fun _ _ _ h => h) rfl (fun x hx => ?_) ?_
  rotate_left 1
  · go_simp; first | done | with_reducible rfl | rw [if_neg (by omega)] | rw [if_pos (by omega)]
  simp only [Act.put, nA, nB, nC]
  refine wpU_take 8 (some 236) (v := ?_) rfl rfl (by kernel_rfl) (fun _ _ _ h => h) rfl (fun x hx => ?_) ?_
  rotate_left 1
  · go_simp; first | done | with_reducible rfl | rw [if_neg (by omega)] | rw [if_pos (by omega)]
  simp only [Act.put, nA, nB, nC]
  refine wpU_take 9 (some 237) (v := ?_) rfl rfl (by kernel_rfl) (fun _ _ _ h => h) rfl (fun x hx => ?_) ?_
  rotate_left 1
  · go_simp; first | done | with_reducible rfl | rw [if_neg (by omega)] | rw [if_pos (by omega)]
  simp only [Act.put, nA, nB, nC]
  refine wpU_take 10 (some 238) (v := ?_) rfl rfl (by kernel_rfl) (fun _ _ _ h => h) rfl (fun x hx => ?_) ?_
  rotate_left 1
  · obtain ⟨s0, s1, s2, s3, s4, s5⟩ := cells_s (hx.has HI3.out.blk); obtain ⟨p0, p1, p2, p3, p4, p5⟩ := cells_p (hx.has (HI3.out.foreign _ List.mem_cons_self).blk); obtain ⟨q0, q1, q2, q3, q4, q5, q6, q7, q8⟩ := cells_q (hx.has (HI3.out.foreign _ (List.mem_cons_of_mem _ List.mem_cons_self)).blk); simp only [Pat.op, Pat.text, Pat.num, Pat.lo, Pat.hi] at *; go_simp; first | done | with_reducible rfl | rw [if_neg (by omega)] | rw [if_pos (by omega)]
  simp only [Act.put, nA, nB, nC]
  refine wpU_take 11 (some 239) (v := ?_) rfl rfl (by kernel_rfl) (fun _ _ _ h => h) rfl (fun x hx => ?_) ?_
  rotate_left 1
  · go_simp; first | done | with_reducible rfl | rw [if_neg (by omega)] | rw [if_pos (by omega)]
  simp only [Act.put, nA, nB, nC]
  refine wpU_step 12 (by kernel_rfl) rfl rfl ?_  -- buildSlice 
  go_wp2_with fail
  refine ⟨(Later.refl _).alloc _, ?_⟩
  refine wpU_last [_, _, _, _] (by kernel_rfl) rfl rfl ?_
  simp only [List.getElem_toArray, List.getElem_cons_succ, List.getElem_cons_zero]
  obtain ⟨i, hi, hz0, hz1, hz2⟩ := info_parts infoK
  refine wpList_append_has _ rfl _ _ _ rfl w0.heap.size TK i _ 3 24 Try.underlying31 hi hz0 hz1 hz2 rfl _ m.events.length (capCells m.events) rfl ((HI3.out.later ((Later.refl _).alloc _)).evs) _ 1 1 [.int .i64 num, .int .i64 m.at_, .int .i64 (-1)] rfl rfl ?_ ?_ (by omega) ?_ ?_ ?_ ?_
  · exact cells_three _ _ _ _ _
  · intro u hu
    simp only [List.mem_cons, List.not_mem_nil, or_false] at hu
    rcases hu with rfl | rfl | rfl <;> rfl
  · simp only [maxLen]; omega
  · omega
  · exact (HI3.out.later ((Later.refl w3).alloc _)).below.size
  · intro v' w' hrow hgrow hblock
    obtain ⟨vA, vc, rfl, _, _⟩ := hrow.form
    obtain ⟨hM', hI'⟩ := (HI3.out.later ((Later.refl w3).alloc _)).grownE (c := ⟨num, m.at_, -1⟩) hrow hgrow hblock
    have HI' := Lib.hid hI'
    obtain ⟨s0, s1, s2, s3, s4, s5⟩ := cells_s hM'
    have fF := frozen_of_row w' M 5 _ _ hM'
    clear hM' hI' hrow hgrow hblock
    go_wp2_with fail
    go_ret
    exact sdid_go (m' := m.event ⟨num, m.at_, -1⟩) HI'.out HCH.out (by omega)

end Go.Proofs.Ytndefbecoahfhaa

/- spec's l20Step. Printed by gen_sstep.py. -/
namespace Go.Proofs.Ytndefbecoahfhaa
open Go.RowKit

set_option maxRecDepth 100000 in
set_option maxHeartbeats 1000000 in
theorem sstep_extend {w0 w : World} {M : Nat} {m : Mst} {gl : List SG} {gv hv cv ev : Value} {hs : List Value} {text : ByteArray} {num lo hi : Int} {k0 : Pat} {A : Option Addr} {c : Nat} {fr nx : Int} {gs : List Goal} {j : Nat} {s : ByteArray} {dv : Value} {op : Int}
    (h : SpecAt w0 w [] M m gl (j : Int) m.at_ gv hv cv ev hs) (hj : gl[j]? = some ⟨3, .mk op text num lo hi [k0], .slice A 1 c, nx, fr⟩) (hch : Chain gl nx gs) (hlen : gl.length ≤ 90000) :
    Calls Try.prog 71 #[.pointer (some ⟨M, 0, none⟩), dv, .string s] w (SDid w0 M m gl.length (.go (⟨0, k0, 0⟩ :: ⟨4, .mk op text num lo hi [k0], m.at_⟩ :: gs) m)) := by
  have hblk := h.blk
  obtain ⟨g0, gc, rfl⟩ := goal_row h hj
  obtain ⟨hA, hc, rfl, _, _⟩ := h.chs.form
  obtain ⟨cA, cc, rfl, _, _⟩ := h.caps.form
  obtain ⟨eA, ec, rfl, _, _⟩ := h.evs.form
  obtain ⟨s0, s1, s2, s3, s4, s5⟩ := cells_s hblk
  have fs2 := frozen_of_row w M 2 _ _ hblk
  have hMlt := has_lt hblk
  obtain ⟨q0, q1, q2, q3, q4, q5, q6, q7, q8⟩ := goal_cells h hj
  simp only [Pat.op, Pat.text, Pat.num, Pat.lo, Pat.hi] at q1 q2 q3 q4 q5
  have hjl : j < gl.length := (List.getElem?_eq_some_iff.1 hj).1
  have hjl' : (j : Int) < gl.length := by omega
  have hkid : KidsIn w0 (.mk op text num lo hi [k0]) (.slice A 1 c) := h.kids _ (List.mem_of_getElem? hj)
  have HKID := Lib.hid hkid
  have HR := Lib.hid (kids_row hkid)
  have HCH := Lib.hid hch
  have HJ := Lib.hid hj
  have HI2 := Lib.hid (h.enter (ogOf ⟨3, .mk op text num lo hi [k0], .slice A 1 c, nx, fr⟩) (opOf (.mk op text num lo hi [k0]) (.slice A 1 c)) nx)
  have hbel := h.below.size
  clear h hblk hkid hch hj
  go_enter Try.func71, Try.ntmps71
  go_wp2_with fail
  clear s0 s1 s2 s3 s4 s5 q0 q1 q2 q3 q4 q5 q6 q7 q8 fs2
  -- region 13: 11 operations, the last [9, 10]
  refine wpU_begin [9, 10] [] (by kernel_rfl) (fun w3 hw3 => ?_)
  have HI3 := Lib.hid (HI2.out.later (drew_later hw3))
  clear hw3
  refine wpU_take 0 (some 76) (v := ?_) rfl rfl (by kernel_rfl) (fun _ _ _ h => h) rfl (fun x hx => ?_) ?_
  rotate_left 1
  · go_simp; first | done | with_reducible rfl | rw [if_neg (by omega)] | rw [if_pos (by omega)]
  simp only [Act.put, nA, nB, nC]
  refine wpU_take 1 (some 77) (v := ?_) rfl rfl (by kernel_rfl) (fun _ _ _ h => h) rfl (fun x hx => ?_) ?_
  rotate_left 1
  · obtain ⟨s0, s1, s2, s3, s4, s5⟩ := cells_s (hx.has HI3.out.blk); obtain ⟨p0, p1, p2, p3, p4, p5⟩ := cells_p (hx.has (HI3.out.foreign _ List.mem_cons_self).blk); obtain ⟨q0, q1, q2, q3, q4, q5, q6, q7, q8⟩ := cells_q (hx.has (HI3.out.foreign _ (List.mem_cons_of_mem _ List.mem_cons_self)).blk); simp only [Pat.op, Pat.text, Pat.num, Pat.lo, Pat.hi] at *; go_simp; first | done | with_reducible rfl | rw [if_neg (by omega)] | rw [if_pos (by omega)]
  simp only [Act.put, nA, nB, nC]
  refine wpU_take 2 (some 78) (v := ?_) rfl rfl (by kernel_rfl) (fun _ _ _ h => h) rfl (fun x hx => ?_) ?_
  rotate_left 1
  · go_simp; first | done | with_reducible rfl | rw [if_neg (by omega)] | rw [if_pos (by omega)]
  simp only [Act.put, nA, nB, nC]
  refine wpU_take 3 (some 79) (v := ?_) rfl rfl (by kernel_rfl) (fun _ _ _ h => h) rfl (fun x hx => ?_) ?_
  rotate_left 1
  · obtain ⟨s0, s1, s2, s3, s4, s5⟩ := cells_s (hx.has HI3.out.blk); obtain ⟨p0, p1, p2, p3, p4, p5⟩ := cells_p (hx.has (HI3.out.foreign _ List.mem_cons_self).blk); obtain ⟨q0, q1, q2, q3, q4, q5, q6, q7, q8⟩ := cells_q (hx.has (HI3.out.foreign _ (List.mem_cons_of_mem _ List.mem_cons_self)).blk); simp only [Pat.op, Pat.text, Pat.num, Pat.lo, Pat.hi] at *; go_simp; first | done | with_reducible rfl | rw [if_neg (by omega)] | rw [if_pos (by omega)]
  simp only [Act.put, nA, nB, nC]
  refine wpU_take 4 (some 80) (v := ?_) rfl rfl (by kernel_rfl) (fun _ _ _ h => h) rfl (fun x hx => ?_) ?_
  rotate_left 1
  · go_simp; first | done | with_reducible rfl | rw [if_neg (by omega)] | rw [if_pos (by omega)]
  simp only [Act.put, nA, nB, nC]
  refine wpU_take 5 (some 81) (v := ?_) rfl rfl (by kernel_rfl) (fun _ _ _ h => h) rfl (fun x hx => ?_) ?_
  rotate_left 1
  · go_simp; first | done | with_reducible rfl | rw [if_neg (by omega)] | rw [if_pos (by omega)]
  simp only [Act.put, nA, nB, nC]
  refine wpU_take 6 (some 82) (v := ?_) rfl rfl (by kernel_rfl) (fun _ _ _ h => h) rfl (fun x hx => ?_) ?_
  rotate_left 1
  · go_simp; first | done | with_reducible rfl | rw [if_neg (by omega)] | rw [if_pos (by omega)]
  simp only [Act.put, nA, nB, nC]
  refine wpU_take 7 (some 83) (v := ?_) rfl rfl (by kernel_rfl) (fun _ _ _ h => h) rfl (fun x hx => ?_) ?_
  rotate_left 1
  · obtain ⟨s0, s1, s2, s3, s4, s5⟩ := cells_s (hx.has HI3.out.blk); obtain ⟨p0, p1, p2, p3, p4, p5⟩ := cells_p (hx.has (HI3.out.foreign _ List.mem_cons_self).blk); obtain ⟨q0, q1, q2, q3, q4, q5, q6, q7, q8⟩ := cells_q (hx.has (HI3.out.foreign _ (List.mem_cons_of_mem _ List.mem_cons_self)).blk); simp only [Pat.op, Pat.text, Pat.num, Pat.lo, Pat.hi] at *; go_simp; first | done | with_reducible rfl | rw [if_neg (by omega)] | rw [if_pos (by omega)]
  simp only [Act.put, nA, nB, nC]
  refine wpU_take 8 (some 84) (v := ?_) rfl rfl (by kernel_rfl) (fun _ _ _ h => h) rfl (fun x hx => ?_) ?_
  rotate_left 1
  · go_simp; first | done | with_reducible rfl | rw [if_neg (by omega)] | rw [if_pos (by omega)]
  simp only [Act.put, nA, nB, nC]
  refine wpU_last [_, _] (by kernel_rfl) rfl rfl ?_
  simp only [List.getElem_toArray, List.getElem_cons_succ, List.getElem_cons_zero]
  go_wp2_with fail
  refine (push_at HI3.out 4 (.mk op text num lo hi [k0]) A c nx m.at_ HKID.out (by omega) _ rfl).mono ?_
  rintro e w4 ⟨rfl, gv4, hI4⟩
  obtain ⟨gA4, gc4, rfl, _, _⟩ := hI4.goals.form
  have HI4 := Lib.hid hI4
  clear hI4
  obtain ⟨g0k, kA0, kc0, hA0, hk0, he0⟩ := kid_cells HR.out (j := 0) (by simp) HI4.out.below
  simp only [List.getElem_cons_zero] at hk0 he0
  have HK0 := Lib.hid hk0
  have HE0 := Lib.hid he0
  clear hk0 he0
  subst hA0
  obtain ⟨s0, s1, s2, s3, s4, s5⟩ := cells_s HI4.out.blk
  obtain ⟨p0, p1, p2, p3, p4, p5⟩ := cells_p (HI4.out.foreign _ List.mem_cons_self).blk
  obtain ⟨q0, q1, q2, q3, q4, q5, q6, q7, q8⟩ := cells_q (HI4.out.foreign _ (List.mem_cons_of_mem _ List.mem_cons_self)).blk
  obtain ⟨e00, e01, e02, e03, e04, e05⟩ := HE0.out
  simp only [Nat.zero_mul, Nat.zero_add] at e00 e01 e02 e03 e04 e05
  go_wp2_with fail
  refine (push_at HI4.out 0 k0 kA0 kc0 gl.length 0 HK0.out (by simp; omega) _ rfl).mono ?_
  clear s0 s1 s2 s3 s4 s5 p0 p1 p2 p3 p4 p5 q0 q1 q2 q3 q4 q5 q6 q7 q8
  rintro e w5 ⟨rfl, gv5, hI5⟩
  obtain ⟨gA5, gc5, rfl, _, _⟩ := hI5.goals.form
  have HI5 := Lib.hid hI5
  clear hI5
  obtain ⟨s0, s1, s2, s3, s4, s5⟩ := cells_s HI5.out.blk
  have f2 := frozen_of_row w5 M 2 _ _ HI5.out.blk
  have hint : ((gl.length : Int) + 1) ≤ 90001 := by omega
  go_wp2_with fail
  go_ret
  exact sdid_go (HI5.out.setGoal ((gl.length : Int) + 1)) (Chain.push2 ⟨4, .mk op text num lo hi [k0], _, nx, m.at_⟩ ⟨0, k0, _, gl.length, 0⟩ ⟨4, .mk op text num lo hi [k0], m.at_⟩ ⟨0, k0, 0⟩ HCH.out rfl rfl rfl rfl rfl rfl rfl) (by simp)

set_option maxRecDepth 100000 in
set_option maxHeartbeats 1000000 in
theorem sstep_check_go {w0 w : World} {M : Nat} {m : Mst} {gl : List SG} {gv hv cv ev : Value} {hs : List Value} {text : ByteArray} {num lo hi : Int} {kids : List Pat} {A : Option Addr} {c : Nat} {fr nx : Int} {gs : List Goal} {j : Nat} {s : ByteArray} {dv : Value} {op : Int}
    (h : SpecAt w0 w [] M m gl (j : Int) m.at_ gv hv cv ev hs) (hj : gl[j]? = some ⟨4, .mk op text num lo hi kids, .slice A kids.length c, nx, fr⟩) (hch : Chain gl nx gs) (hlen : gl.length ≤ 90000) (hne : ((m.at_ : Int) != fr) = true) :
    Calls Try.prog 71 #[.pointer (some ⟨M, 0, none⟩), dv, .string s] w (SDid w0 M m gl.length (.go (⟨0, .mk op text num lo hi kids, 0⟩ :: gs) m)) := by
  have hblk := h.blk
  obtain ⟨g0, gc, rfl⟩ := goal_row h hj
  obtain ⟨hA, hc, rfl, _, _⟩ := h.chs.form
  obtain ⟨cA, cc, rfl, _, _⟩ := h.caps.form
  obtain ⟨eA, ec, rfl, _, _⟩ := h.evs.form
  obtain ⟨s0, s1, s2, s3, s4, s5⟩ := cells_s hblk
  have fs2 := frozen_of_row w M 2 _ _ hblk
  have hMlt := has_lt hblk
  obtain ⟨q0, q1, q2, q3, q4, q5, q6, q7, q8⟩ := goal_cells h hj
  simp only [Pat.op, Pat.text, Pat.num, Pat.lo, Pat.hi] at q1 q2 q3 q4 q5
  have hjl : j < gl.length := (List.getElem?_eq_some_iff.1 hj).1
  have hjl' : (j : Int) < gl.length := by omega
  have hkid : KidsIn w0 (.mk op text num lo hi kids) (.slice A kids.length c) := h.kids _ (List.mem_of_getElem? hj)
  have HKID := Lib.hid hkid
  have HR := Lib.hid (kids_row hkid)
  have HCH := Lib.hid hch
  have HJ := Lib.hid hj
  have HI2 := Lib.hid (h.enter (ogOf ⟨4, .mk op text num lo hi kids, .slice A kids.length c, nx, fr⟩) (opOf (.mk op text num lo hi kids) (.slice A kids.length c)) nx)
  have hbel := h.below.size
  clear h hblk hkid hch hj
  go_enter Try.func71, Try.ntmps71
  go_wp2_with fail
  clear s0 s1 s2 s3 s4 s5 q0 q1 q2 q3 q4 q5 q6 q7 q8 fs2
  refine (push_at HI2.out 0 (.mk op text num lo hi kids) A c nx 0 HKID.out (by omega) _ rfl).mono ?_
  rintro e w4 ⟨rfl, gv4, hI4⟩
  obtain ⟨gA4, gc4, rfl, _, _⟩ := hI4.goals.form
  have HI4 := Lib.hid hI4
  clear hI4
  obtain ⟨s0, s1, s2, s3, s4, s5⟩ := cells_s HI4.out.blk
  obtain ⟨p0, p1, p2, p3, p4, p5⟩ := cells_p (HI4.out.foreign _ List.mem_cons_self).blk
  obtain ⟨q0, q1, q2, q3, q4, q5, q6, q7, q8⟩ := cells_q (HI4.out.foreign _ (List.mem_cons_of_mem _ List.mem_cons_self)).blk
  simp only [Pat.op, Pat.text, Pat.num, Pat.lo, Pat.hi] at p0 p1 p2 p3 p4 q1 q2 q3 q4 q5
  have f2 := frozen_of_row w4 M 2 _ _ HI4.out.blk
  go_wp2_with fail
  clear f2
  clear s0 s1 s2 s3 s4 s5 p0 p1 p2 p3 p4 p5 q0 q1 q2 q3 q4 q5 q6 q7 q8
  -- region 18: 8 operations, the last []
  refine wpU_begin [] [] (by kernel_rfl) (fun w5 hw5 => ?_)
  have HI5 := Lib.hid ((HI4.out.setGoal gl.length).later (drew_later hw5))
  clear hw5
  refine wpU_take 0 (some 108) (v := ?_) rfl rfl (by kernel_rfl) (fun _ _ _ h => h) rfl (fun x hx => ?_) ?_
  rotate_left 1
  · go_simp; first | done | with_reducible rfl | rw [if_neg (by omega)] | rw [if_pos (by omega)]
  simp only [Act.put, nA, nB, nC]
  refine wpU_take 1 (some 109) (v := ?_) rfl rfl (by kernel_rfl) (fun _ _ _ h => h) rfl (fun x hx => ?_) ?_
  rotate_left 1
  · go_simp; first | done | with_reducible rfl | rw [if_neg (by omega)] | rw [if_pos (by omega)]
  simp only [Act.put, nA, nB, nC]
  refine wpU_take 2 (some 110) (v := ?_) rfl rfl (by kernel_rfl) (fun _ _ _ h => h) rfl (fun x hx => ?_) ?_
  rotate_left 1
  · go_simp; first | done | with_reducible rfl | rw [if_neg (by omega)] | rw [if_pos (by omega)]
  simp only [Act.put, nA, nB, nC]
  refine wpU_take 3 (some 111) (v := ?_) rfl rfl (by kernel_rfl) (fun _ _ _ h => h) rfl (fun x hx => ?_) ?_
  rotate_left 1
  · obtain ⟨s0, s1, s2, s3, s4, s5⟩ := cells_s (hx.has HI5.out.blk); obtain ⟨p0, p1, p2, p3, p4, p5⟩ := cells_p (hx.has (HI5.out.foreign _ List.mem_cons_self).blk); obtain ⟨q0, q1, q2, q3, q4, q5, q6, q7, q8⟩ := cells_q (hx.has (HI5.out.foreign _ (List.mem_cons_of_mem _ List.mem_cons_self)).blk); simp only [Pat.op, Pat.text, Pat.num, Pat.lo, Pat.hi] at *; go_simp; first | done | with_reducible rfl | rw [if_neg (by omega)] | rw [if_pos (by omega)]
  simp only [Act.put, nA, nB, nC]
  refine wpU_take 4 (some 112) (v := ?_) rfl rfl (by kernel_rfl) (fun _ _ _ h => h) rfl (fun x hx => ?_) ?_
  rotate_left 1
  · go_simp; first | done | with_reducible rfl | rw [if_neg (by omega)] | rw [if_pos (by omega)]
  simp only [Act.put, nA, nB, nC]
  refine wpU_take 5 (some 113) (v := ?_) rfl rfl (by kernel_rfl) (fun _ _ _ h => h) rfl (fun x hx => ?_) ?_
  rotate_left 1
  · obtain ⟨s0, s1, s2, s3, s4, s5⟩ := cells_s (hx.has HI5.out.blk); obtain ⟨p0, p1, p2, p3, p4, p5⟩ := cells_p (hx.has (HI5.out.foreign _ List.mem_cons_self).blk); obtain ⟨q0, q1, q2, q3, q4, q5, q6, q7, q8⟩ := cells_q (hx.has (HI5.out.foreign _ (List.mem_cons_of_mem _ List.mem_cons_self)).blk); simp only [Pat.op, Pat.text, Pat.num, Pat.lo, Pat.hi] at *; go_simp; first | done | with_reducible rfl | rw [if_neg (by omega)] | rw [if_pos (by omega)]
  simp only [Act.put, nA, nB, nC]
  refine wpU_take 6 (some 114) (v := ?_) rfl rfl (by kernel_rfl) (fun _ _ _ h => h) rfl (fun x hx => ?_) ?_
  rotate_left 1
  · go_simp; first | done | with_reducible rfl | rw [if_neg (by omega)] | rw [if_pos (by omega)]
  simp only [Act.put, nA, nB, nC]
  refine wpU_take 7 (some 6) (v := ?_) rfl rfl (by kernel_rfl) (fun _ _ _ h => h) rfl (fun x hx => ?_) ?_
  rotate_left 1
  · go_simp; first | done | with_reducible rfl | rw [if_neg (by omega)] | rw [if_pos (by omega)]
  simp only [Act.put, nA, nB, nC]
  refine wpU_last [] (by kernel_rfl) rfl rfl ?_
  go_wp2_with fail
  go_ret
  exact sdid_go HI5.out (Chain.push ⟨0, (.mk op text num lo hi kids), _, nx, 0⟩ ⟨0, (.mk op text num lo hi kids), 0⟩ HCH.out rfl rfl rfl) (by simp)

set_option maxRecDepth 100000 in
set_option maxHeartbeats 1000000 in
theorem sstep_check_fail {w0 w : World} {M : Nat} {m : Mst} {gl : List SG} {gv hv cv ev : Value} {hs : List Value} {text : ByteArray} {num lo hi : Int} {kids : List Pat} {A : Option Addr} {c : Nat} {fr nx : Int} {gs : List Goal} {j : Nat} {s : ByteArray} {dv : Value} {op : Int}
    (h : SpecAt w0 w [] M m gl (j : Int) m.at_ gv hv cv ev hs) (hj : gl[j]? = some ⟨4, .mk op text num lo hi kids, .slice A kids.length c, nx, fr⟩) (hch : Chain gl nx gs) (hlen : gl.length ≤ 90000) (hne : ((m.at_ : Int) != fr) = false) :
    Calls Try.prog 71 #[.pointer (some ⟨M, 0, none⟩), dv, .string s] w (SDid w0 M m gl.length (.fail)) := by
  have hblk := h.blk
  obtain ⟨g0, gc, rfl⟩ := goal_row h hj
  obtain ⟨hA, hc, rfl, _, _⟩ := h.chs.form
  obtain ⟨cA, cc, rfl, _, _⟩ := h.caps.form
  obtain ⟨eA, ec, rfl, _, _⟩ := h.evs.form
  obtain ⟨s0, s1, s2, s3, s4, s5⟩ := cells_s hblk
  have fs2 := frozen_of_row w M 2 _ _ hblk
  have hMlt := has_lt hblk
  obtain ⟨q0, q1, q2, q3, q4, q5, q6, q7, q8⟩ := goal_cells h hj
  simp only [Pat.op, Pat.text, Pat.num, Pat.lo, Pat.hi] at q1 q2 q3 q4 q5
  have hjl : j < gl.length := (List.getElem?_eq_some_iff.1 hj).1
  have hjl' : (j : Int) < gl.length := by omega
  have hkid : KidsIn w0 (.mk op text num lo hi kids) (.slice A kids.length c) := h.kids _ (List.mem_of_getElem? hj)
  have HKID := Lib.hid hkid
  have HR := Lib.hid (kids_row hkid)
  have HCH := Lib.hid hch
  have HJ := Lib.hid hj
  have HI2 := Lib.hid (h.enter (ogOf ⟨4, .mk op text num lo hi kids, .slice A kids.length c, nx, fr⟩) (opOf (.mk op text num lo hi kids) (.slice A kids.length c)) nx)
  have hbel := h.below.size
  clear h hblk hkid hch hj
  go_enter Try.func71, Try.ntmps71
  go_wp2_with fail
  clear s0 s1 s2 s3 s4 s5 q0 q1 q2 q3 q4 q5 q6 q7 q8 fs2
  refine (push_at HI2.out 0 (.mk op text num lo hi kids) A c nx 0 HKID.out (by omega) _ rfl).mono ?_
  rintro e w4 ⟨rfl, gv4, hI4⟩
  obtain ⟨gA4, gc4, rfl, _, _⟩ := hI4.goals.form
  have HI4 := Lib.hid hI4
  clear hI4
  obtain ⟨s0, s1, s2, s3, s4, s5⟩ := cells_s HI4.out.blk
  obtain ⟨p0, p1, p2, p3, p4, p5⟩ := cells_p (HI4.out.foreign _ List.mem_cons_self).blk
  obtain ⟨q0, q1, q2, q3, q4, q5, q6, q7, q8⟩ := cells_q (HI4.out.foreign _ (List.mem_cons_of_mem _ List.mem_cons_self)).blk
  simp only [Pat.op, Pat.text, Pat.num, Pat.lo, Pat.hi] at p0 p1 p2 p3 p4 q1 q2 q3 q4 q5
  have f2 := frozen_of_row w4 M 2 _ _ HI4.out.blk
  go_wp2_with fail
  clear f2
  clear s0 s1 s2 s3 s4 s5 p0 p1 p2 p3 p4 p5 q0 q1 q2 q3 q4 q5 q6 q7 q8
  -- region 18: 8 operations, the last []
  refine wpU_begin [] [] (by kernel_rfl) (fun w5 hw5 => ?_)
  have HI5 := Lib.hid ((HI4.out.setGoal gl.length).later (drew_later hw5))
  clear hw5
  refine wpU_take 0 (some 108) (v := ?_) rfl rfl (by kernel_rfl) (fun _ _ _ h => h) rfl (fun x hx => ?_) ?_
  rotate_left 1
  · go_simp; first | done | with_reducible rfl | rw [if_neg (by omega)] | rw [if_pos (by omega)]
  simp only [Act.put, nA, nB, nC]
  refine wpU_take 1 (some 109) (v := ?_) rfl rfl (by kernel_rfl) (fun _ _ _ h => h) rfl (fun x hx => ?_) ?_
  rotate_left 1
  · go_simp; first | done | with_reducible rfl | rw [if_neg (by omega)] | rw [if_pos (by omega)]
  simp only [Act.put, nA, nB, nC]
  refine wpU_take 2 (some 110) (v := ?_) rfl rfl (by kernel_rfl) (fun _ _ _ h => h) rfl (fun x hx => ?_) ?_
  rotate_left 1
  · go_simp; first | done | with_reducible rfl | rw [if_neg (by omega)] | rw [if_pos (by omega)]
  simp only [Act.put, nA, nB, nC]
  refine wpU_take 3 (some 111) (v := ?_) rfl rfl (by kernel_rfl) (fun _ _ _ h => h) rfl (fun x hx => ?_) ?_
  rotate_left 1
  · obtain ⟨s0, s1, s2, s3, s4, s5⟩ := cells_s (hx.has HI5.out.blk); obtain ⟨p0, p1, p2, p3, p4, p5⟩ := cells_p (hx.has (HI5.out.foreign _ List.mem_cons_self).blk); obtain ⟨q0, q1, q2, q3, q4, q5, q6, q7, q8⟩ := cells_q (hx.has (HI5.out.foreign _ (List.mem_cons_of_mem _ List.mem_cons_self)).blk); simp only [Pat.op, Pat.text, Pat.num, Pat.lo, Pat.hi] at *; go_simp; first | done | with_reducible rfl | rw [if_neg (by omega)] | rw [if_pos (by omega)]
  simp only [Act.put, nA, nB, nC]
  refine wpU_take 4 (some 112) (v := ?_) rfl rfl (by kernel_rfl) (fun _ _ _ h => h) rfl (fun x hx => ?_) ?_
  rotate_left 1
  · go_simp; first | done | with_reducible rfl | rw [if_neg (by omega)] | rw [if_pos (by omega)]
  simp only [Act.put, nA, nB, nC]
  refine wpU_take 5 (some 113) (v := ?_) rfl rfl (by kernel_rfl) (fun _ _ _ h => h) rfl (fun x hx => ?_) ?_
  rotate_left 1
  · obtain ⟨s0, s1, s2, s3, s4, s5⟩ := cells_s (hx.has HI5.out.blk); obtain ⟨p0, p1, p2, p3, p4, p5⟩ := cells_p (hx.has (HI5.out.foreign _ List.mem_cons_self).blk); obtain ⟨q0, q1, q2, q3, q4, q5, q6, q7, q8⟩ := cells_q (hx.has (HI5.out.foreign _ (List.mem_cons_of_mem _ List.mem_cons_self)).blk); simp only [Pat.op, Pat.text, Pat.num, Pat.lo, Pat.hi] at *; go_simp; first | done | with_reducible rfl | rw [if_neg (by omega)] | rw [if_pos (by omega)]
  simp only [Act.put, nA, nB, nC]
  refine wpU_take 6 (some 114) (v := ?_) rfl rfl (by kernel_rfl) (fun _ _ _ h => h) rfl (fun x hx => ?_) ?_
  rotate_left 1
  · go_simp; first | done | with_reducible rfl | rw [if_neg (by omega)] | rw [if_pos (by omega)]
  simp only [Act.put, nA, nB, nC]
  refine wpU_take 7 (some 6) (v := ?_) rfl rfl (by kernel_rfl) (fun _ _ _ h => h) rfl (fun x hx => ?_) ?_
  rotate_left 1
  · go_simp; first | done | with_reducible rfl | rw [if_neg (by omega)] | rw [if_pos (by omega)]
  simp only [Act.put, nA, nB, nC]
  refine wpU_last [] (by kernel_rfl) rfl rfl ?_
  go_wp2_with fail
  go_ret
  exact sdid_fail HI5.out (by simp)

end Go.Proofs.Ytndefbecoahfhaa

/- spec's l20Step. Printed by gen_sstep.py. -/
namespace Go.Proofs.Ytndefbecoahfhaa
open Go.RowKit

set_option maxRecDepth 100000 in
set_option maxHeartbeats 1000000 in
theorem sstep_arb_yes {w0 w : World} {M : Nat} {m : Mst} {gl : List SG} {gv hv cv ev : Value} {hs : List Value} {text : ByteArray} {num lo hi : Int} {kids : List Pat} {A : Option Addr} {c : Nat} {fr nx : Int} {gs : List Goal} {j : Nat} {s : ByteArray} {dv : Value} 
    (h : SpecAt w0 w [] M m gl (j : Int) m.at_ gv hv cv ev hs) (hj : gl[j]? = some ⟨0, .mk 11 text num lo hi kids, .slice A kids.length c, nx, 0⟩) (hch : Chain gl nx gs) (hlen : gl.length ≤ 90000) (hlt : m.at_ < s.size) (hss : s.size ≤ 120) (hn : m.choices.length ≤ 5000) :
    Calls Try.prog 71 #[.pointer (some ⟨M, 0, none⟩), dv, .string s] w (SDid w0 M m gl.length (.go gs (m.choose (⟨0, .mk 11 text num lo hi kids, 0⟩ :: gs) (m.at_ + 1)))) := by
  have hblk := h.blk
  obtain ⟨g0, gc, rfl⟩ := goal_row h hj
  obtain ⟨hA, hc, rfl, _, _⟩ := h.chs.form
  obtain ⟨cA, cc, rfl, _, _⟩ := h.caps.form
  obtain ⟨eA, ec, rfl, _, _⟩ := h.evs.form
  obtain ⟨s0, s1, s2, s3, s4, s5⟩ := cells_s hblk
  have fs2 := frozen_of_row w M 2 _ _ hblk
  have hMlt := has_lt hblk
  obtain ⟨q0, q1, q2, q3, q4, q5, q6, q7, q8⟩ := goal_cells h hj
  simp only [Pat.op, Pat.text, Pat.num, Pat.lo, Pat.hi] at q1 q2 q3 q4 q5
  have hjl : j < gl.length := (List.getElem?_eq_some_iff.1 hj).1
  have hjl' : (j : Int) < gl.length := by omega
  have hkid : KidsIn w0 (.mk 11 text num lo hi kids) (.slice A kids.length c) := h.kids _ (List.mem_of_getElem? hj)
  have HKID := Lib.hid hkid
  have HR := Lib.hid (kids_row hkid)
  have HCH := Lib.hid hch
  have HJ := Lib.hid hj
  have HI2 := Lib.hid (h.enter (ogOf ⟨0, .mk 11 text num lo hi kids, .slice A kids.length c, nx, 0⟩) (opOf (.mk 11 text num lo hi kids) (.slice A kids.length c)) nx)
  have hbel := h.below.size
  have hat1 : (m.at_ : Int) + 1 ≤ 121 := by omega
  clear h hblk hkid hch hj
  go_enter Try.func71, Try.ntmps71
  go_wp2_with fail
  clear s0 s1 s2 s3 s4 s5 q0 q1 q2 q3 q4 q5 q6 q7 q8 fs2
  refine (later_any HI2.out ⟨false, ⟨0, .mk 11 text num lo hi kids, 0⟩ :: gs, m.at_ + 1, m.caps.length⟩ j _ (by simp) rfl (.inr ⟨rfl, ⟨j, _, rfl, HJ.out, rfl, rfl, rfl, HCH.out⟩⟩) (by omega)).mono ?_
  rintro e w4 ⟨rfl, hv4, hs4, hI4⟩
  obtain ⟨hA4, hc4, rfl, _, _⟩ := hI4.chs.form
  have HI4 := Lib.hid hI4
  clear hI4
  go_wp2_with fail
  go_ret
  exact sdid_go (m' := m.choose (⟨0, .mk 11 text num lo hi kids, 0⟩ :: gs) (m.at_ + 1)) HI4.out HCH.out (by omega)

set_option maxRecDepth 100000 in
set_option maxHeartbeats 1000000 in
theorem sstep_arb_no {w0 w : World} {M : Nat} {m : Mst} {gl : List SG} {gv hv cv ev : Value} {hs : List Value} {text : ByteArray} {num lo hi : Int} {kids : List Pat} {A : Option Addr} {c : Nat} {fr nx : Int} {gs : List Goal} {j : Nat} {s : ByteArray} {dv : Value} 
    (h : SpecAt w0 w [] M m gl (j : Int) m.at_ gv hv cv ev hs) (hj : gl[j]? = some ⟨0, .mk 11 text num lo hi kids, .slice A kids.length c, nx, fr⟩) (hch : Chain gl nx gs) (hlen : gl.length ≤ 90000) (hlt : ¬ m.at_ < s.size) :
    Calls Try.prog 71 #[.pointer (some ⟨M, 0, none⟩), dv, .string s] w (SDid w0 M m gl.length (.go gs m)) := by
  have hblk := h.blk
  obtain ⟨g0, gc, rfl⟩ := goal_row h hj
  obtain ⟨hA, hc, rfl, _, _⟩ := h.chs.form
  obtain ⟨cA, cc, rfl, _, _⟩ := h.caps.form
  obtain ⟨eA, ec, rfl, _, _⟩ := h.evs.form
  obtain ⟨s0, s1, s2, s3, s4, s5⟩ := cells_s hblk
  have fs2 := frozen_of_row w M 2 _ _ hblk
  have hMlt := has_lt hblk
  obtain ⟨q0, q1, q2, q3, q4, q5, q6, q7, q8⟩ := goal_cells h hj
  simp only [Pat.op, Pat.text, Pat.num, Pat.lo, Pat.hi] at q1 q2 q3 q4 q5
  have hjl : j < gl.length := (List.getElem?_eq_some_iff.1 hj).1
  have hjl' : (j : Int) < gl.length := by omega
  have hkid : KidsIn w0 (.mk 11 text num lo hi kids) (.slice A kids.length c) := h.kids _ (List.mem_of_getElem? hj)
  have HKID := Lib.hid hkid
  have HR := Lib.hid (kids_row hkid)
  have HCH := Lib.hid hch
  have HJ := Lib.hid hj
  have HI2 := Lib.hid (h.enter (ogOf ⟨0, .mk 11 text num lo hi kids, .slice A kids.length c, nx, fr⟩) (opOf (.mk 11 text num lo hi kids) (.slice A kids.length c)) nx)
  have hbel := h.below.size
  clear h hblk hkid hch hj
  go_enter Try.func71, Try.ntmps71
  go_wp2_with fail
  go_ret
  exact sdid_go HI2.out HCH.out (by omega)

set_option maxRecDepth 100000 in
set_option maxHeartbeats 1000000 in
theorem sstep_fence {w0 w : World} {M : Nat} {m : Mst} {gl : List SG} {gv hv cv ev : Value} {hs : List Value} {text : ByteArray} {num lo hi : Int} {kids : List Pat} {A : Option Addr} {c : Nat} {fr nx : Int} {gs : List Goal} {j : Nat} {s : ByteArray} {dv : Value} 
    (h : SpecAt w0 w [] M m gl (j : Int) m.at_ gv hv cv ev hs) (hj : gl[j]? = some ⟨0, .mk 19 text num lo hi kids, .slice A kids.length c, nx, fr⟩) (hch : Chain gl nx gs) (hlen : gl.length ≤ 90000) (hn : m.choices.length ≤ 5000) :
    Calls Try.prog 71 #[.pointer (some ⟨M, 0, none⟩), dv, .string s] w (SDid w0 M m gl.length (.go gs { m with choices := m.choices ++ [⟨true, [], m.at_, m.caps.length⟩] })) := by
  have hblk := h.blk
  obtain ⟨g0, gc, rfl⟩ := goal_row h hj
  obtain ⟨hA, hc, rfl, _, _⟩ := h.chs.form
  obtain ⟨cA, cc, rfl, _, _⟩ := h.caps.form
  obtain ⟨eA, ec, rfl, _, _⟩ := h.evs.form
  obtain ⟨s0, s1, s2, s3, s4, s5⟩ := cells_s hblk
  have fs2 := frozen_of_row w M 2 _ _ hblk
  have hMlt := has_lt hblk
  obtain ⟨q0, q1, q2, q3, q4, q5, q6, q7, q8⟩ := goal_cells h hj
  simp only [Pat.op, Pat.text, Pat.num, Pat.lo, Pat.hi] at q1 q2 q3 q4 q5
  have hjl : j < gl.length := (List.getElem?_eq_some_iff.1 hj).1
  have hjl' : (j : Int) < gl.length := by omega
  have hkid : KidsIn w0 (.mk 19 text num lo hi kids) (.slice A kids.length c) := h.kids _ (List.mem_of_getElem? hj)
  have HKID := Lib.hid hkid
  have HR := Lib.hid (kids_row hkid)
  have HCH := Lib.hid hch
  have HJ := Lib.hid hj
  have HI2 := Lib.hid (h.enter (ogOf ⟨0, .mk 19 text num lo hi kids, .slice A kids.length c, nx, fr⟩) (opOf (.mk 19 text num lo hi kids) (.slice A kids.length c)) nx)
  have hbel := h.below.size
  clear h hblk hkid hch hj
  go_enter Try.func71, Try.ntmps71
  go_wp2_with fail
  clear s0 s1 s2 s3 s4 s5 q0 q1 q2 q3 q4 q5 q6 q7 q8 fs2
  refine (later_any HI2.out ⟨true, [], m.at_, m.caps.length⟩ (-2) _ rfl rfl (.inl ⟨rfl, rfl⟩) (by omega)).mono ?_
  rintro e w4 ⟨rfl, hv4, hs4, hI4⟩
  obtain ⟨hA4, hc4, rfl, _, _⟩ := hI4.chs.form
  have HI4 := Lib.hid hI4
  clear hI4
  go_wp2_with fail
  go_ret
  exact sdid_go (m' := { m with choices := m.choices ++ [⟨true, [], m.at_, m.caps.length⟩] }) HI4.out HCH.out (by omega)

set_option maxRecDepth 100000 in
set_option maxHeartbeats 1000000 in
theorem sstep_abort {w0 w : World} {M : Nat} {m : Mst} {gl : List SG} {gv hv cv ev : Value} {hs : List Value} {text : ByteArray} {num lo hi : Int} {kids : List Pat} {A : Option Addr} {c : Nat} {fr nx : Int} {gs : List Goal} {j : Nat} {s : ByteArray} {dv : Value} 
    (h : SpecAt w0 w [] M m gl (j : Int) m.at_ gv hv cv ev hs) (hj : gl[j]? = some ⟨0, .mk 21 text num lo hi kids, .slice A kids.length c, nx, fr⟩) (hch : Chain gl nx gs) (hlen : gl.length ≤ 90000) :
    Calls Try.prog 71 #[.pointer (some ⟨M, 0, none⟩), dv, .string s] w (SDid w0 M m gl.length (.stop)) := by
  have hblk := h.blk
  obtain ⟨g0, gc, rfl⟩ := goal_row h hj
  obtain ⟨hA, hc, rfl, _, _⟩ := h.chs.form
  obtain ⟨cA, cc, rfl, _, _⟩ := h.caps.form
  obtain ⟨eA, ec, rfl, _, _⟩ := h.evs.form
  obtain ⟨s0, s1, s2, s3, s4, s5⟩ := cells_s hblk
  have fs2 := frozen_of_row w M 2 _ _ hblk
  have hMlt := has_lt hblk
  obtain ⟨q0, q1, q2, q3, q4, q5, q6, q7, q8⟩ := goal_cells h hj
  simp only [Pat.op, Pat.text, Pat.num, Pat.lo, Pat.hi] at q1 q2 q3 q4 q5
  have hjl : j < gl.length := (List.getElem?_eq_some_iff.1 hj).1
  have hjl' : (j : Int) < gl.length := by omega
  have hkid : KidsIn w0 (.mk 21 text num lo hi kids) (.slice A kids.length c) := h.kids _ (List.mem_of_getElem? hj)
  have HKID := Lib.hid hkid
  have HR := Lib.hid (kids_row hkid)
  have HCH := Lib.hid hch
  have HJ := Lib.hid hj
  have HI2 := Lib.hid (h.enter (ogOf ⟨0, .mk 21 text num lo hi kids, .slice A kids.length c, nx, fr⟩) (opOf (.mk 21 text num lo hi kids) (.slice A kids.length c)) nx)
  have hbel := h.below.size
  have fs1 := frozen_of_row w M 1 _ _ hblk
  have HNO := Lib.hid (((h.setGoal nx).noChoices).later (((Later.refl _).alloc (ogOf ⟨0, .mk 21 text num lo hi kids, .slice A kids.length c, nx, fr⟩)).alloc (opOf (.mk 21 text num lo hi kids) (.slice A kids.length c))))
  clear h hblk hkid hch hj
  go_enter Try.func71, Try.ntmps71
  go_wp2_with fail
  clear s0 s1 s2 s3 s4 s5 q0 q1 q2 q3 q4 q5 q6 q7 q8 fs2
  clear fs1
  refine (later_any HNO.out ⟨true, [], m.at_, m.caps.length⟩ (-2) _ rfl rfl (.inl ⟨rfl, rfl⟩) (by simp)).mono ?_
  rintro e w4 ⟨rfl, hv4, hs4, hI4⟩
  obtain ⟨hA4, hc4, rfl, _, _⟩ := hI4.chs.form
  have HI4 := Lib.hid hI4
  clear hI4
  go_wp2_with fail
  go_ret
  exact sdid_stop HI4.out (by omega)

end Go.Proofs.Ytndefbecoahfhaa

/- spec's l20Step. Printed by gen_sstep.py. -/
namespace Go.Proofs.Ytndefbecoahfhaa
open Go.RowKit

set_option maxRecDepth 100000 in
set_option maxHeartbeats 1000000 in
theorem sstep_some {w0 w : World} {M : Nat} {m : Mst} {gl : List SG} {gv hv cv ev : Value} {hs : List Value} {text : ByteArray} {num lo hi : Int} {kids : List Pat} {A : Option Addr} {c : Nat} {fr nx : Int} {gs : List Goal} {j : Nat} {s : ByteArray} {dv : Value} {op : Int} {z : Nat}
    (h : SpecAt w0 w [] M m gl (j : Int) m.at_ gv hv cv ev hs) (hj : gl[j]? = some ⟨0, .mk op text num lo hi kids, .slice A kids.length c, nx, fr⟩) (hch : Chain gl nx gs) (hlen : gl.length ≤ 90000) (hsi : isSimple op) (hok : okWords op text num) (hss : s.size ≤ 120) (hat : m.at_ ≤ s.size) (hz : oneEnd op text num lo hi s m.at_ = some z) :
    Calls Try.prog 71 #[.pointer (some ⟨M, 0, none⟩), dv, .string s] w (SDid w0 M m gl.length (.go gs { m with at_ := z })) := by
  have hblk := h.blk
  obtain ⟨g0, gc, rfl⟩ := goal_row h hj
  obtain ⟨hA, hc, rfl, _, _⟩ := h.chs.form
  obtain ⟨cA, cc, rfl, _, _⟩ := h.caps.form
  obtain ⟨eA, ec, rfl, _, _⟩ := h.evs.form
  obtain ⟨s0, s1, s2, s3, s4, s5⟩ := cells_s hblk
  have fs2 := frozen_of_row w M 2 _ _ hblk
  have hMlt := has_lt hblk
  obtain ⟨q0, q1, q2, q3, q4, q5, q6, q7, q8⟩ := goal_cells h hj
  simp only [Pat.op, Pat.text, Pat.num, Pat.lo, Pat.hi] at q1 q2 q3 q4 q5
  have hjl : j < gl.length := (List.getElem?_eq_some_iff.1 hj).1
  have hjl' : (j : Int) < gl.length := by omega
  have hkid : KidsIn w0 (.mk op text num lo hi kids) (.slice A kids.length c) := h.kids _ (List.mem_of_getElem? hj)
  have HKID := Lib.hid hkid
  have HR := Lib.hid (kids_row hkid)
  have HCH := Lib.hid hch
  have HJ := Lib.hid hj
  have HI2 := Lib.hid (h.enter (ogOf ⟨0, .mk op text num lo hi kids, .slice A kids.length c, nx, fr⟩) (opOf (.mk op text num lo hi kids) (.slice A kids.length c)) nx)
  have hbel := h.below.size
  have HSI := Lib.hid hsi
  have HOK := Lib.hid hok
  have HZ := Lib.hid hz
  have t11 : (op == 11) = false := by unfold isSimple at hsi; simp; omega
  have t13 : (op == 13) = false := by unfold isSimple at hsi; simp; omega
  have t14 : (op == 14) = false := by unfold isSimple at hsi; simp; omega
  have t15 : (op == 15) = false := by unfold isSimple at hsi; simp; omega
  have t16 : (op == 16) = false := by unfold isSimple at hsi; simp; omega
  have t17 : (op == 17) = false := by unfold isSimple at hsi; simp; omega
  have t18 : (op == 18) = false := by unfold isSimple at hsi; simp; omega
  have t19 : (op == 19) = false := by unfold isSimple at hsi; simp; omega
  have t20 : (op == 20) = false := by unfold isSimple at hsi; simp; omega
  have t21 : (op == 21) = false := by unfold isSimple at hsi; simp; omega
  clear hsi hok hz
  clear h hblk hkid hch hj
  go_enter Try.func71, Try.ntmps71
  go_wp2_with fail
  clear s0 s1 s2 s3 s4 s5 q0 q1 q2 q3 q4 q5 q6 q7 q8 fs2
  -- region 53: 8 operations, the last [6, 7]
  refine wpU_begin [6, 7] [] (by kernel_rfl) (fun w3 hw3 => ?_)
  have HI3 := Lib.hid (HI2.out.later (drew_later hw3))
  clear hw3
  refine wpU_take 0 (some 278) (v := ?_) rfl rfl (by kernel_rfl) (fun _ _ _ h => h) rfl (fun x hx => ?_) ?_
  rotate_left 1
  · obtain ⟨s0, s1, s2, s3, s4, s5⟩ := cells_s (hx.has HI3.out.blk); obtain ⟨p0, p1, p2, p3, p4, p5⟩ := cells_p (hx.has (HI3.out.foreign _ List.mem_cons_self).blk); obtain ⟨q0, q1, q2, q3, q4, q5, q6, q7, q8⟩ := cells_q (hx.has (HI3.out.foreign _ (List.mem_cons_of_mem _ List.mem_cons_self)).blk); simp only [Pat.op, Pat.text, Pat.num, Pat.lo, Pat.hi] at *; go_simp; first | done | with_reducible rfl | rw [if_neg (by omega)] | rw [if_pos (by omega)]
  simp only [Act.put, nA, nB, nC]
  refine wpU_take 1 (some 279) (v := ?_) rfl rfl (by kernel_rfl) (fun _ _ _ h => h) rfl (fun x hx => ?_) ?_
  rotate_left 1
  · go_simp; first | done | with_reducible rfl | rw [if_neg (by omega)] | rw [if_pos (by omega)]
  simp only [Act.put, nA, nB, nC]
  refine wpU_take 2 (some 280) (v := ?_) rfl rfl (by kernel_rfl) (fun _ _ _ h => h) rfl (fun x hx => ?_) ?_
  rotate_left 1
  · go_simp; first | done | with_reducible rfl | rw [if_neg (by omega)] | rw [if_pos (by omega)]
  simp only [Act.put, nA, nB, nC]
  refine wpU_take 3 (some 281) (v := ?_) rfl rfl (by kernel_rfl) (fun _ _ _ h => h) rfl (fun x hx => ?_) ?_
  rotate_left 1
  · go_simp; first | done | with_reducible rfl | rw [if_neg (by omega)] | rw [if_pos (by omega)]
  simp only [Act.put, nA, nB, nC]
  refine wpU_take 4 (some 282) (v := ?_) rfl rfl (by kernel_rfl) (fun _ _ _ h => h) rfl (fun x hx => ?_) ?_
  rotate_left 1
  · go_simp; first | done | with_reducible rfl | rw [if_neg (by omega)] | rw [if_pos (by omega)]
  simp only [Act.put, nA, nB, nC]
  refine wpU_take 5 (some 283) (v := ?_) rfl rfl (by kernel_rfl) (fun _ _ _ h => h) rfl (fun x hx => ?_) ?_
  rotate_left 1
  · obtain ⟨s0, s1, s2, s3, s4, s5⟩ := cells_s (hx.has HI3.out.blk); obtain ⟨p0, p1, p2, p3, p4, p5⟩ := cells_p (hx.has (HI3.out.foreign _ List.mem_cons_self).blk); obtain ⟨q0, q1, q2, q3, q4, q5, q6, q7, q8⟩ := cells_q (hx.has (HI3.out.foreign _ (List.mem_cons_of_mem _ List.mem_cons_self)).blk); simp only [Pat.op, Pat.text, Pat.num, Pat.lo, Pat.hi] at *; go_simp; first | done | with_reducible rfl | rw [if_neg (by omega)] | rw [if_pos (by omega)]
  simp only [Act.put, nA, nB, nC]
  refine wpU_last [_, _] (by kernel_rfl) rfl rfl ?_
  simp only [List.getElem_toArray, List.getElem_cons_succ, List.getElem_cons_zero]
  go_wp2_with fail
  refine (one_some HSI.out HOK.out hss hat HZ.out).mono ?_
  rintro e w4 ⟨rfl, hb4⟩
  have HI4 := Lib.hid (HI3.out.later hb4)
  clear hb4
  obtain ⟨s0, s1, s2, s3, s4, s5⟩ := cells_s HI4.out.blk
  have f3 := frozen_of_row w4 M 3 _ _ HI4.out.blk
  have tz : decide (0 ≤ (z : Int)) = true := by simp
  go_wp2_with fail
  go_ret
  exact sdid_go (m' := { m with at_ := z }) ((HI4.out.setAt z).with_at z) HCH.out (by omega)

set_option maxRecDepth 100000 in
set_option maxHeartbeats 1000000 in
theorem sstep_none {w0 w : World} {M : Nat} {m : Mst} {gl : List SG} {gv hv cv ev : Value} {hs : List Value} {text : ByteArray} {num lo hi : Int} {kids : List Pat} {A : Option Addr} {c : Nat} {fr nx : Int} {gs : List Goal} {j : Nat} {s : ByteArray} {dv : Value} {op : Int}
    (h : SpecAt w0 w [] M m gl (j : Int) m.at_ gv hv cv ev hs) (hj : gl[j]? = some ⟨0, .mk op text num lo hi kids, .slice A kids.length c, nx, fr⟩) (hch : Chain gl nx gs) (hlen : gl.length ≤ 90000) (hsi : isSimple op) (hok : okWords op text num) (hss : s.size ≤ 120) (hat : m.at_ ≤ s.size) (hz : oneEnd op text num lo hi s m.at_ = none) :
    Calls Try.prog 71 #[.pointer (some ⟨M, 0, none⟩), dv, .string s] w (SDid w0 M m gl.length (.fail)) := by
  have hblk := h.blk
  obtain ⟨g0, gc, rfl⟩ := goal_row h hj
  obtain ⟨hA, hc, rfl, _, _⟩ := h.chs.form
  obtain ⟨cA, cc, rfl, _, _⟩ := h.caps.form
  obtain ⟨eA, ec, rfl, _, _⟩ := h.evs.form
  obtain ⟨s0, s1, s2, s3, s4, s5⟩ := cells_s hblk
  have fs2 := frozen_of_row w M 2 _ _ hblk
  have hMlt := has_lt hblk
  obtain ⟨q0, q1, q2, q3, q4, q5, q6, q7, q8⟩ := goal_cells h hj
  simp only [Pat.op, Pat.text, Pat.num, Pat.lo, Pat.hi] at q1 q2 q3 q4 q5
  have hjl : j < gl.length := (List.getElem?_eq_some_iff.1 hj).1
  have hjl' : (j : Int) < gl.length := by omega
  have hkid : KidsIn w0 (.mk op text num lo hi kids) (.slice A kids.length c) := h.kids _ (List.mem_of_getElem? hj)
  have HKID := Lib.hid hkid
  have HR := Lib.hid (kids_row hkid)
  have HCH := Lib.hid hch
  have HJ := Lib.hid hj
  have HI2 := Lib.hid (h.enter (ogOf ⟨0, .mk op text num lo hi kids, .slice A kids.length c, nx, fr⟩) (opOf (.mk op text num lo hi kids) (.slice A kids.length c)) nx)
  have hbel := h.below.size
  have HSI := Lib.hid hsi
  have HOK := Lib.hid hok
  have HZ := Lib.hid hz
  have t11 : (op == 11) = false := by unfold isSimple at hsi; simp; omega
  have t13 : (op == 13) = false := by unfold isSimple at hsi; simp; omega
  have t14 : (op == 14) = false := by unfold isSimple at hsi; simp; omega
  have t15 : (op == 15) = false := by unfold isSimple at hsi; simp; omega
  have t16 : (op == 16) = false := by unfold isSimple at hsi; simp; omega
  have t17 : (op == 17) = false := by unfold isSimple at hsi; simp; omega
  have t18 : (op == 18) = false := by unfold isSimple at hsi; simp; omega
  have t19 : (op == 19) = false := by unfold isSimple at hsi; simp; omega
  have t20 : (op == 20) = false := by unfold isSimple at hsi; simp; omega
  have t21 : (op == 21) = false := by unfold isSimple at hsi; simp; omega
  clear hsi hok hz
  clear h hblk hkid hch hj
  go_enter Try.func71, Try.ntmps71
  go_wp2_with fail
  clear s0 s1 s2 s3 s4 s5 q0 q1 q2 q3 q4 q5 q6 q7 q8 fs2
  -- region 53: 8 operations, the last [6, 7]
  refine wpU_begin [6, 7] [] (by kernel_rfl) (fun w3 hw3 => ?_)
  have HI3 := Lib.hid (HI2.out.later (drew_later hw3))
  clear hw3
  refine wpU_take 0 (some 278) (v := ?_) rfl rfl (by kernel_rfl) (fun _ _ _ h => h) rfl (fun x hx => ?_) ?_
  rotate_left 1
  · obtain ⟨s0, s1, s2, s3, s4, s5⟩ := cells_s (hx.has HI3.out.blk); obtain ⟨p0, p1, p2, p3, p4, p5⟩ := cells_p (hx.has (HI3.out.foreign _ List.mem_cons_self).blk); obtain ⟨q0, q1, q2, q3, q4, q5, q6, q7, q8⟩ := cells_q (hx.has (HI3.out.foreign _ (List.mem_cons_of_mem _ List.mem_cons_self)).blk); simp only [Pat.op, Pat.text, Pat.num, Pat.lo, Pat.hi] at *; go_simp; first | done | with_reducible rfl | rw [if_neg (by omega)] | rw [if_pos (by omega)]
  simp only [Act.put, nA, nB, nC]
  refine wpU_take 1 (some 279) (v := ?_) rfl rfl (by kernel_rfl) (fun _ _ _ h => h) rfl (fun x hx => ?_) ?_
  rotate_left 1
  · go_simp; first | done | with_reducible rfl | rw [if_neg (by omega)] | rw [if_pos (by omega)]
  simp only [Act.put, nA, nB, nC]
  refine wpU_take 2 (some 280) (v := ?_) rfl rfl (by kernel_rfl) (fun _ _ _ h => h) rfl (fun x hx => ?_) ?_
  rotate_left 1
  · go_simp; first | done | with_reducible rfl | rw [if_neg (by omega)] | rw [if_pos (by omega)]
  simp only [Act.put, nA, nB, nC]
  refine wpU_take 3 (some 281) (v := ?_) rfl rfl (by kernel_rfl) (fun _ _ _ h => h) rfl (fun x hx => ?_) ?_
  rotate_left 1
  · go_simp; first | done | with_reducible rfl | rw [if_neg (by omega)] | rw [if_pos (by omega)]
  simp only [Act.put, nA, nB, nC]
  refine wpU_take 4 (some 282) (v := ?_) rfl rfl (by kernel_rfl) (fun _ _ _ h => h) rfl (fun x hx => ?_) ?_
  rotate_left 1
  · go_simp; first | done | with_reducible rfl | rw [if_neg (by omega)] | rw [if_pos (by omega)]
  simp only [Act.put, nA, nB, nC]
  refine wpU_take 5 (some 283) (v := ?_) rfl rfl (by kernel_rfl) (fun _ _ _ h => h) rfl (fun x hx => ?_) ?_
  rotate_left 1
  · obtain ⟨s0, s1, s2, s3, s4, s5⟩ := cells_s (hx.has HI3.out.blk); obtain ⟨p0, p1, p2, p3, p4, p5⟩ := cells_p (hx.has (HI3.out.foreign _ List.mem_cons_self).blk); obtain ⟨q0, q1, q2, q3, q4, q5, q6, q7, q8⟩ := cells_q (hx.has (HI3.out.foreign _ (List.mem_cons_of_mem _ List.mem_cons_self)).blk); simp only [Pat.op, Pat.text, Pat.num, Pat.lo, Pat.hi] at *; go_simp; first | done | with_reducible rfl | rw [if_neg (by omega)] | rw [if_pos (by omega)]
  simp only [Act.put, nA, nB, nC]
  refine wpU_last [_, _] (by kernel_rfl) rfl rfl ?_
  simp only [List.getElem_toArray, List.getElem_cons_succ, List.getElem_cons_zero]
  go_wp2_with fail
  refine (one_none HSI.out HOK.out hss hat HZ.out).mono ?_
  rintro e w4 ⟨rfl, hb4⟩
  have HI4 := Lib.hid (HI3.out.later hb4)
  clear hb4
  obtain ⟨s0, s1, s2, s3, s4, s5⟩ := cells_s HI4.out.blk
  have f3 := frozen_of_row w4 M 3 _ _ HI4.out.blk
  go_wp2_with fail
  go_ret
  exact sdid_fail (HI4.out.setAt (-1)) (by omega)

end Go.Proofs.Ytndefbecoahfhaa
