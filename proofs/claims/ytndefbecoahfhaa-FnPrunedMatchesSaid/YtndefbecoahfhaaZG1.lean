/- The draws of the laws give well-formed arguments; rows of the same captures are the same. -/
import Derived.Test.YtndefbecoahfhaaZC6
import Derived.Deep.QuietTactic
import Derived.BigQuiet
import Derived.Test.YtndefbecoahfhaaZH1
import Derived.Deep.DeepCutAuto
import Derived.IntWalk
import Derived.ProofKit
import Derived.OpenShut

/- The cursor of the draws: what its functions leave. (under way) -/
namespace Go.Proofs.Ytndefbecoahfhaa
open Go.RowKit

theorem and_255 (x : Int) : 0 ≤ bits .and .i64 x 255 ∧ bits .and .i64 x 255 ≤ 255 := by
  rw [bits_i64]
  have h : (BitVec.ofInt 64 x &&& BitVec.ofInt 64 255).toNat ≤ 255 := by
    rw [BitVec.toNat_and]
    exact Nat.and_le_right
  rw [IntKind.wrap_i64]
  generalize (BitVec.ofInt 64 x &&& BitVec.ofInt 64 255).toNat = n at *
  omega

/-- The bytes of a slice can be read. -/
def BytesIn (w : World) (C : Nat) (A : Option Addr) (n : Nat) : Prop := ∀ j, j < n → ∃ g o b, A = some ⟨g, o, none⟩ ∧ g ≠ C ∧ g < w.heap.size ∧ 0 ≤ b ∧ b < 256 ∧ w.cell? ⟨g, o + j, none⟩ = some (.int .u8 b)
abbrev TCur : TypeId := 108
/-- The cursor lies in block C, over the bytes A. -/
def CurAt (w : World) (C : Nat) (A : Option Addr) (n c : Nat) : Prop := ∃ (i : Nat) (h : Int), i ≤ n ∧ w.heap[C]? = some (.cells #[.slice A n c, .int .i64 i, .int .i64 h] TCur (0, 0))
/-- What a draw leaves: every block but the cursor's is as it was. -/
structure Drawn (C : Nat) (w x : World) : Prop where
  below : Below C w x
  other : ∀ k, k < w.heap.size → k ≠ C → x.heap[k]? = w.heap[k]?
theorem Drawn.refl (C : Nat) (w : World) : Drawn C w w := ⟨Below.refl _ _, fun _ _ _ => rfl⟩
theorem Drawn.trans {C : Nat} {w x y : World} (h1 : Drawn C w x) (h2 : Drawn C x y) : Drawn C w y :=
  ⟨h1.below.trans h2.below, fun k hk hc => (h2.other k (Nat.lt_of_lt_of_le hk h1.below.size) hc).trans (h1.other k hk hc)⟩
theorem Drawn.later {C : Nat} {w x : World} (h : Later w x) (hC : C ≤ w.heap.size) : Drawn C w x := ⟨Below.mono h hC, fun k hk _ => h.block k hk⟩
/-- A draw of a number from lo to hi. -/
def DrewInt (C : Nat) (A : Option Addr) (n c : Nat) (lo hi : Int) (w : World) (e : Ending) (w' : World) : Prop := ∃ x : Int, lo ≤ x ∧ x ≤ hi ∧ e = .returned (.int .i64 x) ∧ CurAt w' C A n c ∧ Drawn C w w'
theorem has_lt' {w : World} {b : Nat} {o : Obj} (h : w.heap[b]? = some o) : b < w.heap.size := (Array.getElem?_eq_some_iff.1 h).1
theorem cells_cur {x : World} {b : Nat} {v0 v1 v2 : Value} (h : x.heap[b]? = some (.cells #[v0, v1, v2] TCur (0, 0))) : x.cell? ⟨b, 0, none⟩ = some v0 ∧ x.cell? ⟨b, 1, none⟩ = some v1 ∧ x.cell? ⟨b, 2, none⟩ = some v2 :=
  ⟨cell_of_row x b 0 _ _ _ h, cell_of_row x b 1 _ _ _ h, cell_of_row x b 2 _ _ _ h⟩
theorem CurAt.drewN {w : World} {C : Nat} {A : Option Addr} {n c : Nat} (h : CurAt w C A n c) (k : Nat) : CurAt (w.drewN k) C A n c := by
  obtain ⟨i, x, hi, hb⟩ := h
  exact ⟨i, x, hi, Later.has (below_drewN' (Below.refl _ _) k) hb⟩
theorem Drawn.drewN {C : Nat} {w x : World} (h : Drawn C w x) (hC : C ≤ x.heap.size) (k : Nat) : Drawn C w (x.drewN k) := h.trans (Drawn.later (below_drewN' (Below.refl _ _) k) hC)
theorem Drawn.set {C : Nat} {w x : World} (h : Drawn C w x) (o : Nat) (v : Value) : Drawn C w (x.setCell ⟨C, o, none⟩ v) :=
  ⟨Below.setCell h.below (Nat.le_refl _) _, fun k hk hc => ((((OnlyAt.refl C x).set o v).2 k hc)).trans (h.other k hk hc)⟩
theorem cur_set2 {w : World} {C : Nat} {v0 v1 v2 : Value} (h : w.heap[C]? = some (.cells #[v0, v1, v2] TCur (0, 0))) (v : Value) : (w.setCell ⟨C, 2, none⟩ v).heap[C]? = some (.cells #[v0, v1, v] TCur (0, 0)) := by
  have h7 := heap_set_own (o := 2) h v
  simpa only [List.setIfInBounds_toArray, List.set_cons_zero, List.set_cons_succ] using h7
theorem cur_set1 {w : World} {C : Nat} {v0 v1 v2 : Value} (h : w.heap[C]? = some (.cells #[v0, v1, v2] TCur (0, 0))) (v : Value) : (w.setCell ⟨C, 1, none⟩ v).heap[C]? = some (.cells #[v0, v, v2] TCur (0, 0)) := by
  have h7 := heap_set_own (o := 1) h v
  simpa only [List.setIfInBounds_toArray, List.set_cons_zero, List.set_cons_succ] using h7
theorem CurAt.blk_drewN {w : World} {C : Nat} {o : Obj} (h : w.heap[C]? = some o) (k : Nat) : (w.drewN k).heap[C]? = some o := Later.has (below_drewN' (Below.refl _ _) k) h
theorem CurAt.lt {w : World} {C : Nat} {A : Option Addr} {n c : Nat} (h : CurAt w C A n c) : C < w.heap.size := by
  obtain ⟨_, _, _, h⟩ := h
  exact has_lt h
theorem Drawn.cell {C : Nat} {w x : World} (h : Drawn C w x) {g : Nat} (o : Nat) (hg : g < w.heap.size) (hc : g ≠ C) : x.cell? ⟨g, o, none⟩ = w.cell? ⟨g, o, none⟩ := by
  unfold World.cell?
  rw [h.other g hg hc]
theorem BytesIn.drawn {w x : World} {C : Nat} {A : Option Addr} {n : Nat} (h : BytesIn w C A n) (hd : Drawn C w x) : BytesIn x C A n := fun j hj => by
  obtain ⟨g, o, b, e, h1, h2, h3, h4, h5⟩ := h j hj
  exact ⟨g, o, b, e, h1, Nat.lt_of_lt_of_le h2 hd.below.size, h3, h4, (hd.cell _ h2 h1).trans h5⟩
theorem CurAt.later {w x : World} {C : Nat} {A : Option Addr} {n c : Nat} (h : CurAt w C A n c) (hl : Later w x) : CurAt x C A n c := by
  obtain ⟨i, y, hi, hb⟩ := h
  exact ⟨i, y, hi, Later.has hl hb⟩
theorem BytesIn.later {w x : World} {C : Nat} {A : Option Addr} {n : Nat} (h : BytesIn w C A n) (hd : Later w x) : BytesIn x C A n := fun j hj => by
  obtain ⟨g, o, b, e, h1, h2, h3, h4, h5⟩ := h j hj
  exact ⟨g, o, b, e, h1, Nat.lt_of_lt_of_le h2 hd.size, h3, h4, (hd.cell _ h2).trans h5⟩
theorem Drawn.has {C : Nat} {w x : World} (h : Drawn C w x) {b : Nat} {o : Obj} (hb : w.heap[b]? = some o) (hc : b ≠ C) : x.heap[b]? = some o := (h.other b (has_lt' hb) hc).trans hb
set_option maxRecDepth 100000 in
set_option maxHeartbeats 1000000 in
theorem l1Byte_any (C : Nat) (A : Option Addr) (n c : Nat) (w : World) (hcur : CurAt w C A n c) (hby : BytesIn w C A n) (hn : n ≤ 1048576) :
    Calls Try.prog 66 #[.pointer (some ⟨C, 0, none⟩)] w (DrewInt C A n c 0 255 w) := by
  obtain ⟨i, h, hi, hblk⟩ := hcur
  obtain ⟨c0, c1, c2⟩ := cells_cur hblk
  obtain ⟨f0, f1, f2, _⟩ := frozen_r hblk
  have HBY := Lib.hid hby
  have HBLK := Lib.hid hblk
  have hC := has_lt hblk
  clear hby hblk
  by_cases hlt : i < n
  · obtain ⟨g, o, b, hA, hgC, hg, hb0, hb1, hcell⟩ := HBY.out i hlt
    subst hA
    have t1 : decide ((i : Int) < n) = true := by simp; omega
    have t2 : decide (i < n) = true := by simp; omega
    have t3 : wrap64 ((i : Int) + 1) = ((i + 1 : Nat) : Int) := by simp [wrap64]; omega
    have t4 : (g == C) = false := by simpa using hgC
    have t5 : (C == g) = false := by simpa using Ne.symm hgC
    have t6 : (n : Int) > i := by omega
    go_enter Try.func66, Try.ntmps66
    go_wp2_with fail
    go_quiet (fail)
    go_wp2_with fail
    go_quiet (fail)
    go_wp2_with fail
    go_quiet (fail)
    go_wp2_with fail
    go_ret
    generalize hz : wrap64 (bits BinOp.and IntKind.i64 (bits BinOp.xor IntKind.i64 (wrap64 (wrap64 (h * 6364136223846793005) + 1442695040888963407) / 8589934592) (wrap64 (wrap64 (h * 6364136223846793005) + 1442695040888963407) / 35184372088832)) 255 + b) = z
    have hx := and_255 z
    refine ⟨_, hx.1, hx.2, rfl, ⟨i + 1, _, hlt, cur_set1 (CurAt.blk_drewN (cur_set2 HBLK.out _) _) _⟩, (Drawn.drewN ((Drawn.refl C w).set 2 _) (by simp; omega) _).set 1 _⟩
  · have t1 : decide ((i : Int) < n) = false := by simp; omega
    have t2 : decide (i < n) = false := by simp; omega
    go_enter Try.func66, Try.ntmps66
    go_wp2_with fail
    go_quiet (fail)
    go_wp2_with fail
    go_quiet (fail)
    go_wp2_with fail
    go_ret
    have hx := and_255 (bits BinOp.xor IntKind.i64 (wrap64 (wrap64 (h * 6364136223846793005) + 1442695040888963407) / 8589934592) (wrap64 (wrap64 (h * 6364136223846793005) + 1442695040888963407) / 35184372088832))
    exact ⟨_, hx.1, hx.2, rfl, (CurAt.drewN ⟨i, _, hi, cur_set2 HBLK.out _⟩ _).drewN _, (Drawn.drewN ((Drawn.refl C w).set 2 _) (by simp; omega) _).drewN (by simp; omega) _⟩

section
variable (C : Nat) (A : Option Addr) (n c : Nat) (w : World) (hcur : CurAt w C A n c) (hby : BytesIn w C A n) (hn : n ≤ 1048576)
include hcur hby hn
set_option maxRecDepth 100000 in
set_option maxHeartbeats 1000000 in
theorem l1Below_any (m : Nat) (hm : m ≤ 256) : Calls Try.prog 35 #[.pointer (some ⟨C, 0, none⟩), .int .i64 m] w (DrewInt C A n c 0 ((m - 1 : Nat) : Int) w) := by
  have HCUR := Lib.hid hcur
  have HBY := Lib.hid hby
  clear hcur hby
  by_cases h0 : m = 0
  · subst h0
    go_enter Try.func35, Try.ntmps35
    go_wp2_with fail
    go_ret
    exact ⟨0, by simp, by simp, rfl, HCUR.out, Drawn.refl _ _⟩
  · have t1 : decide ((m : Int) ≤ 0) = false := by simp; omega
    have t2 : decide ((m : Int) ≤ 256) = true := by simp; omega
    have t3 : ((m : Int) == 0) = false := by simp; omega
    have t4 : (m : Int) ≠ 0 := by omega
    go_enter Try.func35, Try.ntmps35
    go_wp2_with fail
    refine (l1Byte_any C A n c w HCUR.out HBY.out hn).mono ?_
    rintro e w2 ⟨x, hx0, hx1, rfl, hc2, hd2⟩
    have HC2 := Lib.hid hc2
    have HD2 := Lib.hid hd2
    clear hc2 hd2
    go_wp2_with fail
    go_ret
    have hy0 := Int.emod_nonneg x t4
    have hy1 := Int.emod_lt_of_pos x (show (0 : Int) < m by omega)
    exact ⟨x % m, hy0, by omega, rfl, HC2.out, HD2.out⟩
theorem l1Once_any (m : Nat) (hm : m ≤ 256) : Calls Try.prog 64 #[.pointer (some ⟨C, 0, none⟩), .int .i64 m] w (fun e w' => ∃ b, e = .returned (.bool b) ∧ CurAt w' C A n c ∧ Drawn C w w') := by
  have HCUR := Lib.hid hcur
  have HBY := Lib.hid hby
  clear hcur hby
  go_enter Try.func64, Try.ntmps64
  go_wp2_with fail
  refine (l1Below_any C A n c w HCUR.out HBY.out hn m hm).mono ?_
  rintro e w2 ⟨x, hx0, hx1, rfl, hc2, hd2⟩
  have HC2 := Lib.hid hc2
  have HD2 := Lib.hid hd2
  clear hc2 hd2
  go_wp2_with fail
  all_goals (go_ret; exact ⟨_, rfl, HC2.out, HD2.out⟩)
/-- A member of a row of numbers. -/
theorem l1PickInt_any (g k cap : Nat) (P : Int → Prop) (hk0 : 0 < k) (hk : k ≤ 256) (hg : g < w.heap.size) (hgC : g ≠ C) (hrow : ∀ j, j < k → ∃ v, P v ∧ w.cell? ⟨g, j, none⟩ = some (.int .i64 v)) :
    Calls Try.prog 36 #[.pointer (some ⟨C, 0, none⟩), .slice (some ⟨g, 0, none⟩) k cap] w (fun e w' => ∃ v, P v ∧ e = .returned (.int .i64 v) ∧ CurAt w' C A n c ∧ Drawn C w w') := by
  have HCUR := Lib.hid hcur
  have HBY := Lib.hid hby
  have HROW := Lib.hid hrow
  clear hcur hby hrow
  go_enter Try.func36, Try.ntmps36
  go_wp2_with fail
  refine (l1Below_any C A n c w HCUR.out HBY.out hn k hk).mono ?_
  rintro e w2 ⟨x, hx0, hx1, rfl, hc2, hd2⟩
  obtain ⟨j, rfl⟩ : ∃ j : Nat, x = j := ⟨x.toNat, by omega⟩
  have hj : j < k := by omega
  obtain ⟨v, hv, hcell⟩ := HROW.out j hj
  have hcell2 := (hd2.cell j hg hgC).trans hcell
  have hg2 : g < w2.heap.size := Nat.lt_of_lt_of_le hg hd2.below.size
  have HC2 := Lib.hid hc2
  have HD2 := Lib.hid hd2
  have HV := Lib.hid hv
  clear hc2 hd2 hcell hv
  go_wp2_with fail
  go_ret
  exact ⟨v, HV.out, rfl, HC2.out, HD2.out⟩
/-- A member of a row of texts. -/
theorem l1Pick_any (g k cap : Nat) (P : ByteArray → Prop) (hk0 : 0 < k) (hk : k ≤ 256) (hg : g < w.heap.size) (hgC : g ≠ C) (hrow : ∀ j, j < k → ∃ v, P v ∧ w.cell? ⟨g, j, none⟩ = some (.string v)) :
    Calls Try.prog 65 #[.pointer (some ⟨C, 0, none⟩), .slice (some ⟨g, 0, none⟩) k cap] w (fun e w' => ∃ v, P v ∧ e = .returned (.string v) ∧ CurAt w' C A n c ∧ Drawn C w w') := by
  have HCUR := Lib.hid hcur
  have HBY := Lib.hid hby
  have HROW := Lib.hid hrow
  clear hcur hby hrow
  go_enter Try.func65, Try.ntmps65
  go_wp2_with fail
  refine (l1Below_any C A n c w HCUR.out HBY.out hn k hk).mono ?_
  rintro e w2 ⟨x, hx0, hx1, rfl, hc2, hd2⟩
  obtain ⟨j, rfl⟩ : ∃ j : Nat, x = j := ⟨x.toNat, by omega⟩
  have hj : j < k := by omega
  obtain ⟨v, hv, hcell⟩ := HROW.out j hj
  have hcell2 := (hd2.cell j hg hgC).trans hcell
  have hg2 : g < w2.heap.size := Nat.lt_of_lt_of_le hg hd2.below.size
  have HC2 := Lib.hid hc2
  have HD2 := Lib.hid hd2
  have HV := Lib.hid hv
  clear hc2 hd2 hcell hv
  go_wp2_with fail
  go_ret
  exact ⟨v, HV.out, rfl, HC2.out, HD2.out⟩
/-- l17Part gives a short text. -/
theorem l17Part_any : Calls Try.prog 88 #[.pointer (some ⟨C, 0, none⟩)] w (fun e w' => ∃ v : ByteArray, v.size ≤ 3 ∧ e = .returned (.string v) ∧ CurAt w' C A n c ∧ Drawn C w w') := by
  have HCUR := Lib.hid hcur
  have HBY := Lib.hid hby
  have hlt := hcur.lt
  clear hcur hby
  go_enter Try.func88, Try.ntmps88
  go_wp2_with fail
  refine (l1Pick_any C A n c _ (HCUR.out.later ((Later.refl _).alloc _)) (HBY.out.later ((Later.refl _).alloc _)) hn w.heap.size 8 8 (fun v => v.size ≤ 3) (by omega) (by omega) (by simp) (by omega) (fun j hj => ?_)).mono ?_
  · have hr := fun j => cell_of_row _ w.heap.size j _ _ _ (heap_alloc_new w (.cells #[.string ⟨#[]⟩, .string ⟨#[97]⟩, .string ⟨#[97, 110]⟩, .string ⟨#[110, 97]⟩, .string ⟨#[97, 110, 97]⟩, .string ⟨#[98]⟩, .string ⟨#[44]⟩, .string ⟨#[120]⟩] 9))
    rcases j with _ | _ | _ | _ | _ | _ | _ | _ | j
    all_goals first | omega | exact ⟨_, by decide, hr _⟩
  · rintro e w2 ⟨v, hv, rfl, hc2, hd2⟩
    have HC2 := Lib.hid hc2
    have HD2 := Lib.hid ((Drawn.later ((Later.refl _).alloc _) (Nat.le_of_lt hlt)).trans hd2)
    clear hc2 hd2
    go_wp2_with fail
    go_ret
    exact ⟨v, hv, rfl, HC2.out, HD2.out⟩
end
/-- How great what is drawn may become. -/
theorem l1Size_any (A : Option Addr) (n c : Nat) (hn : n ≤ 1048576) (w : World) : Calls Try.prog 63 #[.slice A n c, .int .i64 4] w (fun e w' => ∃ m : Nat, 2 ≤ m ∧ m ≤ 4 ∧ e = .returned (.int .i64 m) ∧ w' = w) := by
  by_cases h : 60 ≤ n
  · have t3 : decide (4 < 2 + (n : Int) / 20) = true := by simp; omega
    go_enter Try.func63, Try.ntmps63
    go_wp2_with fail
    go_ret
    exact ⟨4, by omega, by omega, rfl, rfl⟩
  · have t3 : decide (4 < 2 + (n : Int) / 20) = false := by simp; omega
    go_enter Try.func63, Try.ntmps63
    go_wp2_with fail
    go_ret
    exact ⟨2 + n / 20, by omega, by omega, rfl, rfl⟩
theorem big_any (A : Option Addr) (n c : Nat) (w : World) : Calls Try.prog 9 #[.slice A n c] w (fun e w' => e = .returned (.bool (decide (1048576 < n))) ∧ w' = w) := by
  have t1 : decide ((1048576 : Int) < n) = decide (1048576 < n) := by simp; omega
  go_enter Try.func9, Try.ntmps9
  go_wp2_with fail
  all_goals (go_ret; exact ⟨rfl, rfl⟩)
end Go.Proofs.Ytndefbecoahfhaa

/- Rows of patterns that a call has made, whose blocks satisfy a predicate. No walk in sight. -/
namespace Go.Proofs.Ytndefbecoahfhaa
open Go.RowKit

mutual
/-- The value kv is a slice of p's kids; each block of it satisfies F. -/
def KidsF (F : Nat → Prop) (w : World) : Pat → Value → Prop
  | .mk _ _ _ _ _ kids, kv => ∃ A c, kv = .slice A kids.length c ∧ kids.length ≤ c ∧ RowF F w A 0 kids
def RowF (F : Nat → Prop) (w : World) (A : Option Addr) : Nat → List Pat → Prop
  | _, [] => True
  | j, p :: ps => (∃ g kv, A = some ⟨g, 0, none⟩ ∧ F g ∧ g < w.heap.size ∧ ElemAt w g j p kv ∧ KidsF F w p kv) ∧ RowF F w A (j + 1) ps
end
mutual
theorem KidsF.in_ {F : Nat → Prop} {w : World} : ∀ (p : Pat) (kv : Value), KidsF F w p kv → KidsIn w p kv
  | .mk _ _ _ _ _ kids, kv, h => by
    simp only [KidsF] at h
    simp only [KidsIn]
    obtain ⟨A, c, e, hc, hr⟩ := h
    exact ⟨A, c, e, hc, RowF.in_ A 0 kids hr⟩
theorem RowF.in_ {F : Nat → Prop} {w : World} (A : Option Addr) : ∀ (j : Nat) (ps : List Pat), RowF F w A j ps → RowIn w A j ps
  | _, [], _ => by simp only [RowIn]
  | j, p :: ps, h => by
    simp only [RowF] at h
    simp only [RowIn]
    obtain ⟨⟨g, kv, e, _, hg, he, hk⟩, hr⟩ := h
    exact ⟨⟨g, kv, e, hg, he, KidsF.in_ p kv hk⟩, RowF.in_ A (j + 1) ps hr⟩
end
theorem ElemAt.same {w x : World} {g j : Nat} {p : Pat} {kv : Value} (h : ElemAt w g j p kv) (hs : x.heap[g]? = w.heap[g]?) : ElemAt x g j p kv := by
  obtain ⟨h0, h1, h2, h3, h4, h5⟩ := h
  have hc : ∀ o, x.cell? ⟨g, o, none⟩ = w.cell? ⟨g, o, none⟩ := fun o => by
    unfold World.cell?
    rw [hs]
  exact ⟨(hc _).trans h0, (hc _).trans h1, (hc _).trans h2, (hc _).trans h3, (hc _).trans h4, (hc _).trans h5⟩
mutual
theorem KidsF.keep {F G : Nat → Prop} {w x : World} (hk : ∀ k, F k → k < w.heap.size → x.heap[k]? = w.heap[k]?) (hz : w.heap.size ≤ x.heap.size) (hi : ∀ k, F k → k < w.heap.size → G k) : ∀ (p : Pat) (kv : Value), KidsF F w p kv → KidsF G x p kv
  | .mk _ _ _ _ _ kids, kv, h => by
    simp only [KidsF] at h ⊢
    obtain ⟨A, c, e, hc, hr⟩ := h
    exact ⟨A, c, e, hc, RowF.keep hk hz hi A 0 kids hr⟩
theorem RowF.keep {F G : Nat → Prop} {w x : World} (hk : ∀ k, F k → k < w.heap.size → x.heap[k]? = w.heap[k]?) (hz : w.heap.size ≤ x.heap.size) (hi : ∀ k, F k → k < w.heap.size → G k) (A : Option Addr) : ∀ (j : Nat) (ps : List Pat), RowF F w A j ps → RowF G x A j ps
  | _, [], _ => by simp only [RowF]
  | j, p :: ps, h => by
    simp only [RowF] at h ⊢
    obtain ⟨⟨g, kv, e, hf, hg, he, hq⟩, hr⟩ := h
    exact ⟨⟨g, kv, e, hi g hf hg, Nat.lt_of_lt_of_le hg hz, he.same (hk g hf hg), KidsF.keep hk hz hi p kv hq⟩, RowF.keep hk hz hi A (j + 1) ps hr⟩
end
/-- The cells of a row of patterns. -/
def ElemsF (F : Nat → Prop) (w : World) : List Pat → List Value → Prop
  | [], xs => xs = []
  | p :: ps, xs => ∃ kv ys, xs = .int .i64 p.op :: .string p.text :: .int .i64 p.num :: .int .i64 p.lo :: .int .i64 p.hi :: kv :: ys ∧ KidsF F w p kv ∧ ElemsF F w ps ys
theorem ElemsF.keep {F G : Nat → Prop} {w x : World} (hk : ∀ k, F k → k < w.heap.size → x.heap[k]? = w.heap[k]?) (hz : w.heap.size ≤ x.heap.size) (hi : ∀ k, F k → k < w.heap.size → G k) : ∀ (ps : List Pat) (xs : List Value), ElemsF F w ps xs → ElemsF G x ps xs
  | [], _, h => h
  | p :: ps, xs, h => by
    obtain ⟨kv, ys, e, h1, h2⟩ := h
    exact ⟨kv, ys, e, KidsF.keep hk hz hi p kv h1, ElemsF.keep hk hz hi ps ys h2⟩
theorem ElemsF.snoc {F : Nat → Prop} {w : World} {p : Pat} {kv : Value} (hq : KidsF F w p kv) : ∀ (ps : List Pat) (xs : List Value), ElemsF F w ps xs → ElemsF F w (ps ++ [p]) (xs ++ [.int .i64 p.op, .string p.text, .int .i64 p.num, .int .i64 p.lo, .int .i64 p.hi, kv])
  | [], xs, h => by
    simp only [ElemsF] at h
    subst h
    exact ⟨kv, [], rfl, hq, rfl⟩
  | q :: ps, xs, h => by
    obtain ⟨kv', ys, rfl, h1, h2⟩ := h
    exact ⟨kv', _, rfl, h1, ElemsF.snoc hq ps ys h2⟩
theorem rowF_of {F : Nat → Prop} {w : World} {g : Nat} (hF : F g) (hg : g < w.heap.size) : ∀ (ps : List Pat) (xs : List Value) (j : Nat), (∀ i u, xs[i]? = some u → w.cell? ⟨g, j * 6 + i, none⟩ = some u) → ElemsF F w ps xs → RowF F w (some ⟨g, 0, none⟩) j ps
  | [], _, _, _, _ => by simp only [RowF]
  | p :: ps, xs, j, hc, h => by
    obtain ⟨kv, ys, rfl, h1, h2⟩ := h
    simp only [RowF]
    refine ⟨⟨g, kv, rfl, hF, hg, ⟨hc 0 _ rfl, hc 1 _ rfl, hc 2 _ rfl, hc 3 _ rfl, hc 4 _ rfl, hc 5 _ rfl⟩, h1⟩, rowF_of hF hg ps ys (j + 1) (fun i u hu => ?_) h2⟩
    have := hc (i + 6) u (by simpa using hu)
    rwa [show j * 6 + (i + 6) = (j + 1) * 6 + i by omega] at this
/-- The row that was made. -/
theorem rowF_mk {F : Nat → Prop} {w : World} {base : Nat} {v : Value} {ps : List Pat} {xs : List Value} (h : HasRow w base TP 6 v ps.length xs) (he : ElemsF F w ps xs) (hF : ∀ k, F k → base ≤ k) :
    ∃ A c, v = .slice A ps.length c ∧ ps.length ≤ c ∧ RowF (fun k => base ≤ k) w A 0 ps := by
  have he' := ElemsF.keep (G := fun k => base ≤ k) (fun k _ _ => rfl) (Nat.le_refl _) (fun k hk _ => hF k hk) ps xs he
  cases ps with
  | nil =>
    obtain ⟨A, c, rfl, hc, _⟩ := h.form
    exact ⟨A, c, rfl, hc, by simp only [RowF]⟩
  | cons p ps =>
    obtain ⟨g, c, rfl, hb, hc, _⟩ := h.block_ (by simp)
    have hlt := (h.lt g rfl).2.1
    exact ⟨_, c, rfl, hc, rowF_of hb hlt _ xs 0 (fun i u hu => by rw [Nat.zero_mul, Nat.zero_add]; exact h.cells rfl i u hu) he'⟩
theorem kidsF_nil (F : Nat → Prop) (w : World) (op : Int) (text : ByteArray) (num lo hi : Int) : KidsF F w (.mk op text num lo hi []) (.slice none 0 0) := by
  simp only [KidsF]
  exact ⟨none, 0, rfl, Nat.le_refl _, by simp only [RowF]⟩
theorem KidsF.form {F : Nat → Prop} {w : World} {p : Pat} {kv : Value} (h : KidsF F w p kv) : ∃ A c, kv = .slice A p.kids.length c ∧ p.kids.length ≤ c ∧ RowF F w A 0 p.kids := by
  obtain ⟨op, text, num, lo, hi, kids⟩ := p
  simp only [KidsF] at h
  exact h
end Go.Proofs.Ytndefbecoahfhaa

/- spec.NewCset of a text of small bytes gives some set. Printed by gen_drcset.py. -/
namespace Go.Proofs.Ytndefbecoahfhaa
open Go.RowKit

def SomeCset (w : World) (e : Ending) (w' : World) : Prop := ∃ lo hi, e = .returned (csetV lo hi) ∧ Below w.heap.size w w'
def SomeNew (w : World) (e : Ending) (w' : World) : Prop := ∃ lo hi, e = .returned (.tuple #[csetV lo hi, .bool true]) ∧ Below w.heap.size w w'
set_option maxHeartbeats 400000 in
theorem l2Add_all (x y b : Int) (w : World) (h0 : 0 ≤ b) (h1 : b < 128) :
    Calls Try.prog 96 #[csetV x y, .int .u8 b] w (SomeCset w) := by
  by_cases h2 : b < 64
  · have t1 : decide (63 < b) = false := by simp; omega
    go_enter Try.func96, Try.ntmps96
    go_wp2_with fail
    exact bodyPost_ret (v := csetV (bits .or .i64 x (wrap64 (2 ^ b.toNat))) y) (by simp [results, Try.results96, go_sem]) rfl ⟨_, _, rfl, ((Below.refl _ _).alloc (Nat.le_refl _) _).alloc (by simp) _⟩
  · have t1 : decide (63 < b) = true := by simp; omega
    go_enter Try.func96, Try.ntmps96
    go_wp2_with fail
    exact bodyPost_ret (v := csetV x (bits .or .i64 y (wrap64 (2 ^ (b - 64).toNat)))) (by simp [results, Try.results96, go_sem]) rfl ⟨_, _, rfl, ((Below.refl _ _).alloc (Nat.le_refl _) _).alloc (by simp) _⟩

def NewSt (w wr : World) : Prop :=
  ∃ lo hi : Int, wr.heap[w.heap.size + 1]? = some (.cells #[.int .i64 lo, .int .i64 hi] TCs (0, 0)) ∧ wr.heap[w.heap.size]? = some (.cells #[.int .i64 0, .int .i64 0] TCs (0, 0)) ∧ Below w.heap.size w wr

set_option maxRecDepth 100000 in
set_option maxHeartbeats 1000000 in
theorem specNew_all (s : ByteArray) (w : World) (hs : ∀ j (h : j < s.size), (s[j].toNat : Int) < 128) (hsz : s.size ≤ 1000) :
    Calls Try.prog 84 #[.string s] w (SomeNew w) := by
  have HS := Lib.hid hs
  clear hs
  go_enter Try.func84, Try.ntmps84
  go_wp2_with fail
  go_loopw [5] (fun i wr => ∃ j : Nat, i = .int .i64 j ∧ j ≤ s.size ∧ NewSt w wr) (fun i _ => s.size - (intOf i).toNat)
  case atStart => exact ⟨0, rfl, by omega, 0, 0, heap_alloc_two _ _ _, Later.has ((Later.refl _).alloc _) (heap_alloc_new w _), ((Below.refl _ _).alloc (Nat.le_refl _) _).alloc (by simp) _⟩
  case round =>
    obtain ⟨j, rfl, hj, lo, hi, hbb, hba, hbel⟩ := hrel
    by_cases hlt : j < s.size
    · have hb := HS.out j hlt
      have hb0 : (0 : Int) ≤ s[j].toNat := by omega
      have t1 : decide ((j : Int) < s.size) = true := by simp; omega
      have t2 : decide (127 < (s[j].toNat : Int)) = false := by simp; omega
      have HB := Lib.hid hbb
      have HA := Lib.hid hba
      have HL := Lib.hid (show Later w wr from hbel)
      clear hbb hba hbel
      go_wp2_with fail
      -- region 7: 6 operations, the last [4, 5]
      refine wpU_begin [4, 5] [] (by kernel_rfl) (fun w1 hw1 => ?_)
      have hl1 := drew_later hw1
      have HC := Lib.hid (hl1.has HB.out)
      have HA1 := Lib.hid (hl1.has HA.out)
      have HL1 := Lib.hid (HL.out.trans hl1)
      clear hw1 hl1 HB HA HL
      refine wpU_take 0 (some 18) (v := ?_) rfl rfl (by kernel_rfl) (fun _ _ _ h => h) rfl (fun x hx => ?_) ?_
      rotate_left 1
      · obtain ⟨c0, c1⟩ := cells_cs (hx.has HC.out); go_simp; first | done | with_reducible rfl | rw [if_neg (by omega)] | rw [if_pos (by omega)]
      simp only [Act.put, List.setIfInBounds_toArray, List.set_cons_zero, List.set_cons_succ]
      refine wpU_take 1 (some 19) (v := ?_) rfl rfl (by kernel_rfl) (fun _ _ _ h => h) rfl (fun x hx => ?_) ?_
      rotate_left 1
      · go_simp; first | done | with_reducible rfl | rw [if_neg (by omega)] | rw [if_pos (by omega)]
      simp only [Act.put, List.setIfInBounds_toArray, List.set_cons_zero, List.set_cons_succ]
      refine wpU_take 2 (some 20) (v := ?_) rfl rfl (by kernel_rfl) (fun _ _ _ h => h) rfl (fun x hx => ?_) ?_
      rotate_left 1
      · go_simp; first | done | with_reducible rfl | rw [if_neg (by omega)] | rw [if_pos (by omega)]
      simp only [Act.put, List.setIfInBounds_toArray, List.set_cons_zero, List.set_cons_succ]
      refine wpU_take 3 (some 21) (v := ?_) rfl rfl (by kernel_rfl) (fun _ _ _ h => h) rfl (fun x hx => ?_) ?_
      rotate_left 1
      · go_simp; first | done | with_reducible rfl | rw [if_neg (by omega)] | rw [if_pos (by omega)]
      simp only [Act.put, List.setIfInBounds_toArray, List.set_cons_zero, List.set_cons_succ]
      refine wpU_last [_, _] (by kernel_rfl) rfl rfl ?_
      simp only [List.getElem_toArray, List.getElem_cons_succ, List.getElem_cons_zero]
      go_wp2_with fail
      refine (l2Add_all _ _ _ _ (by omega) (by omega)).mono ?_
      rintro e w2 ⟨lo2, hi2, rfl, hb2⟩
      have HC2 := Lib.hid (Later.has hb2 HC.out)
      have HA2 := Lib.hid (Later.has hb2 HA1.out)
      have HL2 := Lib.hid (HL1.out.trans hb2)
      clear hb2
      obtain ⟨c0, c1⟩ := cells_cs HC2.out
      obtain ⟨f0, f1⟩ := frozen_cs HC2.out
      go_wp2_with fail
      clear c0 c1 f0 f1
      go_roundw
      case rel => exact ⟨j + 1, by simp, by omega, _, _, stored_cs HC2.out _ _, (set_else (by omega)).trans ((set_else (by omega)).trans HA2.out), (Below.setCell (Below.setCell HL2.out (Nat.le_succ _) _) (Nat.le_succ _) _)⟩
      case measure => simp [intOf]; omega
    · have t1 : decide ((j : Int) < s.size) = false := by simp; omega
      obtain ⟨c0, c1⟩ := cells_cs hbb
      obtain ⟨d0, d1⟩ := cells_cs hba
      obtain ⟨f0, f1⟩ := frozen_cs hba
      have hB := has_lt hba
      go_wp2_with fail
      exact bodyPost_ret (v := .tuple #[csetV lo hi, .bool true]) (by simp [results, Try.results84, go_sem, c0, c1, d0, d1, hB, f0, f1]) rfl ⟨_, _, rfl, (hbel.setCell (Nat.le_refl _) _).setCell (Nat.le_refl _) _⟩

end Go.Proofs.Ytndefbecoahfhaa

/- spec.l18Tree draws a well-formed pattern. Printed by gen_drtree.py. -/
namespace Go.Proofs.Ytndefbecoahfhaa
open Go.RowKit

abbrev patCells (op : Int) (text : ByteArray) (num lo hi : Int) (kv : Value) : Obj := .cells #[.int .i64 op, .string text, .int .i64 num, .int .i64 lo, .int .i64 hi, kv] TP (0, 0)
theorem set6 {w : World} {B : Nat} {v0 v1 v2 v3 v4 v5 : Value} {t : TypeId} (h : w.heap[B]? = some (.cells #[v0, v1, v2, v3, v4, v5] t (0, 0))) (v : Value) :
    (w.setCell ⟨B, 0, none⟩ v).heap[B]? = some (.cells #[v, v1, v2, v3, v4, v5] t (0, 0)) ∧ (w.setCell ⟨B, 1, none⟩ v).heap[B]? = some (.cells #[v0, v, v2, v3, v4, v5] t (0, 0)) ∧
    (w.setCell ⟨B, 2, none⟩ v).heap[B]? = some (.cells #[v0, v1, v, v3, v4, v5] t (0, 0)) ∧ (w.setCell ⟨B, 3, none⟩ v).heap[B]? = some (.cells #[v0, v1, v2, v, v4, v5] t (0, 0)) ∧
    (w.setCell ⟨B, 4, none⟩ v).heap[B]? = some (.cells #[v0, v1, v2, v3, v, v5] t (0, 0)) ∧ (w.setCell ⟨B, 5, none⟩ v).heap[B]? = some (.cells #[v0, v1, v2, v3, v4, v] t (0, 0)) := by
  have g := fun o => heap_set_own (o := o) h v
  refine ⟨?_, ?_, ?_, ?_, ?_, ?_⟩
  · simpa only [List.setIfInBounds_toArray, List.set_cons_zero, List.set_cons_succ] using g 0
  · simpa only [List.setIfInBounds_toArray, List.set_cons_zero, List.set_cons_succ] using g 1
  · simpa only [List.setIfInBounds_toArray, List.set_cons_zero, List.set_cons_succ] using g 2
  · simpa only [List.setIfInBounds_toArray, List.set_cons_zero, List.set_cons_succ] using g 3
  · simpa only [List.setIfInBounds_toArray, List.set_cons_zero, List.set_cons_succ] using g 4
  · simpa only [List.setIfInBounds_toArray, List.set_cons_zero, List.set_cons_succ] using g 5
theorem cells_new (w : World) (cs : List Value) (t : TypeId) : ∀ j u, cs[j]? = some u → (w.alloc (.cells cs.toArray t)).cell? ((⟨w.heap.size, 0, none⟩ : Addr).add j) = some u := by
  intro j u h
  rw [show (⟨w.heap.size, 0, none⟩ : Addr).add j = ⟨w.heap.size, j, none⟩ by unfold Addr.add; split <;> simp_all, cell_of_row _ _ j _ _ _ (heap_alloc_new w _)]
  simpa using h
theorem infoPat : (Try.prog.info? TP).map (fun i => (i.zero, i.size, i.bytes)) = some (some (.agg #[.int .i64 0, .string ⟨#[]⟩, .int .i64 0, .int .i64 0, .int .i64 0, .slice none 0 0]), 6, 72) := by kernel_rfl
theorem frozen_p {x : World} {b : Nat} {cs : Array Value} {t : TypeId} (h : x.heap[b]? = some (.cells cs t (0, 0))) :
    x.frozen? ⟨b, 0, none⟩ = false ∧ x.frozen? ⟨b, 1, none⟩ = false ∧ x.frozen? ⟨b, 2, none⟩ = false ∧ x.frozen? ⟨b, 3, none⟩ = false ∧ x.frozen? ⟨b, 4, none⟩ = false ∧ x.frozen? ⟨b, 5, none⟩ = false :=
  have h4 := frozen_r h
  ⟨h4.1, h4.2.1, h4.2.2.1, by simp [World.frozen?, h], by simp [World.frozen?, h], by simp [World.frozen?, h]⟩
theorem set6_other {wr : World} {R k : Nat} (hk : k ≠ R) (v0 v1 v2 v3 v4 v5 : Value) : ((((((wr.setCell ⟨R, 0, none⟩ v0).setCell ⟨R, 1, none⟩ v1).setCell ⟨R, 2, none⟩ v2).setCell ⟨R, 3, none⟩ v3).setCell ⟨R, 4, none⟩ v4).setCell ⟨R, 5, none⟩ v5).heap[k]? = wr.heap[k]? := by
  rw [Below.heap_setCell _ _ _ _ hk, Below.heap_setCell _ _ _ _ hk, Below.heap_setCell _ _ _ _ hk, Below.heap_setCell _ _ _ _ hk, Below.heap_setCell _ _ _ _ hk, Below.heap_setCell _ _ _ _ hk]
theorem Drawn.own {C : Nat} {w x : World} (h : Drawn C w x) (hC : C < w.heap.size) {B : Nat} (hB : w.heap.size ≤ B) (o : Nat) (v : Value) : Drawn C w (x.setCell ⟨B, o, none⟩ v) :=
  ⟨Below.setCell h.below (by simp; omega) _, fun k hk hc => (Below.heap_setCell _ _ _ _ (by simp; omega)).trans (h.other k hk hc)⟩
theorem CurAt.own {x : World} {C : Nat} {A : Option Addr} {n c : Nat} (h : CurAt x C A n c) {B : Nat} (hB : B ≠ C) (o : Nat) (v : Value) : CurAt (x.setCell ⟨B, o, none⟩ v) C A n c := by
  obtain ⟨i, y, hi, hb⟩ := h
  exact ⟨i, y, hi, (Below.heap_setCell _ _ _ _ (by simp; omega)).trans hb⟩

/-- The pattern under construction, in block B; the result's block R. -/
structure TrSt (K : Int → Prop) (C : Nat) (A : Option Addr) (n c : Nat) (w : World) (R B : Nat) (op : Int) (text : ByteArray) (num lo hi : Int) (kv : Value) (wr : World) : Prop where
  ok : K op
  small : text.size ≤ 3
  blk : wr.heap[B]? = some (patCells op text num lo hi kv)
  res : wr.heap[R]? = some (patCells 0 ⟨#[]⟩ 0 0 0 (.slice none 0 0))
  cur : CurAt wr C A n c
  drawn : Drawn C w wr
  hC : C < w.heap.size
  hR : w.heap.size ≤ R
  hRB : R < B
def TrIn (K : Int → Prop) (C : Nat) (A : Option Addr) (n c : Nat) (w : World) (R B : Nat) (wr : World) : Prop := ∃ op text num lo hi, TrSt K C A n c w R B op text num lo hi (.slice none 0 0) wr
section
variable {K K' : Int → Prop} {C : Nat} {A : Option Addr} {n c : Nat} {w : World} {R B : Nat} {op : Int} {text : ByteArray} {num lo hi : Int} {kv : Value} {wr x : World}
theorem TrSt.in_ (h : TrSt K C A n c w R B op text num lo hi (.slice none 0 0) wr) : TrIn K C A n c w R B wr := ⟨_, _, _, _, _, h⟩
theorem TrSt.step (h : TrSt K C A n c w R B op text num lo hi kv wr) (hd : Drawn C wr x) (hc : CurAt x C A n c) : TrSt K C A n c w R B op text num lo hi kv x :=
  ⟨h.ok, h.small, hd.has h.blk (by have := h.hC; have := h.hR; have := h.hRB; omega), hd.has h.res (by have := h.hC; have := h.hR; omega), hc, h.drawn.trans hd, h.hC, h.hR, h.hRB⟩
theorem TrSt.weak (h : TrSt K C A n c w R B op text num lo hi kv wr) (hk : K' op) : TrSt K' C A n c w R B op text num lo hi kv wr := { h with ok := hk }
theorem TrSt.op_ (h : TrSt K C A n c w R B op text num lo hi kv wr) {v : Int} (hk : K' v) : TrSt K' C A n c w R B v text num lo hi kv (wr.setCell ⟨B, 0, none⟩ (.int .i64 v)) :=
  ⟨hk, h.small, (set6 h.blk _).1, (Below.heap_setCell _ _ _ _ (by have := h.hRB; simp; omega)).trans h.res, h.cur.own (by have := h.hC; have := h.hR; have := h.hRB; omega) _ _, h.drawn.own h.hC (by have := h.hR; have := h.hRB; omega) _ _, h.hC, h.hR, h.hRB⟩
theorem TrSt.text_ (h : TrSt K C A n c w R B op text num lo hi kv wr) {v : ByteArray} (hv : v.size ≤ 3) : TrSt K C A n c w R B op v num lo hi kv (wr.setCell ⟨B, 1, none⟩ (.string v)) :=
  ⟨h.ok, hv, (set6 h.blk _).2.1, (Below.heap_setCell _ _ _ _ (by have := h.hRB; simp; omega)).trans h.res, h.cur.own (by have := h.hC; have := h.hR; have := h.hRB; omega) _ _, h.drawn.own h.hC (by have := h.hR; have := h.hRB; omega) _ _, h.hC, h.hR, h.hRB⟩
theorem TrSt.num_ (h : TrSt K C A n c w R B op text num lo hi kv wr) {v : Int} : TrSt K C A n c w R B op text v lo hi kv (wr.setCell ⟨B, 2, none⟩ (.int .i64 v)) :=
  ⟨h.ok, h.small, (set6 h.blk _).2.2.1, (Below.heap_setCell _ _ _ _ (by have := h.hRB; simp; omega)).trans h.res, h.cur.own (by have := h.hC; have := h.hR; have := h.hRB; omega) _ _, h.drawn.own h.hC (by have := h.hR; have := h.hRB; omega) _ _, h.hC, h.hR, h.hRB⟩
theorem TrSt.lo_ (h : TrSt K C A n c w R B op text num lo hi kv wr) {v : Int} : TrSt K C A n c w R B op text num v hi kv (wr.setCell ⟨B, 3, none⟩ (.int .i64 v)) :=
  ⟨h.ok, h.small, (set6 h.blk _).2.2.2.1, (Below.heap_setCell _ _ _ _ (by have := h.hRB; simp; omega)).trans h.res, h.cur.own (by have := h.hC; have := h.hR; have := h.hRB; omega) _ _, h.drawn.own h.hC (by have := h.hR; have := h.hRB; omega) _ _, h.hC, h.hR, h.hRB⟩
theorem TrSt.hi_ (h : TrSt K C A n c w R B op text num lo hi kv wr) {v : Int} : TrSt K C A n c w R B op text num lo v kv (wr.setCell ⟨B, 4, none⟩ (.int .i64 v)) :=
  ⟨h.ok, h.small, (set6 h.blk _).2.2.2.2.1, (Below.heap_setCell _ _ _ _ (by have := h.hRB; simp; omega)).trans h.res, h.cur.own (by have := h.hC; have := h.hR; have := h.hRB; omega) _ _, h.drawn.own h.hC (by have := h.hR; have := h.hRB; omega) _ _, h.hC, h.hR, h.hRB⟩
theorem TrSt.kids_ (h : TrSt K C A n c w R B op text num lo hi kv wr) {v : Value} : TrSt K C A n c w R B op text num lo hi v (wr.setCell ⟨B, 5, none⟩ v) :=
  ⟨h.ok, h.small, (set6 h.blk _).2.2.2.2.2, (Below.heap_setCell _ _ _ _ (by have := h.hRB; simp; omega)).trans h.res, h.cur.own (by have := h.hC; have := h.hR; have := h.hRB; omega) _ _, h.drawn.own h.hC (by have := h.hR; have := h.hRB; omega) _ _, h.hC, h.hR, h.hRB⟩
theorem TrSt.later (h : TrSt K C A n c w R B op text num lo hi kv wr) (hl : Later wr x) : TrSt K C A n c w R B op text num lo hi kv x :=
  h.step (Drawn.later hl (by have := has_lt' h.blk; have := h.hC; have := h.hR; have := h.hRB; omega)) (h.cur.later hl)
end
structure TrLp (K : Int → Prop) (C : Nat) (A : Option Addr) (n c : Nat) (w : World) (R B : Nat) (op : Int) (text : ByteArray) (num lo hi : Int) (d : Nat) (ps : List Pat) (xs : List Value) (kv : Value) (wr : World) : Prop where
  st : TrSt K C A n c w R B op text num lo hi kv wr
  len : (ps.length : Int) ≤ kidsOf op
  cnt : ∀ q ∈ ps, count q < 2 ^ d
  row : HasRow wr (B + 1) TP 6 kv ps.length xs
  els : ElemsF (fun k => B + 1 ≤ k ∧ some k ≠ kv.ownBlock) wr ps xs
section
variable {K : Int → Prop} {C : Nat} {A : Option Addr} {n c : Nat} {w : World} {R B : Nat} {op : Int} {text : ByteArray} {num lo hi : Int} {d : Nat} {ps : List Pat} {xs : List Value} {kv : Value} {wr x : World}
theorem TrLp.step (h : TrLp K C A n c w R B op text num lo hi d ps xs kv wr) (hd : Drawn C wr x) (hc : CurAt x C A n c) : TrLp K C A n c w R B op text num lo hi d ps xs kv x := by
  have h1 := h.st.hC
  have h2 := h.st.hR
  have h3 := h.st.hRB
  refine ⟨h.st.step hd hc, h.len, h.cnt, h.row.same (fun k hk => ?_), ElemsF.keep (fun k hk hlt => hd.other k hlt (by omega)) hd.below.size (fun k hk _ => hk) _ _ h.els⟩
  have := h.row.lt k hk
  exact hd.other k this.2.1 (by omega)
theorem TrLp.later (h : TrLp K C A n c w R B op text num lo hi d ps xs kv wr) (hl : Later wr x) : TrLp K C A n c w R B op text num lo hi d ps xs kv x :=
  h.step (Drawn.later hl (by have := has_lt' h.st.blk; have := h.st.hC; have := h.st.hR; have := h.st.hRB; omega)) (h.st.cur.later hl)
theorem TrLp.grown (h : TrLp K C A n c w R B op text num lo hi d ps xs kv wr) {p : Pat} {kvp : Value} (hp : KidsF (fun k => B + 1 ≤ k ∧ some k ≠ kv.ownBlock) wr p kvp) (hc : count p < 2 ^ d) (hl : (ps.length : Int) + 1 ≤ kidsOf op) {v' : Value} {w' : World}
    (hrow : HasRow w' (B + 1) TP 6 v' (ps.length + 1) (xs ++ [.int .i64 p.op, .string p.text, .int .i64 p.num, .int .i64 p.lo, .int .i64 p.hi, kvp])) (hg : wr.grownBy w' kv.ownBlock) (hb : v'.ownBlock = kv.ownBlock ∨ v'.ownBlock = some wr.heap.size) :
    TrLp K C A n c w R B op text num lo hi d (ps ++ [p]) (xs ++ [.int .i64 p.op, .string p.text, .int .i64 p.num, .int .i64 p.lo, .int .i64 p.hi, kvp]) v' (w'.setCell ⟨B, 5, none⟩ v') := by
  have h1 := h.st.hC
  have h2 := h.st.hR
  have h3 := h.st.hRB
  have hown : ∀ k, kv.ownBlock = some k → B + 1 ≤ k ∧ k < wr.heap.size := fun k hk => ⟨(h.row.lt k hk).1, (h.row.lt k hk).2.1⟩
  have hne : ∀ k, k ≤ B → some k ≠ kv.ownBlock := fun k hk e => by have := hown k e.symm; omega
  have hB := has_lt' h.st.blk
  have hR := has_lt' h.st.res
  have hb5 := hg.block B hB (hne B (Nat.le_refl _))
  have hCs : C < wr.heap.size := by omega
  obtain ⟨ci, cy, hci, hcb⟩ := h.st.cur
  have hcur' : CurAt w' C A n c := ⟨ci, cy, hci, (hg.block C hCs (hne C (by omega))).trans hcb⟩
  have hw := h.st.drawn.below.size
  have hdr' : Drawn C w w' := ⟨Below.grown h.st.drawn.below hg (by omega) (fun k hk => by have := hown k hk; omega), fun k hk hkc => (hg.block k (by omega) (hne k (by omega))).trans (h.st.drawn.other k hk hkc)⟩
  have hst' : TrSt K C A n c w R B op text num lo hi kv w' := ⟨h.st.ok, h.st.small, hb5.trans h.st.blk, (hg.block R hR (hne R (by omega))).trans h.st.res, hcur', hdr', h.st.hC, h.st.hR, h.st.hRB⟩
  have hset : ∀ k, k ≠ B → (w'.setCell ⟨B, 5, none⟩ v').heap[k]? = w'.heap[k]? := fun k hk => Below.heap_setCell _ _ _ _ hk
  refine ⟨hst'.kids_, by simp; omega, ?_, ?_, ?_⟩
  · intro q hq
    rcases List.mem_append.1 hq with hq | hq
    · exact h.cnt q hq
    · rw [List.mem_singleton.1 hq]; exact hc
  · have : HasRow w' (B + 1) TP 6 v' (ps ++ [p]).length (xs ++ [.int .i64 p.op, .string p.text, .int .i64 p.num, .int .i64 p.lo, .int .i64 p.hi, kvp]) := by simpa using hrow
    exact this.same (fun k hk => hset k (by have := (this.lt k hk).1; omega))
  · have e1 := ElemsF.snoc hp ps xs h.els
    have e2 := ElemsF.keep (G := fun k => B + 1 ≤ k ∧ some k ≠ v'.ownBlock) (x := w') (fun k hk hlt => hg.block k hlt hk.2) hg.size (fun k hk hlt => ⟨hk.1, by
      rcases hb with hb | hb
      · rw [hb]; exact hk.2
      · rw [hb]; intro e; cases e; omega⟩) _ _ e1
    exact ElemsF.keep (fun k hk _ => hset k (by omega)) (by simp) (fun k hk _ => hk) _ _ e2
end
/-- What the tree's draw gives. -/
def DrewPat (C : Nat) (A : Option Addr) (n c : Nat) (d : Nat) (w : World) (e : Ending) (w' : World) : Prop := ∃ p kv, count p < 2 ^ (d + 1) ∧ e = .returned (p.v kv) ∧ KidsF (fun k => w.heap.size ≤ k) w' p kv ∧ CurAt w' C A n c ∧ Drawn C w w'
theorem countAll_two (d : Nat) (ps : List Pat) (hl : ps.length ≤ 2) (h : ∀ q ∈ ps, count q < 2 ^ d) : countAll ps + 1 < 2 ^ (d + 1) := by
  have h2 : 1 ≤ 2 ^ d := Nat.one_le_two_pow
  have h3 : 2 ^ (d + 1) = 2 ^ d + 2 ^ d := by rw [Nat.pow_succ]; omega
  rcases ps with _ | ⟨a, _ | ⟨b, _ | ⟨e, ps⟩⟩⟩
  · simp only [countAll]; omega
  · have := h a (by simp); simp [countAll]; omega
  · have := h a (by simp); have := h b (by simp); simp [countAll]; omega
  · simp at hl

section
variable (C : Nat) (A : Option Addr) (n c : Nat) (hn : n ≤ 1048576)
include hn
set_option maxRecDepth 100000 in
set_option maxHeartbeats 4000000 in
theorem l18Tree_any (d : Nat) : ∀ (deep : Int) (vars : Nat) (w : World), deep ≤ d → -100 ≤ deep → d ≤ 20 → vars ≤ 256 → CurAt w C A n c → BytesIn w C A n →
    Calls Try.prog 62 #[.pointer (some ⟨C, 0, none⟩), .int .i64 deep, .int .i64 vars] w (DrewPat C A n c d w) := by
  induction d using Nat.strongRecOn with | ind d ih =>
  intro deep vars w hdeep hdeep0 hd20 hvars hcur hby
  have HCUR := Lib.hid hcur
  have HBY := Lib.hid hby
  have hlt := hcur.lt
  have IH := Lib.hid ih
  clear hcur hby ih
  go_enter Try.func62, Try.ntmps62
  go_wp2_with fail
  refine (l1Below_any C A n c _ (HCUR.out.later ((Later.refl _).alloc _)) (HBY.out.later ((Later.refl _).alloc _)) hn 23 (by omega)).mono ?_
  rintro e w2 ⟨x, hx0, hx1, rfl, hc2, hd2⟩
  have HS1 : Hid (TrSt (fun op => 1 ≤ op ∧ op ≤ 23) C A n c w w.heap.size w2.heap.size (1 + x) ⟨#[]⟩ 0 0 0 (.slice none 0 0) (w2.alloc (patCells (1 + x) ⟨#[]⟩ 0 0 0 (.slice none 0 0)))) := Lib.hid (by
    have h2 : w.heap.size < w2.heap.size := by have := hd2.below.size; simp at this; omega
    refine ⟨by omega, by decide, heap_alloc_new _ _, Later.has ((Later.refl _).alloc _) (hd2.has (heap_alloc_new w _) (by omega)), hc2.later ((Later.refl _).alloc _), ((Drawn.later ((Later.refl _).alloc _) (by omega)).trans hd2).trans (Drawn.later ((Later.refl _).alloc _) (by omega)), hlt, Nat.le_refl _, h2⟩)
  have h2s : w.heap.size < w2.heap.size := by have := hd2.below.size; simp at this; omega
  clear hc2 hd2
  go_wp2_with fail
  refine (l1Once_any C A n c _ HS1.out.cur (HBY.out.drawn HS1.out.drawn) hn 3 (by omega)).mono ?_
  rintro e w3 ⟨b, rfl, hc3, hd3⟩
  have HS2 := Lib.hid (HS1.out.step hd3 hc3)
  clear HS1 hc3 hd3
  generalize hBB : w2.heap.size = B at HS2 ⊢
  go_upto_if 14 with (fail)
  go_cut [] (fun wr => TrIn (fun op => 1 ≤ op ∧ op ≤ 23) C A n c w w.heap.size B wr)
  case first =>
    cases b
    · go_wp2_with fail
      go_meet
      exact HS2.out.in_
    · go_wp2_with fail
      have hlw3 := Later.alloc (Later.refl w3) (.cells #[.int .i64 1, .int .i64 2, .int .i64 7, .int .i64 14, .int .i64 15, .int .i64 14, .int .i64 15, .int .i64 11] 3)
      refine (l1PickInt_any C A n c _ (HS2.out.cur.later hlw3) ((HBY.out.drawn HS2.out.drawn).later hlw3) hn w3.heap.size 8 8 (fun v => 1 ≤ v ∧ v ≤ 23) (by omega) (by omega) (by simp) (by have := HS2.out.cur.lt; omega) (fun j hj => ?_)).mono ?_
      · have hr := fun j => cell_of_row _ w3.heap.size j _ _ _ (heap_alloc_new w3 (.cells #[.int .i64 1, .int .i64 2, .int .i64 7, .int .i64 14, .int .i64 15, .int .i64 14, .int .i64 15, .int .i64 11] 3))
        rcases j with _ | _ | _ | _ | _ | _ | _ | _ | j
        all_goals first | omega | exact ⟨_, by decide, hr _⟩
      rintro e w4 ⟨v, hv, rfl, hcw4, hdw4⟩
      have HS3 := Lib.hid ((HS2.out.later hlw3).step hdw4 hcw4)
      clear hlw3 hcw4 hdw4
      obtain ⟨p0, p1, p2, p3, p4, p5⟩ := cells_p HS3.out.blk
      obtain ⟨f0, f1, f2, f3, f4, f5⟩ := frozen_p HS3.out.blk
      go_wp2_with fail
      go_meet
      exact (HS3.out.op_ hv).in_
  case rest =>
  obtain ⟨w5, hnm⟩ : ∃ x, x = wc := ⟨_, rfl⟩
  rw [← hnm] at hcut ⊢
  clear hnm wc
  obtain ⟨op, text, num, lo, hi, HSo⟩ := hcut
  have HS := Lib.hid HSo
  have hop := HSo.ok
  clear HSo HS2 hBB w2 w3 b x hx0 hx1 h2s
  have hlt7 := HS.out.hRB
  have hltR := HS.out.hR
  have hltC := HS.out.hC
  obtain ⟨p0, p1, p2, p3, p4, p5⟩ := cells_p HS.out.blk
  obtain ⟨f0, f1, f2, f3, f4, f5⟩ := frozen_p HS.out.blk
  have hkid : 0 ≤ kidsOf op ∧ kidsOf op ≤ 2 := by unfold kidsOf; split <;> (try split) <;> omega
  go_upto_region 4 with (fail)
  go_cut [45] (fun v wr => ∃ t : Bool, v = .bool t ∧ (t = false → deep ≤ 0 → kidsOf op = 0) ∧ w5 = wr)
  case first =>
    go_wp2_with fail
    refine (l18Kids_any op _).mono ?_
    rintro e w' ⟨rfl, rfl⟩
    go_wp2_with fail
    all_goals (go_meet; exact ⟨_, rfl, (by intro h1 h2; first | omega | simp at h1), rfl⟩)
  case rest =>
  obtain ⟨t, rfl, ht, hw⟩ := hcut
  subst hw
  clear p0 p1 p2 p3 p4 p5 f0 f1 f2 f3 f4 f5
  go_upto_if 45 with (fail)
  go_cut [] (fun wr => TrIn (fun op => 1 ≤ op ∧ op ≤ 23 ∧ (deep ≤ 0 → kidsOf op = 0)) C A n c w w.heap.size B wr)
  case first =>
    cases t
    · have HT := Lib.hid (ht rfl)
      clear ht
      go_wp2_with fail
      go_meet
      exact (HS.out.weak ⟨hop.1, hop.2, HT.out⟩).in_
    · clear ht
      go_wp2_with fail
      have hlw5 := Later.alloc (Later.refl w5) (.cells #[.int .i64 1, .int .i64 2, .int .i64 9, .int .i64 11, .int .i64 7] 3)
      refine (l1PickInt_any C A n c _ (HS.out.cur.later hlw5) ((HBY.out.drawn HS.out.drawn).later hlw5) hn w5.heap.size 5 5 (fun v => 1 ≤ v ∧ v ≤ 23 ∧ kidsOf v = 0) (by omega) (by omega) (by simp) (by have := HS.out.cur.lt; omega) (fun j hj => ?_)).mono ?_
      · have hr := fun j => cell_of_row _ w5.heap.size j _ _ _ (heap_alloc_new w5 (.cells #[.int .i64 1, .int .i64 2, .int .i64 9, .int .i64 11, .int .i64 7] 3))
        rcases j with _ | _ | _ | _ | _ | j
        all_goals first | omega | exact ⟨_, by decide, hr _⟩
      rintro e w6 ⟨v, hv, rfl, hcw6, hdw6⟩
      have HS3 := Lib.hid ((HS.out.later hlw5).step hdw6 hcw6)
      clear hlw5 hcw6 hdw6
      obtain ⟨p0, p1, p2, p3, p4, p5⟩ := cells_p HS3.out.blk
      obtain ⟨f0, f1, f2, f3, f4, f5⟩ := frozen_p HS3.out.blk
      go_wp2_with fail
      go_meet
      exact (HS3.out.op_ ⟨hv.1, hv.2.1, fun _ => hv.2.2⟩).in_
  case rest =>
  clear HS hop ht hkid hlt7 hltR hltC
  obtain ⟨w7, hnm⟩ : ∃ x, x = wc := ⟨_, rfl⟩
  rw [← hnm] at hcut ⊢
  clear hnm wc
  obtain ⟨op, text, num, lo, hi, HSo⟩ := hcut
  have HS := Lib.hid HSo
  have hop := HSo.ok
  clear HSo
  have hlt7 := HS.out.hRB
  have hltR := HS.out.hR
  have hltC := HS.out.hC
  obtain ⟨p0, p1, p2, p3, p4, p5⟩ := cells_p HS.out.blk
  obtain ⟨f0, f1, f2, f3, f4, f5⟩ := frozen_p HS.out.blk
  go_upto_region 6 with (fail)
  go_cut [52] (fun v wr => ∃ t : Bool, v = .bool t ∧ w7 = wr)
  case first =>
    go_wp2_with fail
    all_goals (go_meet; exact ⟨_, rfl, rfl⟩)
  case rest =>
  obtain ⟨t, rfl, hw⟩ := hcut
  subst hw
  clear p0 p1 p2 p3 p4 p5 f0 f1 f2 f3 f4 f5
  go_upto_if 52 with (fail)
  go_cut [] (fun wr => TrIn (fun op => 1 ≤ op ∧ op ≤ 23 ∧ (deep ≤ 0 → kidsOf op = 0)) C A n c w w.heap.size B wr)
  case first =>
    cases t
    · go_wp2_with fail
      go_meet
      exact HS.out.in_
    · go_wp2_with fail
      refine (l17Part_any C A n c _ HS.out.cur (HBY.out.drawn HS.out.drawn) hn).mono ?_
      rintro e w6 ⟨v, hv, rfl, hc6, hd6⟩
      have HS3 := Lib.hid (HS.out.step hd6 hc6)
      clear hc6 hd6
      obtain ⟨p0, p1, p2, p3, p4, p5⟩ := cells_p HS3.out.blk
      obtain ⟨f0, f1, f2, f3, f4, f5⟩ := frozen_p HS3.out.blk
      go_wp2_with fail
      go_meet
      exact (HS3.out.text_ hv).in_
  case rest =>
  clear HS hop hlt7 hltR hltC
  obtain ⟨w8, hnm⟩ : ∃ x, x = wc := ⟨_, rfl⟩
  rw [← hnm] at hcut ⊢
  clear hnm wc
  obtain ⟨op, text, num, lo, hi, HSo⟩ := hcut
  have HS := Lib.hid HSo
  have hop := HSo.ok
  clear HSo
  have hlt7 := HS.out.hRB
  have hltR := HS.out.hR
  have hltC := HS.out.hC
  obtain ⟨p0, p1, p2, p3, p4, p5⟩ := cells_p HS.out.blk
  obtain ⟨f0, f1, f2, f3, f4, f5⟩ := frozen_p HS.out.blk
  go_upto_region 8 with (fail)
  go_cut [63] (fun v wr => ∃ t : Bool, v = .bool t ∧ w8 = wr)
  case first =>
    go_wp2_with fail
    all_goals (go_meet; exact ⟨_, rfl, rfl⟩)
  case rest =>
  obtain ⟨t, rfl, hw⟩ := hcut
  subst hw
  clear p0 p1 p2 p3 p4 p5 f0 f1 f2 f3 f4 f5
  go_upto_if 63 with (fail)
  go_cut [] (fun wr => TrIn (fun op => 1 ≤ op ∧ op ≤ 23 ∧ (deep ≤ 0 → kidsOf op = 0)) C A n c w w.heap.size B wr)
  case first =>
    cases t
    · go_wp2_with fail
      go_meet
      exact HS.out.in_
    · go_wp2_with fail
      refine (l1Below_any C A n c _ HS.out.cur (HBY.out.drawn HS.out.drawn) hn 5 (by omega)).mono ?_
      rintro e w6 ⟨v, hv0, hv1, rfl, hc6, hd6⟩
      have HS3 := Lib.hid (HS.out.step hd6 hc6)
      clear hc6 hd6
      obtain ⟨p0, p1, p2, p3, p4, p5⟩ := cells_p HS3.out.blk
      obtain ⟨f0, f1, f2, f3, f4, f5⟩ := frozen_p HS3.out.blk
      go_wp2_with fail
      go_meet
      exact HS3.out.num_.in_
  case rest =>
  clear HS hop hlt7 hltR hltC
  obtain ⟨w9, hnm⟩ : ∃ x, x = wc := ⟨_, rfl⟩
  rw [← hnm] at hcut ⊢
  clear hnm wc
  obtain ⟨op, text, num, lo, hi, HSo⟩ := hcut
  have HS := Lib.hid HSo
  have hop := HSo.ok
  clear HSo
  have hlt7 := HS.out.hRB
  have hltR := HS.out.hR
  have hltC := HS.out.hC
  obtain ⟨p0, p1, p2, p3, p4, p5⟩ := cells_p HS.out.blk
  obtain ⟨f0, f1, f2, f3, f4, f5⟩ := frozen_p HS.out.blk
  go_upto_region 10 with (fail)
  go_cut [74] (fun v wr => ∃ t : Bool, v = .bool t ∧ w9 = wr)
  case first =>
    go_wp2_with fail
    all_goals (go_meet; exact ⟨_, rfl, rfl⟩)
  case rest =>
  obtain ⟨t, rfl, hw⟩ := hcut
  subst hw
  clear p0 p1 p2 p3 p4 p5 f0 f1 f2 f3 f4 f5
  go_upto_if 74 with (fail)
  go_cut [] (fun wr => TrIn (fun op => 1 ≤ op ∧ op ≤ 23 ∧ (deep ≤ 0 → kidsOf op = 0)) C A n c w w.heap.size B wr)
  case first =>
    cases t
    · go_wp2_with fail
      go_meet
      exact HS.out.in_
    · go_wp2_with fail
      have hlw9 := Later.alloc (Later.refl w9) (.cells #[.string ⟨#[97]⟩, .string ⟨#[97, 110]⟩, .string ⟨#[98, 110]⟩, .string ⟨#[98, 97, 110]⟩, .string ⟨#[44]⟩] 9)
      refine (l1Pick_any C A n c _ (HS.out.cur.later hlw9) ((HBY.out.drawn HS.out.drawn).later hlw9) hn w9.heap.size 5 5 (fun v => v.size ≤ 3 ∧ ∀ j (h : j < v.size), (v[j].toNat : Int) < 128) (by omega) (by omega) (by simp) (by have := HS.out.cur.lt; omega) (fun j hj => ?_)).mono ?_
      · have hr := fun j => cell_of_row _ w9.heap.size j _ _ _ (heap_alloc_new w9 (.cells #[.string ⟨#[97]⟩, .string ⟨#[97, 110]⟩, .string ⟨#[98, 110]⟩, .string ⟨#[98, 97, 110]⟩, .string ⟨#[44]⟩] 9))
        rcases j with _ | _ | _ | _ | _ | j
        all_goals first | omega | exact ⟨_, by decide, hr _⟩
      rintro e w6 ⟨v, hv, rfl, hcw6, hdw6⟩
      have HS3 := Lib.hid ((HS.out.later hlw9).step hdw6 hcw6)
      clear hlw9 hcw6 hdw6
      obtain ⟨p0, p1, p2, p3, p4, p5⟩ := cells_p HS3.out.blk
      obtain ⟨f0, f1, f2, f3, f4, f5⟩ := frozen_p HS3.out.blk
      go_wp2_with fail
      refine (specNew_all v _ hv.2 (by omega)).mono ?_
      rintro e w11 ⟨lo2, hi2, rfl, hb11⟩
      have HS4 := Lib.hid (HS3.out.later hb11)
      clear hb11 p0 p1 p2 p3 p4 p5 f0 f1 f2 f3 f4 f5
      obtain ⟨p0, p1, p2, p3, p4, p5⟩ := cells_p HS4.out.blk
      obtain ⟨f0, f1, f2, f3, f4, f5⟩ := frozen_p HS4.out.blk
      go_wp2_with fail
      go_meet
      exact (HS4.out.lo_.hi_).in_
  case rest =>
  clear HS hop hlt7 hltR hltC
  obtain ⟨w10, hnm⟩ : ∃ x, x = wc := ⟨_, rfl⟩
  rw [← hnm] at hcut ⊢
  clear hnm wc
  obtain ⟨op, text, num, lo, hi, HSo⟩ := hcut
  have HS := Lib.hid HSo
  have hop := HSo.ok
  clear HSo
  have hlt7 := HS.out.hRB
  have hltR := HS.out.hR
  have hltC := HS.out.hC
  obtain ⟨p0, p1, p2, p3, p4, p5⟩ := cells_p HS.out.blk
  obtain ⟨f0, f1, f2, f3, f4, f5⟩ := frozen_p HS.out.blk
  go_upto_region 12 with (fail)
  go_cut [95] (fun v wr => ∃ t : Bool, v = .bool t ∧ w10 = wr)
  case first =>
    go_wp2_with fail
    all_goals (go_meet; exact ⟨_, rfl, rfl⟩)
  case rest =>
  obtain ⟨t, rfl, hw⟩ := hcut
  subst hw
  clear p0 p1 p2 p3 p4 p5 f0 f1 f2 f3 f4 f5
  go_upto_if 95 with (fail)
  go_cut [] (fun wr => TrIn (fun op => 1 ≤ op ∧ op ≤ 23 ∧ (deep ≤ 0 → kidsOf op = 0)) C A n c w w.heap.size B wr)
  case first =>
    cases t
    · go_wp2_with fail
      go_meet
      exact HS.out.in_
    · go_wp2_with fail
      refine (l1Below_any C A n c _ HS.out.cur (HBY.out.drawn HS.out.drawn) hn vars (by omega)).mono ?_
      rintro e w6 ⟨v, hv0, hv1, rfl, hc6, hd6⟩
      have HS3 := Lib.hid (HS.out.step hd6 hc6)
      clear hc6 hd6
      obtain ⟨p0, p1, p2, p3, p4, p5⟩ := cells_p HS3.out.blk
      obtain ⟨f0, f1, f2, f3, f4, f5⟩ := frozen_p HS3.out.blk
      go_wp2_with fail
      go_meet
      exact HS3.out.num_.in_
  case rest =>
  clear HS hop hlt7 hltR hltC
  obtain ⟨w11, hnm⟩ : ∃ x, x = wc := ⟨_, rfl⟩
  rw [← hnm] at hcut ⊢
  clear hnm wc
  obtain ⟨op, text, num, lo, hi, HSo⟩ := hcut
  have HS := Lib.hid HSo
  have hop := HSo.ok
  clear HSo
  have hlt7 := HS.out.hRB
  have hltR := HS.out.hR
  have hltC := HS.out.hC
  obtain ⟨p0, p1, p2, p3, p4, p5⟩ := cells_p HS.out.blk
  obtain ⟨f0, f1, f2, f3, f4, f5⟩ := frozen_p HS.out.blk
  have hkid : 0 ≤ kidsOf op ∧ kidsOf op ≤ 2 := by unfold kidsOf; split <;> (try split) <;> omega
  have HK2 := Lib.hid hop.2.2
  clear hop p0 p1 p2 p3 p4 p5 f0 f1 f2 f3 f4 f5
  go_wp2_with fail
  go_loopw [8] (fun i wr => ∃ (ps : List Pat) (xs : List Value) (kv : Value), i = .int .i64 ps.length ∧ TrLp (fun op => 1 ≤ op ∧ op ≤ 23 ∧ (deep ≤ 0 → kidsOf op = 0)) C A n c w w.heap.size B op text num lo hi d ps xs kv wr) (fun i _ => (2 - intOf i).toNat)
  case atStart => exact ⟨[], [], _, rfl, HS.out, by simpa using hkid.1, by simp, HasRow.nil _ _ _ _, rfl⟩
  case round =>
    obtain ⟨ps, xs, kv, rfl, hlp⟩ := hrel
    have HL := Lib.hid hlp
    have hlen := hlp.len
    clear hlp HS
    obtain ⟨p0, p1, p2, p3, p4, p5⟩ := cells_p HL.out.st.blk
    by_cases hlt8 : (ps.length : Int) < kidsOf op
    · have hdp : 0 < deep := by
        rcases Int.lt_or_le 0 deep with h | h
        · exact h
        · have := HK2.out h; omega
      have t1 : decide ((ps.length : Int) < kidsOf op) = true := by simpa using hlt8
      go_wp2_with fail
      refine (l18Kids_any op _).mono ?_
      rintro e w' ⟨rfl, rfl⟩
      go_wp2_with fail
      clear p0 p1 p2 p3 p4 p5
      -- region 17: 11 operations, the last [8, 9, 10]
      refine wpV_begin [8, 9, 10] [] (fun x => x.heap[B]? = some (patCells op text num lo hi kv)) (by kernel_rfl) (fun w1 hw1 => ?_)
      have HL1 := Lib.hid (HL.out.later (drew_later hw1))
      clear hw1 HL
      have HS : Hid ((fun x => x.heap[B]? = some (patCells op text num lo hi kv)) w1) := Lib.hid HL1.out.st.blk
      refine wpV_take 0 (some 107) (v := ?_) rfl rfl (by kernel_rfl) (fun _ _ _ h => h) rfl HS.out (fun x hx => ?_) ?_
      rotate_left 1
      · go_simp; first | done | with_reducible rfl | rw [if_neg (by omega)] | rw [if_pos (by omega)]
      simp only [Act.put, List.setIfInBounds_toArray, List.set_cons_zero, List.set_cons_succ]
      refine wpV_take 1 (some 108) (v := ?_) rfl rfl (by kernel_rfl) (fun _ _ _ h => h) rfl HS.out (fun x hx => ?_) ?_
      rotate_left 1
      · obtain ⟨p0, p1, p2, p3, p4, p5⟩ := cells_p hx; go_simp; first | done | with_reducible rfl | rw [if_neg (by omega)] | rw [if_pos (by omega)]
      simp only [Act.put, List.setIfInBounds_toArray, List.set_cons_zero, List.set_cons_succ]
      refine wpV_take 2 (some 109) (v := ?_) rfl rfl (by kernel_rfl) (fun _ _ _ h => h) rfl HS.out (fun x hx => ?_) ?_
      rotate_left 1
      · go_simp; first | done | with_reducible rfl | rw [if_neg (by omega)] | rw [if_pos (by omega)]
      simp only [Act.put, List.setIfInBounds_toArray, List.set_cons_zero, List.set_cons_succ]
      refine wpV_take 3 (some 110) (v := ?_) rfl rfl (by kernel_rfl) (fun _ _ _ h => h) rfl HS.out (fun x hx => ?_) ?_
      rotate_left 1
      · go_simp; first | done | with_reducible rfl | rw [if_neg (by omega)] | rw [if_pos (by omega)]
      simp only [Act.put, List.setIfInBounds_toArray, List.set_cons_zero, List.set_cons_succ]
      refine wpV_take 4 (some 111) (v := ?_) rfl rfl (by kernel_rfl) (fun _ _ _ h => h) rfl HS.out (fun x hx => ?_) ?_
      rotate_left 1
      · go_simp; first | done | with_reducible rfl | rw [if_neg (by omega)] | rw [if_pos (by omega)]
      simp only [Act.put, List.setIfInBounds_toArray, List.set_cons_zero, List.set_cons_succ]
      refine wpV_take 5 (some 112) (v := ?_) rfl rfl (by kernel_rfl) (fun _ _ _ h => h) rfl HS.out (fun x hx => ?_) ?_
      rotate_left 1
      · go_simp; first | done | with_reducible rfl | rw [if_neg (by omega)] | rw [if_pos (by omega)]
      simp only [Act.put, List.setIfInBounds_toArray, List.set_cons_zero, List.set_cons_succ]
      refine wpV_step 6 (by kernel_rfl) rfl rfl ?_  -- call value (Go.Operand.func 62)
      go_wp2_with fail
      refine (IH.out (d - 1) (by omega) (deep - 1) vars _ (by omega) (by omega) (by omega) hvars HL1.out.st.cur (HBY.out.drawn HL1.out.st.drawn)).mono ?_
      rintro e w2 ⟨p, kvp, hcp, rfl, hkp, hc2, hd2⟩
      have HL2 := Lib.hid (HL1.out.step hd2 hc2)
      have HKP := Lib.hid (KidsF.keep (G := fun k => B + 1 ≤ k ∧ some k ≠ kv.ownBlock) (fun _ _ _ => rfl) (Nat.le_refl _) (fun k hk _ => ⟨by have := has_lt' HL1.out.st.blk; omega, fun e => by have := (HL1.out.row.lt k e.symm).2.1; omega⟩) p kvp hkp)
      have HCP := Lib.hid (show count p < 2 ^ d by rwa [Nat.sub_add_cancel (by omega)] at hcp)
      clear hcp hkp hc2 hd2 HL1 HS
      have HS : Hid ((fun x => x.heap[B]? = some (patCells op text num lo hi kv)) w2) := Lib.hid HL2.out.st.blk
      go_wp2_with fail
      refine ⟨HS.out, ?_⟩
      refine wpV_step 7 (by kernel_rfl) rfl rfl ?_  -- buildSlice 
      go_wp2_with fail
      have hlw := Later.alloc (Later.refl w2) (patCells p.op p.text p.num p.lo p.hi kvp)
      refine ⟨hlw.has HS.out, ?_⟩
      refine wpV_last [_, _, _] (by kernel_rfl) rfl rfl ?_
      simp only [List.getElem_toArray, List.getElem_cons_succ, List.getElem_cons_zero]
      obtain ⟨i, hi, hz0, hz1, hz2⟩ := info_parts infoPat
      refine wpList_append_has _ rfl _ _ _ rfl (B + 1) TP i _ 6 72 Try.underlying24 hi hz0 hz1 hz2 rfl _ ps.length xs rfl ((HL2.out.later hlw).row) _ 1 1 [.int .i64 p.op, .string p.text, .int .i64 p.num, .int .i64 p.lo, .int .i64 p.hi, kvp] rfl rfl ?_ ?_ (by omega) ?_ ?_ ?_ ?_
      · exact cells_new _ [_, _, _, _, _, _] _
      · intro u hu
        obtain ⟨ka, kc, rfl, _⟩ := HKP.out.form
        simp only [List.mem_cons, List.not_mem_nil, or_false] at hu
        rcases hu with rfl | rfl | rfl | rfl | rfl | rfl <;> rfl
      · simp only [maxLen]; omega
      · omega
      · have := has_lt' HL2.out.st.blk; simp; omega
      · intro v' w' hrow hgrow hblock
        have hb6 : some B ≠ kv.ownBlock := fun e => by have := (HL2.out.row.lt B e.symm).1; omega
        have HBLK := Lib.hid ((hgrow.block B (has_lt' (hlw.has HS.out)) hb6).trans (hlw.has HS.out))
        have HL3 := Lib.hid ((HL2.out.later hlw).grown (KidsF.keep (fun k _ hk => hlw.block k hk) hlw.size (fun k hk _ => hk) p kvp HKP.out) HCP.out (by omega) hrow hgrow hblock)
        obtain ⟨vA, vc, rfl, _, _⟩ := hrow.form
        clear hrow hgrow hblock hb6 hlw
        obtain ⟨p0, p1, p2, p3, p4, p5⟩ := cells_p HBLK.out
        obtain ⟨f0, f1, f2, f3, f4, f5⟩ := frozen_p HBLK.out
        go_wp2_with fail
        clear p0 p1 p2 p3 p4 p5 f0 f1 f2 f3 f4 f5
        go_roundw
        case rel => exact ⟨ps ++ [p], _, _, by simp, HL3.out⟩
        case measure => simp [intOf]; omega
    · have t1 : decide ((ps.length : Int) < kidsOf op) = false := by simpa using hlt8
      obtain ⟨f0, f1, f2, f3, f4, f5⟩ := frozen_p HL.out.st.res
      obtain ⟨q0, q1, q2, q3, q4, q5⟩ := cells_p HL.out.st.res
      obtain ⟨kA, kc, rfl, hkl, hrf⟩ := rowF_mk HL.out.row HL.out.els (fun k hk => hk.1)
      have HRF := Lib.hid hrf
      clear hrf
      go_wp2_with fail
      refine (l18Kids_any op _).mono ?_
      rintro e w' ⟨rfl, rfl⟩
      go_wp2_with fail
      have hB7 := has_lt' HL.out.st.res
      have hsz := HL.out.st.drawn.below.size
      have HO := fun k hk => Lib.hid (set6_other (wr := wr) (R := w.heap.size) (k := k) hk (.int .i64 op) (.string text) (.int .i64 num) (.int .i64 lo) (.int .i64 hi) (.slice kA ps.length kc))
      refine bodyPost_ret (v := (Pat.mk op text num lo hi ps).v (.slice kA ps.length kc)) (by simp [results, Try.results62, go_sem, p0, p1, p2, p3, p4, p5, q0, q1, q2, q3, q4, q5, f0, f1, f2, f3, f4, f5, hB7]; exact ⟨rfl, rfl, rfl, rfl, rfl⟩) rfl ?_
      refine ⟨.mk op text num lo hi ps, _, ?_, rfl, ?_, ?_, ?_⟩
      · rw [count_eq]; exact countAll_two d ps (by have := HL.out.len; omega) HL.out.cnt
      · simp only [KidsF]
        exact ⟨kA, kc, rfl, hkl, RowF.keep (fun k hk _ => (HO k (by omega)).out) (by simp) (fun k hk _ => by omega) _ _ _ HRF.out⟩
      · obtain ⟨ci, cy, hci, hcb⟩ := HL.out.st.cur
        exact ⟨ci, cy, hci, ((HO C (by omega)).out).trans hcb⟩
      · exact (((((HL.out.st.drawn.own hlt (Nat.le_refl _) _ _).own hlt (Nat.le_refl _) _ _).own hlt (Nat.le_refl _) _ _).own hlt (Nat.le_refl _) _ _).own hlt (Nat.le_refl _) _ _).own hlt (Nat.le_refl _) _ _
end
end Go.Proofs.Ytndefbecoahfhaa

/- spec.l1New and spec.l18Match: a cursor; well-formed definitions, a pattern and a subject. Printed by gen_drmatch.py. -/
namespace Go.Proofs.Ytndefbecoahfhaa
open Go.RowKit

/-- The bytes of a slice that came in. -/
def BytesAt (w : World) (A : Option Addr) (n : Nat) : Prop := ∀ j, j < n → ∃ g o b, A = some ⟨g, o, none⟩ ∧ g < w.heap.size ∧ 0 ≤ b ∧ b < 256 ∧ w.cell? ⟨g, o + j, none⟩ = some (.int .u8 b)
theorem BytesAt.later {w x : World} {A : Option Addr} {n : Nat} (h : BytesAt w A n) (hl : Later w x) : BytesAt x A n := fun j hj => by
  obtain ⟨g, o, b, e, h2, h3, h4, h5⟩ := h j hj
  exact ⟨g, o, b, e, Nat.lt_of_lt_of_le h2 hl.size, h3, h4, (hl.cell _ h2).trans h5⟩
theorem BytesAt.in_ {w x : World} {C : Nat} {A : Option Addr} {n : Nat} (h : BytesAt w A n) (hC : w.heap.size ≤ C) (hl : Later w x) : BytesIn x C A n := fun j hj => by
  obtain ⟨g, o, b, e, h2, h3, h4, h5⟩ := h j hj
  exact ⟨g, o, b, e, by omega, Nat.lt_of_lt_of_le h2 hl.size, h3, h4, (hl.cell _ h2).trans h5⟩
def NewCur (A : Option Addr) (n c : Nat) (w : World) (e : Ending) (w' : World) : Prop := ∃ C, w.heap.size ≤ C ∧ e = .returned (.pointer (some ⟨C, 0, none⟩)) ∧ CurAt w' C A n c ∧ Later w w'
def NewLp (n : Nat) (w : World) (h i : Value) (wr : World) : Prop := ∃ (j : Nat) (x : Int), h = .int .i64 x ∧ i = .int .i64 j ∧ j ≤ n ∧ wr = w
set_option maxRecDepth 100000 in
set_option maxHeartbeats 1000000 in
theorem l1New_any (A : Option Addr) (n c : Nat) (w : World) (hby : BytesAt w A n) (hn : n ≤ 1048576) : Calls Try.prog 34 #[.slice A n c] w (NewCur A n c w) := by
  have HBY := Lib.hid hby
  clear hby
  go_enter Try.func34, Try.ntmps34
  go_wp2_with fail
  go_loopw [3, 4] (fun h i wr => NewLp n w h i wr) (fun _ i _ => n - (intOf i).toNat)
  case atStart => exact ⟨0, _, rfl, rfl, by omega, rfl⟩
  case round =>
    obtain ⟨j, x, rfl, rfl, hj, hwr⟩ := hrel
    obtain rfl : w = wr := hwr.symm
    by_cases hlt : j < n ∧ j < 4000
    · obtain ⟨g, o, b, hA, hg, hb0, hb1, hcell⟩ := HBY.out j hlt.1
      subst hA
      obtain ⟨hlt1, hlt2⟩ := hlt
      have t1 : decide ((j : Int) < n) = true := by simp; omega
      have t2 : decide ((j : Int) < 4000) = true := by simp; omega
      go_wp2_with fail
      go_roundw
      case rel => exact ⟨j + 1, _, rfl, by simp, by omega, rfl⟩
      case measure => simp [intOf]; omega
    · by_cases hl1 : j < n
      · have t1 : decide ((j : Int) < n) = true := by simp; omega
        have t2 : decide ((j : Int) < 4000) = false := by simp; omega
        clear hlt
        go_wp2_with fail
        go_ret
        exact ⟨_, Nat.le_refl _, rfl, ⟨0, _, by omega, heap_alloc_new _ _⟩, (Later.refl _).alloc _⟩
      · have t1 : decide ((j : Int) < n) = false := by simp; omega
        clear hlt
        go_wp2_with fail
        go_ret
        exact ⟨_, Nat.le_refl _, rfl, ⟨0, _, by omega, heap_alloc_new _ _⟩, (Later.refl _).alloc _⟩

structure DfSt (C : Nat) (A : Option Addr) (n c : Nat) (w3 : World) (ps : List Pat) (xs : List Value) (v : Value) (wr : World) : Prop where
  cur : CurAt wr C A n c
  drawn : Drawn C w3 wr
  hC : C < w3.heap.size
  row : HasRow wr w3.heap.size TP 6 v ps.length xs
  els : ElemsF (fun k => w3.heap.size ≤ k ∧ some k ≠ v.ownBlock) wr ps xs
  cnt : ∀ q ∈ ps, count q < 2 ^ (2 + 1)
section
variable {C : Nat} {A : Option Addr} {n c : Nat} {w3 : World} {ps : List Pat} {xs : List Value} {v : Value} {wr x : World}
theorem DfSt.step (h : DfSt C A n c w3 ps xs v wr) (hd : Drawn C wr x) (hc : CurAt x C A n c) : DfSt C A n c w3 ps xs v x := by
  have h1 := h.hC
  refine ⟨hc, h.drawn.trans hd, h.hC, h.row.same (fun k hk => ?_), ElemsF.keep (fun k hk hlt => hd.other k hlt (by omega)) hd.below.size (fun k hk _ => hk) _ _ h.els, h.cnt⟩
  have := h.row.lt k hk
  exact hd.other k this.2.1 (by omega)
theorem DfSt.later (h : DfSt C A n c w3 ps xs v wr) (hl : Later wr x) : DfSt C A n c w3 ps xs v x :=
  h.step (Drawn.later hl (Nat.le_of_lt h.cur.lt)) (h.cur.later hl)
theorem DfSt.grown (h : DfSt C A n c w3 ps xs v wr) {p : Pat} {kvp : Value} (hp : KidsF (fun k => w3.heap.size ≤ k ∧ some k ≠ v.ownBlock) wr p kvp) (hc : count p < 2 ^ (2 + 1)) {v' : Value} {w' : World}
    (hrow : HasRow w' w3.heap.size TP 6 v' (ps.length + 1) (xs ++ [.int .i64 p.op, .string p.text, .int .i64 p.num, .int .i64 p.lo, .int .i64 p.hi, kvp])) (hg : wr.grownBy w' v.ownBlock) (hb : v'.ownBlock = v.ownBlock ∨ v'.ownBlock = some wr.heap.size) :
    DfSt C A n c w3 (ps ++ [p]) (xs ++ [.int .i64 p.op, .string p.text, .int .i64 p.num, .int .i64 p.lo, .int .i64 p.hi, kvp]) v' w' := by
  have h1 := h.hC
  have hown : ∀ k, v.ownBlock = some k → w3.heap.size ≤ k ∧ k < wr.heap.size := fun k hk => ⟨(h.row.lt k hk).1, (h.row.lt k hk).2.1⟩
  have hne : ∀ k, k < w3.heap.size → some k ≠ v.ownBlock := fun k hk e => by have := hown k e.symm; omega
  have hw := h.drawn.below.size
  obtain ⟨ci, cy, hci, hcb⟩ := h.cur
  refine ⟨⟨ci, cy, hci, (hg.block C (by omega) (hne C h1)).trans hcb⟩, ⟨Below.grown h.drawn.below hg (by omega) (fun k hk => by have := hown k hk; omega), fun k hk hkc => (hg.block k (by omega) (hne k hk)).trans (h.drawn.other k hk hkc)⟩, h.hC, by simpa using hrow, ?_, ?_⟩
  · exact ElemsF.keep (G := fun k => w3.heap.size ≤ k ∧ some k ≠ v'.ownBlock) (x := w') (fun k hk hlt => hg.block k hlt hk.2) hg.size (fun k hk hlt => ⟨hk.1, by
      rcases hb with hb | hb
      · rw [hb]; exact hk.2
      · rw [hb]; intro e; cases e; omega⟩) _ _ (ElemsF.snoc hp ps xs h.els)
  · intro q hq
    rcases List.mem_append.1 hq with hq | hq
    · exact h.cnt q hq
    · rw [List.mem_singleton.1 hq]; exact hc
end
theorem RowF.drawn {base C : Nat} {w x : World} (h1 : Drawn C w x) (hC : C < base) {A : Option Addr} {j : Nat} {ps : List Pat} (h : RowF (fun k => base ≤ k) w A j ps) : RowF (fun k => base ≤ k) x A j ps :=
  RowF.keep (fun k hk hlt => h1.other k hlt (by omega)) h1.below.size (fun _ hk _ => hk) _ _ _ h
theorem KidsF.drawn {base C : Nat} {w x : World} (h1 : Drawn C w x) (hC : C < base) {p : Pat} {kv : Value} (h : KidsF (fun k => base ≤ k) w p kv) : KidsF (fun k => base ≤ k) x p kv :=
  KidsF.keep (fun k hk hlt => h1.other k hlt (by omega)) h1.below.size (fun _ hk _ => hk) _ _ h
theorem Later.drawn {C : Nat} {w w2 x : World} (h : Later w w2) (hd : Drawn C w2 x) (hC : w.heap.size ≤ C) : Later w x :=
  ⟨hd.below.os.trans h.os, hd.below.tape.trans h.tape, hd.below.output.trans h.output, Nat.le_trans h.size hd.below.size, fun k hk => (hd.other k (Nat.lt_of_lt_of_le hk h.size) (by omega)).trans (h.block k hk)⟩
def EndSt (C : Nat) (A : Option Addr) (n c : Nat) (w6 : World) (p : Pat) (kv : Value) (x : World) : Prop := ∃ num, x.heap[w6.heap.size]? = some (patCells p.op p.text num p.lo p.hi kv) ∧ CurAt x C A n c ∧ Drawn C w6 x
/-- What a draw of definitions, a pattern and a subject gives. -/
def Made (w : World) (defs : List Pat) (dA : Option Addr) (dc : Nat) (p : Pat) (kv : Value) (s : ByteArray) (w' : World) : Prop :=
  defs.length ≤ dc ∧ defs.length ≤ 3 ∧ Smalls defs ∧ Small p ∧ RowF (fun k => w.heap.size ≤ k) w' dA 0 defs ∧ KidsF (fun k => w.heap.size ≤ k) w' p kv ∧ s.size ≤ 9 ∧ Later w w'
def DrewMatch (w : World) (e : Ending) (w' : World) : Prop := ∃ (defs : List Pat) (dA : Option Addr) (dc : Nat) (p : Pat) (kv : Value) (s : ByteArray), e = .returned (.tuple #[.slice dA defs.length dc, p.v kv, .string s]) ∧ Made w defs dA dc p kv s w'
set_option maxRecDepth 100000 in
set_option maxHeartbeats 4000000 in
theorem l18Match_any (A : Option Addr) (n c : Nat) (w : World) (hby : BytesAt w A n) (hn : n ≤ 1048576) : Calls Try.prog 33 #[.slice A n c] w (DrewMatch w) := by
  have HBY := Lib.hid hby
  clear hby
  go_enter Try.func33, Try.ntmps33
  go_wp2_with fail
  have hl0 := Later.alloc (Later.refl w) (patCells 0 ⟨#[]⟩ 0 0 0 (.slice none 0 0))
  refine (l1New_any A n c _ (HBY.out.later hl0) hn).mono ?_
  rintro e w2 ⟨C, hC, rfl, hc2, hl2⟩
  have HBI := Lib.hid (HBY.out.in_ (C := C) (by have := hl0.size; omega) (hl0.trans hl2))
  have hCw : w.heap.size < C := by simp at hC; omega
  have HR2 := Lib.hid (Later.has hl2 (heap_alloc_new w (patCells 0 ⟨#[]⟩ 0 0 0 (.slice none 0 0))))
  have HL2 := Lib.hid (hl0.trans hl2)
  have HC2 := Lib.hid hc2
  clear hc2 hl2 hl0 hC
  go_wp2_with fail
  refine (l1Below_any C A n c _ HC2.out HBI.out hn 4 (by omega)).mono ?_
  rintro e w3 ⟨x, hx0, hx1, rfl, hc3, hd3⟩
  obtain ⟨m, rfl⟩ : ∃ m : Nat, x = m := ⟨x.toNat, by omega⟩
  have hC3 := hc3.lt
  have HR3 := Lib.hid (hd3.has HR2.out (by omega))
  have HL3 := Lib.hid hd3
  have HST : Hid (DfSt C A n c w3 [] [] (.slice (some ⟨w3.heap.size, 0, none⟩) 0 0) (w3.alloc (.cells #[] TP))) := Lib.hid ⟨hc3.later ((Later.refl _).alloc _), Drawn.later ((Later.refl _).alloc _) (by omega), hC3, ⟨rfl, .inr ⟨_, 0, #[], rfl, Nat.le_refl _, heap_alloc_new _ _, Nat.le_refl _, by simp [maxLen], by simp, rfl⟩⟩, rfl, by simp⟩
  have HB3 := Lib.hid (HBI.out.drawn hd3)
  clear hc3 hd3 HC2 HR2
  go_wp2_with fail
  go_loopw [7, 8] (fun v i wr => ∃ (ps : List Pat) (xs : List Value) (u : Value), u = v ∧ i = .int .i64 ps.length ∧ ps.length ≤ m ∧ DfSt C A n c w3 ps xs u wr) (fun _ i _ => m - (intOf i).toNat)
  case atStart => exact ⟨[], [], _, rfl, rfl, by simp, HST.out⟩
  case round =>
    obtain ⟨ps, xs, u, rfl, rfl, hlen, hst⟩ := hrel
    have HS := Lib.hid hst
    clear hst HST
    by_cases hlt : ps.length < m
    · have t1 : decide (ps.length < m) = true := by simp; omega
      go_wp2_with fail
      refine (l18Tree_any C A n c hn 2 2 m _ (by omega) (by omega) (by omega) (by omega) HS.out.cur (HB3.out.drawn HS.out.drawn)).mono ?_
      rintro e w4 ⟨p, kvp, hcp, rfl, hkp, hc4, hd4⟩
      have HS4 := Lib.hid (HS.out.step hd4 hc4)
      have HKP := Lib.hid (KidsF.keep (G := fun k => w3.heap.size ≤ k ∧ some k ≠ u.ownBlock) (fun _ _ _ => rfl) (Nat.le_refl _) (fun k hk _ => ⟨by have := HS.out.drawn.below.size; omega, fun e => by have := (HS.out.row.lt k e.symm).2.1; omega⟩) p kvp hkp)
      have HCP := Lib.hid hcp
      clear hcp hkp hc4 hd4 HS
      have hlw := Later.alloc (Later.refl w4) (patCells p.op p.text p.num p.lo p.hi kvp)
      obtain ⟨i, hi, hz0, hz1, hz2⟩ := info_parts infoPat
      go_wp2_with (at_builtin; refine wpList_append_has _ rfl _ _ _ rfl w3.heap.size TP i _ 6 72 Try.underlying24 hi hz0 hz1 hz2 rfl _ ps.length xs rfl ((HS4.out.later hlw).row) _ 1 1 [.int .i64 p.op, .string p.text, .int .i64 p.num, .int .i64 p.lo, .int .i64 p.hi, kvp] rfl rfl ?c1 ?c2 (by omega) ?c3 ?c4 ?c5 ?_; fail_if_success done)
      case c1 => exact cells_new _ [_, _, _, _, _, _] _
      case c2 =>
        intro u hu
        obtain ⟨ka, kc, rfl, _⟩ := HKP.out.form
        simp only [List.mem_cons, List.not_mem_nil, or_false] at hu
        rcases hu with rfl | rfl | rfl | rfl | rfl | rfl <;> rfl
      case c3 => simp only [maxLen]; omega
      case c4 => omega
      case c5 => have := HS4.out.drawn.below.size; simp; omega
      intro v' w' hrow hgrow hblock
      have HS5 := Lib.hid ((HS4.out.later hlw).grown (KidsF.keep (fun k _ hk => hlw.block k hk) hlw.size (fun k hk _ => hk) p kvp HKP.out) HCP.out hrow hgrow (by simpa using hblock))
      clear hrow hgrow hblock hlw HS4 HKP HCP
      go_wp2_with fail
      go_roundw
      case rel => exact ⟨ps ++ [p], _, _, rfl, by simp, by simp; omega, HS5.out⟩
      case measure => simp [intOf]; omega
    · have t1 : decide (ps.length < m) = false := by simp; omega
      have hw3 := HS.out.drawn.below.size
      obtain ⟨dA, dc, hu, hdc, hrf⟩ := rowF_mk HS.out.row HS.out.els (fun k hk => hk.1)
      subst hu
      have hsm : Smalls ps := fun j hj => by have := HS.out.cnt _ (List.getElem_mem hj); unfold Small; omega
      have HSM := Lib.hid hsm
      have HRF := Lib.hid hrf
      have HCU := Lib.hid HS.out.cur
      have HDR := Lib.hid HS.out.drawn
      clear HS hsm hrf hlt
      go_wp2_with fail
      refine (l1Size_any A n c hn _).mono ?_
      rintro e w' ⟨q, hq0, hq1, rfl, hw'⟩
      obtain rfl : wr = w' := hw'.symm
      go_wp2_with fail
      refine (l1Below_any C A n c _ HCU.out (HB3.out.drawn HDR.out) hn q (by omega)).mono ?_
      rintro e w5 ⟨x, hx2, hx3, rfl, hc5, hd5⟩
      have HRF5 := Lib.hid (RowF.drawn hd5 hC3 HRF.out)
      have HDR5 := Lib.hid (HDR.out.trans hd5)
      have HCU5 := Lib.hid hc5
      have hsz5 := hd5.below.size
      clear hc5 hd5 HCU HDR HRF
      go_wp2_with fail
      refine (l18Tree_any C A n c hn 4 (1 + x) m _ (by omega) (by omega) (by omega) (by omega) HCU5.out (HB3.out.drawn HDR5.out)).mono ?_
      rintro e w6 ⟨p, kv, hcp, rfl, hkp, hc6, hd6⟩
      have HRF6 := Lib.hid (RowF.drawn hd6 hC3 HRF5.out)
      have HKP6 := Lib.hid (KidsF.keep (G := fun k => w3.heap.size ≤ k) (fun _ _ _ => rfl) (Nat.le_refl _) (fun k hk _ => by omega) p kv hkp)
      have HDR6 := Lib.hid (HDR5.out.trans hd6)
      have HCU6 := Lib.hid hc6
      have HCP := Lib.hid (show Small p by unfold Small; omega)
      have hsz6 := hd6.below.size
      clear hc6 hd6 hkp HCU5 HDR5 HRF5 hcp
      obtain ⟨ka, kc, hkv, _, _⟩ := HKP6.out.form
      subst hkv
      go_wp2_with fail
      have hl7 := Later.alloc (Later.refl w6) (patCells p.op p.text p.num p.lo p.hi (.slice ka p.kids.length kc))
      have hC6 := HCU6.out.lt
      refine (l1Once_any C A n c _ (HCU6.out.later hl7) ((HB3.out.drawn HDR6.out).later hl7) hn 25 (by omega)).mono ?_
      rintro e w7 ⟨b, rfl, hc7, hd7⟩
      have HE7 : Hid (w7.heap[w6.heap.size]? = some (patCells p.op p.text p.num p.lo p.hi (.slice ka p.kids.length kc))) := Lib.hid (hd7.has (heap_alloc_new w6 _) (by omega))
      have HC7 := Lib.hid hc7
      have HD7 := Lib.hid ((Drawn.later hl7 (by omega)).trans hd7)
      clear hc7 hd7 hl7
      go_upto_if 35 with (fail)
      go_cut [] (fun wr => EndSt C A n c w6 p (.slice ka p.kids.length kc) wr)
      case first =>
        cases b
        · go_wp2_with fail
          go_meet
          exact ⟨_, HE7.out, HC7.out, HD7.out⟩
        · go_wp2_with fail
          refine (l1Below_any C A n c _ HC7.out ((HB3.out.drawn HDR6.out).drawn HD7.out) hn 200 (by omega)).mono ?_
          rintro e w8 ⟨y, hy0, hy1, rfl, hc8, hd8⟩
          have HE8 := Lib.hid (hd8.has HE7.out (by omega))
          have HC8 := Lib.hid hc8
          have HD8 := Lib.hid (HD7.out.trans hd8)
          clear hc8 hd8
          obtain ⟨p0, p1, p2, p3, p4, p5⟩ := cells_p HE8.out
          obtain ⟨f0, f1, f2, f3, f4, f5⟩ := frozen_p HE8.out
          go_wp2_with fail
          go_meet
          exact ⟨_, (set6 HE8.out _).2.2.1, HC8.out.own (by omega) _ _, HD8.out.own hC6 (Nat.le_refl _) _ _⟩
      case rest =>
      obtain ⟨w8, hnm⟩ : ∃ x, x = wc := ⟨_, rfl⟩
      rw [← hnm] at hcut ⊢
      clear hnm wc HE7 HC7 HD7
      obtain ⟨num, he8, hc8, hd8⟩ := hcut
      have HE8 := Lib.hid he8
      have HC8 := Lib.hid hc8
      have HD8 := Lib.hid hd8
      clear he8 hc8 hd8
      go_wp2_with fail
      -- region 11: 8 operations, the last [6, 7]
      refine wpV_begin [6, 7] [] (fun x => x.heap[w6.heap.size]? = some (patCells p.op p.text num p.lo p.hi (.slice ka p.kids.length kc))) (by kernel_rfl) (fun w9 hw9 => ?_)
      have HE9 := Lib.hid ((drew_later hw9).has HE8.out)
      have HC9 := Lib.hid (HC8.out.later (drew_later hw9))
      have HD9 := Lib.hid (HD8.out.trans (Drawn.later (drew_later hw9) (Nat.le_of_lt HC8.out.lt)))
      clear hw9 HE8 HC8 HD8
      have HS : Hid ((fun x => x.heap[w6.heap.size]? = some (patCells p.op p.text num p.lo p.hi (.slice ka p.kids.length kc))) w9) := Lib.hid HE9.out
      refine wpV_take 0 (some 40) (v := ?_) rfl rfl (by kernel_rfl) (fun _ _ _ h => h) rfl HS.out (fun x hx => ?_) ?_
      rotate_left 1
      · go_simp; first | done | with_reducible rfl | rw [if_neg (by omega)] | rw [if_pos (by omega)]
      simp only [Act.put, List.setIfInBounds_toArray, List.set_cons_zero, List.set_cons_succ]
      refine wpV_take 1 (some 41) (v := ?_) rfl rfl (by kernel_rfl) (fun _ _ _ h => h) rfl HS.out (fun x hx => ?_) ?_
      rotate_left 1
      · obtain ⟨p0, p1, p2, p3, p4, p5⟩ := cells_p hx; go_simp; first | done | with_reducible rfl | rw [if_neg (by omega)] | rw [if_pos (by omega)]
      simp only [Act.put, List.setIfInBounds_toArray, List.set_cons_zero, List.set_cons_succ]
      refine wpV_take 2 (some 42) (v := ?_) rfl rfl (by kernel_rfl) (fun _ _ _ h => h) rfl HS.out (fun x hx => ?_) ?_
      rotate_left 1
      · go_simp; first | done | with_reducible rfl | rw [if_neg (by omega)] | rw [if_pos (by omega)]
      simp only [Act.put, List.setIfInBounds_toArray, List.set_cons_zero, List.set_cons_succ]
      refine wpV_step 3 (by kernel_rfl) rfl rfl ?_  -- buildSlice 
      go_wp2_with fail
      have hl10 := Later.alloc (Later.refl w9) (.cells #[.string ⟨#[98, 97, 110, 97, 110, 97]⟩, .string ⟨#[]⟩, .string ⟨#[97]⟩, .string ⟨#[110, 97, 98]⟩, .string ⟨#[98, 97, 110, 97, 110, 97, 98, 97, 110]⟩, .string ⟨#[97, 98, 44, 99]⟩, .string ⟨#[97, 97, 97, 97]⟩] 9)
      refine ⟨hl10.has HS.out, ?_⟩
      refine wpV_step 4 (by kernel_rfl) rfl rfl ?_  -- call value (Go.Operand.func 65)
      go_wp2_with fail
      have hC9 := HC9.out.lt
      refine (l1Pick_any C A n c _ (HC9.out.later hl10) (((HB3.out.drawn HDR6.out).drawn HD9.out).later hl10) hn w9.heap.size 7 7 (fun v => v.size ≤ 9) (by omega) (by omega) (by simp) (by omega) (fun j hj => ?_)).mono ?_
      · have hr := fun j => cell_of_row _ w9.heap.size j _ _ _ (heap_alloc_new w9 (.cells #[.string ⟨#[98, 97, 110, 97, 110, 97]⟩, .string ⟨#[]⟩, .string ⟨#[97]⟩, .string ⟨#[110, 97, 98]⟩, .string ⟨#[98, 97, 110, 97, 110, 97, 98, 97, 110]⟩, .string ⟨#[97, 98, 44, 99]⟩, .string ⟨#[97, 97, 97, 97]⟩] 9))
        rcases j with _ | _ | _ | _ | _ | _ | _ | j
        all_goals first | omega | exact ⟨_, by decide, hr _⟩
      rintro e w10 ⟨s, hs, rfl, hc10, hd10⟩
      have HE10 := Lib.hid (hd10.has (hl10.has HE9.out) (by omega))
      have HD10 := Lib.hid ((HD9.out.trans (Drawn.later hl10 (Nat.le_of_lt hC9))).trans hd10)
      clear hl10 hc10 hd10 HS HC9 HD9 HE9
      have HS : Hid ((fun x => x.heap[w6.heap.size]? = some (patCells p.op p.text num p.lo p.hi (.slice ka p.kids.length kc))) w10) := Lib.hid HE10.out
      go_wp2_with fail
      refine ⟨HS.out, ?_⟩
      refine wpV_take 5 (some 2) (v := ?_) rfl rfl (by kernel_rfl) (fun _ _ _ h => h) rfl HS.out (fun x hx => ?_) ?_
      rotate_left 1
      · go_simp; first | done | with_reducible rfl | rw [if_neg (by omega)] | rw [if_pos (by omega)]
      simp only [Act.put, List.setIfInBounds_toArray, List.set_cons_zero, List.set_cons_succ]
      refine wpV_last [_, _] (by kernel_rfl) rfl rfl ?_
      simp only [List.getElem_toArray, List.getElem_cons_succ, List.getElem_cons_zero]
      have HR10 := Lib.hid (HD10.out.has (HDR6.out.has HR3.out (by omega)) (by omega))
      have hR10 := has_lt' HR10.out
      have hRw := has_lt' HR3.out
      have HRF10 := Lib.hid (RowF.drawn HD10.out hC3 HRF6.out)
      have HKP10 := Lib.hid (KidsF.drawn HD10.out hC3 HKP6.out)
      have HLL := Lib.hid ((((HL2.out.drawn HL3.out (by omega)).drawn HDR6.out (by omega)).drawn HD10.out (by omega)))
      clear HE10 HD10 HDR6 HR3 HRF6 HKP6 HS
      obtain ⟨q0, q1, q2, q3, q4, q5⟩ := cells_p HR10.out
      obtain ⟨f0, f1, f2, f3, f4, f5⟩ := frozen_p HR10.out
      go_wp2_with fail
      have HO := fun k hk => Lib.hid (set6_other (wr := w10) (R := w.heap.size) (k := k) hk (.int .i64 p.op) (.string p.text) (.int .i64 num) (.int .i64 p.lo) (.int .i64 p.hi) (.slice ka p.kids.length kc))
      refine bodyPost_ret (v := .tuple #[.slice dA ps.length dc, (Pat.mk p.op p.text num p.lo p.hi p.kids).v (.slice ka p.kids.length kc), .string s]) (by simp [results, Try.results33, go_sem, q0, q1, q2, q3, q4, q5, f0, f1, f2, f3, f4, f5, hR10]; exact ⟨rfl, rfl, rfl, rfl, rfl⟩) rfl ?_
      refine ⟨ps, dA, dc, .mk p.op p.text num p.lo p.hi p.kids, _, s, rfl, hdc, by omega, HSM.out, ?_, ?_, ?_, hs, ?_⟩
      · have := HCP.out; unfold Small at this ⊢; rw [count_eq] at this ⊢; exact this
      · exact RowF.keep (fun k hk _ => (HO k (by omega)).out) (by simp) (fun k hk _ => by omega) _ _ _ HRF10.out
      · have := (KidsF.keep (G := fun k => w.heap.size ≤ k) (fun k hk _ => (HO k (by omega)).out) (by simp) (fun k hk _ => by omega) _ _ HKP10.out).form
        simpa only [KidsF, Pat.kids] using this
      · exact (((((HLL.out.setCell (by simp) _).setCell (by simp) _).setCell (by simp) _).setCell (by simp) _).setCell (by simp) _).setCell (by simp) _
end Go.Proofs.Ytndefbecoahfhaa

/- The walk of a drawn region under a fact S of the worlds, where either of two operations may come next. -/
namespace Go.Proofs.Ytndefbecoahfhaa
open Go.RowKit

section
variable {P : Program} {ops : Array Oper} {Q : Exit → Act → World → Prop} {S : World → Prop}
theorem wpV_now {i : Nat} {L U : List Nat} {o : Oper} {fuel : Nat} {listed : Array Bool} {a : Act} {w : World} (hu : U.contains i = false) (ho : ops[i]? = some o)
    (h : wpList P ops (StepV Q S (fun a' w' => wpV P ops Q L U S fuel (listed.setIfInBounds i true) a' w')) [o] a w) :
    wpOp P ops Q i (fun a' w' => ((tlOf L U i = false → S w') ∧ (puOf U i = true → w' = w)) ∧ wpAnyU P .any ops Q (tlOf L U) (puOf U) S fuel (listed.setIfInBounds i true) a' w') a w := by
  unfold wpList at h
  unfold wpOp
  rw [ho]
  have hK : ∀ a' w', wpList P ops (StepV Q S (fun a' w' => wpV P ops Q L U S fuel (listed.setIfInBounds i true) a' w')) [] a' w' →
      (((tlOf L U i = false → S w') ∧ (puOf U i = true → w' = w)) ∧ wpAnyU P .any ops Q (tlOf L U) (puOf U) S fuel (listed.setIfInBounds i true) a' w') := fun a' w' h' =>
    ⟨⟨fun _ => h'.1, fun h0 => (by unfold puOf at h0; rw [hu] at h0; cases h0)⟩, h'.2⟩
  have hup : o.wp P a w (wpList P ops (StepV Q S (fun a' w' => wpV P ops Q L U S fuel (listed.setIfInBounds i true) a' w')) []) (StepV Q S (fun a' w' => wpV P ops Q L U S fuel (listed.setIfInBounds i true) a' w')) →
      o.wp P a w (wpList P ops (StepV Q S (fun a' w' => wpV P ops Q L U S fuel (listed.setIfInBounds i true) a' w')) []) Q := fun h' => by
    unfold Oper.wp at *
    generalize (execOp a.eval o).run P w = r at *
    cases r with
    | ok n w' => cases n <;> exact h'
    | halt x w' => cases x <;> exact h'
  show if Region.wanted o (yielded ops a.tmps) = true then _ else _
  split
  · rename_i hw
    rw [if_pos hw] at h
    rcases h with h | ⟨h1, h2⟩
    · exact .inl (Oper.wp_mono hK (hup h))
    · exact .inr ⟨h1, h2⟩
  · rename_i hw
    rw [if_neg hw] at h
    exact hK _ _ h
/-- Either of two comes next. -/
theorem wpV_two (i j : Nat) {L U : List Nat} {oi oj : Oper} {fuel : Nat} {listed : Array Bool} {a : Act} {w : World} (hr : Region.ready .any ops listed = [i, j]) (hui : U.contains i = false) (huj : U.contains j = false) (hoi : ops[i]? = some oi) (hoj : ops[j]? = some oj)
    (h1 : wpList P ops (StepV Q S (fun a' w' => wpV P ops Q L U S fuel (listed.setIfInBounds i true) a' w')) [oi] a w)
    (h2 : wpList P ops (StepV Q S (fun a' w' => wpV P ops Q L U S fuel (listed.setIfInBounds j true) a' w')) [oj] a w) : wpV P ops Q L U S (fuel + 1) listed a w := by
  refine ⟨fun h0 => (by rw [hr] at h0; cases h0), fun k hk => ?_⟩
  rw [hr] at hk
  simp only [List.mem_cons, List.not_mem_nil, or_false] at hk
  rcases hk with rfl | rfl
  · exact wpV_now hui hoi h1
  · exact wpV_now huj hoj h2
end
end Go.Proofs.Ytndefbecoahfhaa

/- spec.DrawMatchPattern, DrawSearchPattern, DrawPrunedSearch, DrawEndingsOf: well-formed arguments. Printed by gen_drdraw.py. -/
namespace Go.Proofs.Ytndefbecoahfhaa
open Go.RowKit

def DrewFull (w : World) (e : Ending) (w' : World) : Prop := ∃ (defs : List Pat) (dA : Option Addr) (dc : Nat) (p : Pat) (kv : Value) (s : ByteArray) (fr fuel : Int), 0 ≤ fr ∧ fr ≤ 2 ∧ 0 ≤ fuel ∧ fuel ≤ 4001 ∧ e = .returned (.tuple #[.slice dA defs.length dc, p.v kv, .string s, .int .i64 fr, .int .i64 fuel]) ∧ Made w defs dA dc p kv s w'
def DrewFour (w : World) (e : Ending) (w' : World) : Prop := ∃ (defs : List Pat) (dA : Option Addr) (dc : Nat) (p : Pat) (kv : Value) (s : ByteArray) (x : Int), -1 ≤ x ∧ x ≤ 4001 ∧ e = .returned (.tuple #[.slice dA defs.length dc, p.v kv, .string s, .int .i64 x]) ∧ Made w defs dA dc p kv s w'
theorem end_at (n : Nat) : IntKind.i64.wrap ((n : Int).tmod 3 - IntKind.i64.wrap (((n : Int).tmod 17).tdiv 16)) = (n : Int) % 3 - (n : Int) % 17 / 16 := by
  rw [Int.tmod_eq_emod_of_nonneg (by omega), Int.tmod_eq_emod_of_nonneg (by omega), Int.tdiv_eq_ediv_of_nonneg (by omega), IntWalk.i64_in ((n : Int) % 17 / 16) (by omega), IntWalk.i64_in _ (by omega)]
/-- The result is stored into its block, the first that the call made. -/
theorem Made.store {w w2 x : World} {defs : List Pat} {dA : Option Addr} {dc : Nat} {p : Pat} {kv : Value} {s : ByteArray} {o : Obj} (h : Made (w.alloc o) defs dA dc p kv s w2) (hl : Later w2 x) (v0 v1 v2 v3 v4 v5 : Value) :
    Made w defs dA dc p kv s ((((((x.setCell ⟨w.heap.size, 0, none⟩ v0).setCell ⟨w.heap.size, 1, none⟩ v1).setCell ⟨w.heap.size, 2, none⟩ v2).setCell ⟨w.heap.size, 3, none⟩ v3).setCell ⟨w.heap.size, 4, none⟩ v4).setCell ⟨w.heap.size, 5, none⟩ v5) := by
  obtain ⟨h1, h2, h3, h4, h5, h6, h7, h8⟩ := h
  have hs := hl.size
  have hO := fun k hk => set6_other (wr := x) (R := w.heap.size) (k := k) hk v0 v1 v2 v3 v4 v5
  have hF : ∀ k, (w.alloc o).heap.size ≤ k → k ≠ w.heap.size ∧ w.heap.size ≤ k := fun k hk => by simp at hk; omega
  refine ⟨h1, h2, h3, h4, RowF.keep (fun k hk hlt => (hO k (hF k hk).1).trans (hl.block k hlt)) (by simpa using hs) (fun k hk _ => (hF k hk).2) _ _ _ h5, KidsF.keep (fun k hk hlt => (hO k (hF k hk).1).trans (hl.block k hlt)) (by simpa using hs) (fun k hk _ => (hF k hk).2) _ _ h6, h7, ?_⟩
  have hl0 : Later w x := (((Later.refl w).alloc o).trans h8).trans hl
  exact (((((hl0.setCell (Nat.le_refl _) _).setCell (Nat.le_refl _) _).setCell (Nat.le_refl _) _).setCell (Nat.le_refl _) _).setCell (Nat.le_refl _) _).setCell (Nat.le_refl _) _

section
variable (A : Option Addr) (n c : Nat) (w : World) (hby : BytesAt w A n) (hn : n ≤ 1048576)
include hby hn
set_option maxRecDepth 100000 in
set_option maxHeartbeats 4000000 in
theorem drawMatch_any : Calls Try.prog 10 #[.slice A n c] w (DrewFull w) := by
  have HBY := Lib.hid hby
  clear hby
  go_enter Try.func10, Try.ntmps10
  go_wp2_with fail
  have hl0 := Later.alloc (Later.refl w) (patCells 0 ⟨#[]⟩ 0 0 0 (.slice none 0 0))
  refine (l18Match_any A n c _ (HBY.out.later hl0) hn).mono ?_
  rintro e w2 ⟨defs, dA, dc, p, kv, s, rfl, hmd⟩
  have HMD := Lib.hid hmd
  obtain ⟨ka, kc, hkv, _, _⟩ := hmd.2.2.2.2.2.1.form
  subst hkv
  clear hmd
  go_wp2_with fail
  have hl2 := Later.alloc (Later.refl w2) (patCells p.op p.text p.num p.lo p.hi (.slice ka p.kids.length kc))
  refine (l1New_any A n c _ (((HBY.out.later hl0).later HMD.out.2.2.2.2.2.2.2).later hl2) hn).mono ?_
  rintro e w3 ⟨C, hC, rfl, hc3, hl3⟩
  have hCw : w2.heap.size < C := by simp at hC; omega
  have hw2 : w.heap.size < w2.heap.size := by have := HMD.out.2.2.2.2.2.2.2.size; simp at this; omega
  have HL3 := Lib.hid hl3
  have HC3 := Lib.hid hc3
  clear hc3 hl3 hl2 hC
  go_wp2_with fail
  -- region 3: 13 operations, the last [9, 10, 11, 12]
  refine wpV_begin [9, 10, 11, 12] [2] (fun x => x.heap[w2.heap.size]? = some (patCells p.op p.text p.num p.lo p.hi (.slice ka p.kids.length kc))) (by kernel_rfl) (fun w4 hw4 => ?_)
  have HL4 := Lib.hid (HL3.out.trans (drew_later hw4))
  have HC4 := Lib.hid (HC3.out.later (drew_later hw4))
  have HE4 := Lib.hid (HL4.out.has (heap_alloc_new w2 (patCells p.op p.text p.num p.lo p.hi (.slice ka p.kids.length kc))))
  clear hw4 HL3 HC3
  have hC4 := HC4.out.lt
  have HS : Hid ((fun x => x.heap[w2.heap.size]? = some (patCells p.op p.text p.num p.lo p.hi (.slice ka p.kids.length kc))) w4) := Lib.hid HE4.out
  have HR4 := Lib.hid (((Later.refl w2).alloc _).trans HL4.out)
  have HB4 := Lib.hid (HBY.out.in_ (C := C) (by omega) ((hl0.trans HMD.out.2.2.2.2.2.2.2).trans HR4.out))
  refine wpV_take 0 (some 19) (v := ?_) rfl rfl (by kernel_rfl) (fun _ _ _ h => h) rfl HS.out (fun x hx => ?_) ?_
  rotate_left 1
  · go_simp; first | done | with_reducible rfl | rw [if_neg (by omega)] | rw [if_pos (by omega)]
  simp only [Act.put, List.setIfInBounds_toArray, List.set_cons_zero, List.set_cons_succ]
  refine wpV_take 1 (some 20) (v := ?_) rfl rfl (by kernel_rfl) (fun _ _ _ h => h) rfl HS.out (fun x hx => ?_) ?_
  rotate_left 1
  · obtain ⟨p0, p1, p2, p3, p4, p5⟩ := cells_p hx; go_simp; first | done | with_reducible rfl | rw [if_neg (by omega)] | rw [if_pos (by omega)]
  simp only [Act.put, List.setIfInBounds_toArray, List.set_cons_zero, List.set_cons_succ]
  refine wpV_pure 2 (some 21) (v := ?_) rfl rfl (by kernel_rfl) (fun _ _ _ h => h) rfl (fun x => ?_) ?_
  rotate_left 1
  · go_simp; first | done | with_reducible rfl | rw [if_neg (by omega)] | rw [if_pos (by omega)]
  simp only [Act.put, List.setIfInBounds_toArray, List.set_cons_zero, List.set_cons_succ]
  refine wpV_take 3 (some 22) (v := ?_) rfl rfl (by kernel_rfl) (fun _ _ _ h => h) rfl HS.out (fun x hx => ?_) ?_
  rotate_left 1
  · go_simp; first | done | with_reducible rfl | rw [if_neg (by omega)] | rw [if_pos (by omega)]
  simp only [Act.put, List.setIfInBounds_toArray, List.set_cons_zero, List.set_cons_succ]
  refine wpV_take 5 (some 24) (v := ?_) rfl rfl (by kernel_rfl) (fun _ _ _ h => h) rfl HS.out (fun x hx => ?_) ?_
  rotate_left 1
  · go_simp; first | done | with_reducible rfl | rw [if_neg (by omega)] | rw [if_pos (by omega)]
  simp only [Act.put, List.setIfInBounds_toArray, List.set_cons_zero, List.set_cons_succ]
  refine wpV_two 4 6 (by kernel_rfl) rfl rfl rfl rfl ?_ ?_
  · go_wp2_with fail
    refine (l1Below_any C A n c _ HC4.out HB4.out hn 3 (by omega)).mono ?_
    rintro e w5 ⟨fr, hf0, hf1, rfl, hc5, hd5⟩
    have HC5 := Lib.hid hc5
    have HD5 := Lib.hid hd5
    clear HS
    have HS : Hid ((fun x => x.heap[w2.heap.size]? = some (patCells p.op p.text p.num p.lo p.hi (.slice ka p.kids.length kc))) w5) := Lib.hid (hd5.has HE4.out (by omega))
    clear hc5 hd5
    go_wp2_with fail
    refine ⟨HS.out, ?_⟩
    refine wpV_step 6 (by kernel_rfl) rfl rfl ?_
    go_wp2_with fail
    have hl6 := Later.alloc (Later.refl w5) (.cells #[.int .i64 0, .int .i64 5, .int .i64 30, .int .i64 600, .int .i64 600, .int .i64 4000, .int .i64 4001] 3)
    have hrow := fun j => cell_of_row _ w5.heap.size j _ _ _ (heap_alloc_new w5 (.cells #[.int .i64 0, .int .i64 5, .int .i64 30, .int .i64 600, .int .i64 600, .int .i64 4000, .int .i64 4001] 3))
    have HROW := Lib.hid hrow
    clear hrow
    have HL6 := Lib.hid hl6
    clear hl6
    have HST := HS
    clear HS
    have HS : Hid ((fun x => x.heap[w2.heap.size]? = some (patCells p.op p.text p.num p.lo p.hi (.slice ka p.kids.length kc))) (w5.alloc (.cells #[.int .i64 0, .int .i64 5, .int .i64 30, .int .i64 600, .int .i64 600, .int .i64 4000, .int .i64 4001] 3))) := Lib.hid (HL6.out.has HST.out)
    refine ⟨HS.out, ?_⟩
    refine wpV_step 7 (by kernel_rfl) rfl rfl ?_
    go_wp2_with fail
    have hC5 := HC5.out.lt
    refine (l1PickInt_any C A n c _ (HC5.out.later HL6.out) ((HB4.out.drawn HD5.out).later HL6.out) hn w5.heap.size 7 7 (fun v => 0 ≤ v ∧ v ≤ 4001) (by omega) (by omega) (by simp) (by omega) (fun j hj => ?_)).mono ?_
    · rcases j with _ | _ | _ | _ | _ | _ | _ | j
      all_goals first | omega | exact ⟨_, by decide, HROW.out _⟩
    rintro e w7 ⟨fuel, hfu, rfl, hc7, hd7⟩
    have HD7 := Lib.hid ((HD5.out.trans (Drawn.later HL6.out (Nat.le_of_lt hC5))).trans hd7)
    clear HS hc7 hd7
    have HS : Hid ((fun x => x.heap[w2.heap.size]? = some (patCells p.op p.text p.num p.lo p.hi (.slice ka p.kids.length kc))) w7) := Lib.hid (HD7.out.has HE4.out (by omega))
    go_wp2_with fail
    refine ⟨HS.out, ?_⟩
    refine wpV_take 8 (some 2) (v := ?_) rfl rfl (by kernel_rfl) (fun _ _ _ h => h) rfl HS.out (fun x hx => ?_) ?_
    rotate_left 1
    · go_simp; first | done | with_reducible rfl | rw [if_neg (by omega)] | rw [if_pos (by omega)]
    simp only [Act.put, List.setIfInBounds_toArray, List.set_cons_zero, List.set_cons_succ]
    refine wpV_last [_, _, _, _] (by kernel_rfl) rfl rfl ?_
    simp only [List.getElem_toArray, List.getElem_cons_succ, List.getElem_cons_zero]
    have HL7 := Lib.hid (HR4.out.drawn HD7.out (by omega))
    have HR7 := Lib.hid (HL7.out.has (Later.has HMD.out.2.2.2.2.2.2.2 (heap_alloc_new w (patCells 0 ⟨#[]⟩ 0 0 0 (.slice none 0 0)))))
    have hR7 := has_lt' HR7.out
    clear HS HE4
    obtain ⟨q0, q1, q2, q3, q4, q5⟩ := cells_p HR7.out
    obtain ⟨f0, f1, f2, f3, f4, f5⟩ := frozen_p HR7.out
    go_wp2_with fail
    refine bodyPost_ret (v := .tuple #[.slice dA defs.length dc, p.v (.slice ka p.kids.length kc), .string s, .int .i64 fr, .int .i64 fuel]) (by simp [results, Try.results10, go_sem, q0, q1, q2, q3, q4, q5, f0, f1, f2, f3, f4, f5, hR7]) rfl ?_
    exact ⟨defs, dA, dc, p, _, s, fr, fuel, hf0, by omega, hfu.1, hfu.2, rfl, HMD.out.store HL7.out _ _ _ _ _ _⟩
  · go_wp2_with fail
    have hl5 := Later.alloc (Later.refl w4) (.cells #[.int .i64 0, .int .i64 5, .int .i64 30, .int .i64 600, .int .i64 600, .int .i64 4000, .int .i64 4001] 3)
    have hrow := fun j => cell_of_row _ w4.heap.size j _ _ _ (heap_alloc_new w4 (.cells #[.int .i64 0, .int .i64 5, .int .i64 30, .int .i64 600, .int .i64 600, .int .i64 4000, .int .i64 4001] 3))
    have HROW := Lib.hid hrow
    clear hrow
    have HL5 := Lib.hid hl5
    clear hl5
    have HST := HS
    clear HS
    have HS : Hid ((fun x => x.heap[w2.heap.size]? = some (patCells p.op p.text p.num p.lo p.hi (.slice ka p.kids.length kc))) (w4.alloc (.cells #[.int .i64 0, .int .i64 5, .int .i64 30, .int .i64 600, .int .i64 600, .int .i64 4000, .int .i64 4001] 3))) := Lib.hid (HL5.out.has HST.out)
    refine ⟨HS.out, ?_⟩
    refine wpV_step 4 (by kernel_rfl) rfl rfl ?_
    go_wp2_with fail
    refine (l1Below_any C A n c _ (HC4.out.later HL5.out) (HB4.out.later HL5.out) hn 3 (by omega)).mono ?_
    rintro e w5 ⟨fr, hf0, hf1, rfl, hc5, hd5⟩
    have HC5 := Lib.hid hc5
    have HD5 := Lib.hid ((Drawn.later HL5.out (Nat.le_of_lt hC4)).trans hd5)
    have HROW5 := Lib.hid (fun j => (hd5.cell (g := w4.heap.size) j (by simp) (by omega)).trans (HROW.out j))
    have hg5 : w4.heap.size < w5.heap.size := by have := hd5.below.size; simp at this; omega
    clear HS
    have HS : Hid ((fun x => x.heap[w2.heap.size]? = some (patCells p.op p.text p.num p.lo p.hi (.slice ka p.kids.length kc))) w5) := Lib.hid (hd5.has (HL5.out.has HE4.out) (by omega))
    clear hc5 hd5
    go_wp2_with fail
    refine ⟨HS.out, ?_⟩
    refine wpV_step 7 (by kernel_rfl) rfl rfl ?_
    go_wp2_with fail
    have hC5 := HC5.out.lt
    refine (l1PickInt_any C A n c _ HC5.out (HB4.out.drawn HD5.out) hn w4.heap.size 7 7 (fun v => 0 ≤ v ∧ v ≤ 4001) (by omega) (by omega) hg5 (by omega) (fun j hj => ?_)).mono ?_
    · rcases j with _ | _ | _ | _ | _ | _ | _ | j
      all_goals first | omega | exact ⟨_, by decide, HROW5.out _⟩
    rintro e w7 ⟨fuel, hfu, rfl, hc7, hd7⟩
    have HD7 := Lib.hid (HD5.out.trans hd7)
    clear HS hc7 hd7
    have HS : Hid ((fun x => x.heap[w2.heap.size]? = some (patCells p.op p.text p.num p.lo p.hi (.slice ka p.kids.length kc))) w7) := Lib.hid (HD7.out.has HE4.out (by omega))
    go_wp2_with fail
    refine ⟨HS.out, ?_⟩
    refine wpV_take 8 (some 2) (v := ?_) rfl rfl (by kernel_rfl) (fun _ _ _ h => h) rfl HS.out (fun x hx => ?_) ?_
    rotate_left 1
    · go_simp; first | done | with_reducible rfl | rw [if_neg (by omega)] | rw [if_pos (by omega)]
    simp only [Act.put, List.setIfInBounds_toArray, List.set_cons_zero, List.set_cons_succ]
    refine wpV_last [_, _, _, _] (by kernel_rfl) rfl rfl ?_
    simp only [List.getElem_toArray, List.getElem_cons_succ, List.getElem_cons_zero]
    have HL7 := Lib.hid (HR4.out.drawn HD7.out (by omega))
    have HR7 := Lib.hid (HL7.out.has (Later.has HMD.out.2.2.2.2.2.2.2 (heap_alloc_new w (patCells 0 ⟨#[]⟩ 0 0 0 (.slice none 0 0)))))
    have hR7 := has_lt' HR7.out
    clear HS HE4
    obtain ⟨q0, q1, q2, q3, q4, q5⟩ := cells_p HR7.out
    obtain ⟨f0, f1, f2, f3, f4, f5⟩ := frozen_p HR7.out
    go_wp2_with fail
    refine bodyPost_ret (v := .tuple #[.slice dA defs.length dc, p.v (.slice ka p.kids.length kc), .string s, .int .i64 fr, .int .i64 fuel]) (by simp [results, Try.results10, go_sem, q0, q1, q2, q3, q4, q5, f0, f1, f2, f3, f4, f5, hR7]) rfl ?_
    exact ⟨defs, dA, dc, p, _, s, fr, fuel, hf0, by omega, hfu.1, hfu.2, rfl, HMD.out.store HL7.out _ _ _ _ _ _⟩

set_option maxRecDepth 100000 in
set_option maxHeartbeats 4000000 in
theorem drawSearch_any : Calls Try.prog 51 #[.slice A n c] w (DrewFour w) := by
  have HBY := Lib.hid hby
  clear hby
  go_enter Try.func51, Try.ntmps51
  go_wp2_with fail
  have hl0 := Later.alloc (Later.refl w) (patCells 0 ⟨#[]⟩ 0 0 0 (.slice none 0 0))
  refine (drawMatch_any A n c _ (HBY.out.later hl0) hn).mono ?_
  rintro e w2 ⟨defs, dA, dc, p, kv, s, fr, fuel, hfr0, hfr1, hfu0, hfu1, rfl, hmd⟩
  have HMD := Lib.hid hmd
  obtain ⟨ka, kc, hkv, _, _⟩ := hmd.2.2.2.2.2.1.form
  subst hkv
  clear hmd
  go_wp2_with fail
  have hl2 := Later.alloc (Later.refl w2) (patCells p.op p.text p.num p.lo p.hi (.slice ka p.kids.length kc))
  have HE3 := Lib.hid (heap_alloc_new w2 (patCells p.op p.text p.num p.lo p.hi (.slice ka p.kids.length kc)))
  have HL3 := Lib.hid hl2
  clear hl2
  -- region 2: 8 operations, the last [5, 6, 7]
  refine wpU_begin [5, 6, 7] [2, 3] (by kernel_rfl) (fun w4 hw4 => ?_)
  have HE4 := Lib.hid ((drew_later hw4).has HE3.out)
  have HL4 := Lib.hid (HL3.out.trans (drew_later hw4))
  clear hw4 HE3 HL3
  refine wpU_take 0 (some 19) (v := ?_) rfl rfl (by kernel_rfl) (fun _ _ _ h => h) rfl (fun x hx => ?_) ?_
  rotate_left 1
  · go_simp; first | done | with_reducible rfl | rw [if_neg (by omega)] | rw [if_pos (by omega)]
  simp only [Act.put, List.setIfInBounds_toArray, List.set_cons_zero, List.set_cons_succ]
  refine wpU_take 1 (some 20) (v := ?_) rfl rfl (by kernel_rfl) (fun _ _ _ h => h) rfl (fun x hx => ?_) ?_
  rotate_left 1
  · obtain ⟨p0, p1, p2, p3, p4, p5⟩ := cells_p (hx.has HE4.out); go_simp; first | done | with_reducible rfl | rw [if_neg (by omega)] | rw [if_pos (by omega)]
  simp only [Act.put, List.setIfInBounds_toArray, List.set_cons_zero, List.set_cons_succ]
  refine wpU_pure 2 (some 21) (v := ?_) rfl rfl (by kernel_rfl) (fun _ _ _ h => h) rfl (fun x => ?_) ?_
  rotate_left 1
  · go_simp; first | done | with_reducible rfl | rw [if_neg (by omega)] | rw [if_pos (by omega)]
  simp only [Act.put, List.setIfInBounds_toArray, List.set_cons_zero, List.set_cons_succ]
  refine wpU_pure 3 (some 22) (v := ?_) rfl rfl (by kernel_rfl) (fun _ _ _ h => h) rfl (fun x => ?_) ?_
  rotate_left 1
  · go_simp; first | done | with_reducible rfl | rw [if_neg (by omega)] | rw [if_pos (by omega)]
  simp only [Act.put, List.setIfInBounds_toArray, List.set_cons_zero, List.set_cons_succ]
  refine wpU_take 4 (some 2) (v := ?_) rfl rfl (by kernel_rfl) (fun _ _ _ h => h) rfl (fun x hx => ?_) ?_
  rotate_left 1
  · go_simp; first | done | with_reducible rfl | rw [if_neg (by omega)] | rw [if_pos (by omega)]
  simp only [Act.put, List.setIfInBounds_toArray, List.set_cons_zero, List.set_cons_succ]
  refine wpU_last [_, _, _] (by kernel_rfl) rfl rfl ?_
  simp only [List.getElem_toArray, List.getElem_cons_succ, List.getElem_cons_zero]
  have HR4 := Lib.hid (HL4.out.has (Later.has HMD.out.2.2.2.2.2.2.2 (heap_alloc_new w (patCells 0 ⟨#[]⟩ 0 0 0 (.slice none 0 0)))))
  have hR4 := has_lt' HR4.out
  obtain ⟨q0, q1, q2, q3, q4, q5⟩ := cells_p HR4.out
  obtain ⟨f0, f1, f2, f3, f4, f5⟩ := frozen_p HR4.out
  go_wp2_with fail
  refine bodyPost_ret (v := .tuple #[.slice dA defs.length dc, p.v (.slice ka p.kids.length kc), .string s, .int .i64 fuel]) (by simp [results, Try.results51, go_sem, q0, q1, q2, q3, q4, q5, f0, f1, f2, f3, f4, f5, hR4]) rfl ?_
  exact ⟨defs, dA, dc, p, _, s, fuel, by omega, by omega, rfl, HMD.out.store HL4.out _ _ _ _ _ _⟩

set_option maxRecDepth 100000 in
set_option maxHeartbeats 4000000 in
theorem drawPruned_any : Calls Try.prog 27 #[.slice A n c] w (DrewFour w) := by
  have HBY := Lib.hid hby
  clear hby
  go_enter Try.func27, Try.ntmps27
  go_wp2_with fail
  have hl0 := Later.alloc (Later.refl w) (patCells 0 ⟨#[]⟩ 0 0 0 (.slice none 0 0))
  refine (drawSearch_any A n c _ (HBY.out.later hl0) hn).mono ?_
  rintro e w2 ⟨defs, dA, dc, p, kv, s, fuel, hfu0, hfu1, rfl, hmd⟩
  have HMD := Lib.hid hmd
  obtain ⟨ka, kc, hkv, _, _⟩ := hmd.2.2.2.2.2.1.form
  subst hkv
  clear hmd
  have HL4 := Lib.hid (Later.refl w2)
  have HR4 := Lib.hid (HL4.out.has (Later.has HMD.out.2.2.2.2.2.2.2 (heap_alloc_new w (patCells 0 ⟨#[]⟩ 0 0 0 (.slice none 0 0)))))
  have hR4 := has_lt' HR4.out
  obtain ⟨q0, q1, q2, q3, q4, q5⟩ := cells_p HR4.out
  obtain ⟨f0, f1, f2, f3, f4, f5⟩ := frozen_p HR4.out
  go_wp2_with fail
  refine bodyPost_ret (v := .tuple #[.slice dA defs.length dc, p.v (.slice ka p.kids.length kc), .string s, .int .i64 fuel]) (by simp [results, Try.results27, go_sem, q0, q1, q2, q3, q4, q5, f0, f1, f2, f3, f4, f5, hR4]) rfl ?_
  exact ⟨defs, dA, dc, p, _, s, fuel, by omega, by omega, rfl, HMD.out.store HL4.out _ _ _ _ _ _⟩

set_option maxRecDepth 100000 in
set_option maxHeartbeats 4000000 in
theorem drawEndings_any : Calls Try.prog 29 #[.slice A n c] w (DrewFour w) := by
  have HBY := Lib.hid hby
  clear hby
  go_enter Try.func29, Try.ntmps29
  go_wp2_with fail
  have hl0 := Later.alloc (Later.refl w) (patCells 0 ⟨#[]⟩ 0 0 0 (.slice none 0 0))
  refine (l18Match_any A n c _ (HBY.out.later hl0) hn).mono ?_
  rintro e w2 ⟨defs, dA, dc, p, kv, s, rfl, hmd⟩
  have HMD := Lib.hid hmd
  obtain ⟨ka, kc, hkv, _, _⟩ := hmd.2.2.2.2.2.1.form
  subst hkv
  clear hmd
  go_wp2_with fail
  have hl2 := Later.alloc (Later.refl w2) (patCells p.op p.text p.num p.lo p.hi (.slice ka p.kids.length kc))
  have HE3 := Lib.hid (heap_alloc_new w2 (patCells p.op p.text p.num p.lo p.hi (.slice ka p.kids.length kc)))
  have HL3 := Lib.hid hl2
  clear hl2
  -- region 2: 15 operations, the last [12, 13, 14]
  refine wpU_begin [12, 13, 14] [2, 3, 4, 5, 6, 7, 8, 9, 10] (by kernel_rfl) (fun w4 hw4 => ?_)
  have HE4 := Lib.hid ((drew_later hw4).has HE3.out)
  have HL4 := Lib.hid (HL3.out.trans (drew_later hw4))
  clear hw4 HE3 HL3
  refine wpU_take 0 (some 15) (v := ?_) rfl rfl (by kernel_rfl) (fun _ _ _ h => h) rfl (fun x hx => ?_) ?_
  rotate_left 1
  · go_simp; first | done | with_reducible rfl | rw [if_neg (by omega)] | rw [if_pos (by omega)]
  simp only [Act.put, List.setIfInBounds_toArray, List.set_cons_zero, List.set_cons_succ]
  refine wpU_take 1 (some 16) (v := ?_) rfl rfl (by kernel_rfl) (fun _ _ _ h => h) rfl (fun x hx => ?_) ?_
  rotate_left 1
  · obtain ⟨p0, p1, p2, p3, p4, p5⟩ := cells_p (hx.has HE4.out); go_simp; first | done | with_reducible rfl | rw [if_neg (by omega)] | rw [if_pos (by omega)]
  simp only [Act.put, List.setIfInBounds_toArray, List.set_cons_zero, List.set_cons_succ]
  refine wpU_pure 2 (some 17) (v := ?_) rfl rfl (by kernel_rfl) (fun _ _ _ h => h) rfl (fun x => ?_) ?_
  rotate_left 1
  · go_simp; first | done | with_reducible rfl | rw [if_neg (by omega)] | rw [if_pos (by omega)]
  simp only [Act.put, List.setIfInBounds_toArray, List.set_cons_zero, List.set_cons_succ]
  refine wpU_pure 3 (some 18) (v := ?_) rfl rfl (by kernel_rfl) (fun _ _ _ h => h) rfl (fun x => ?_) ?_
  rotate_left 1
  · go_simp; first | done | with_reducible rfl | rw [if_neg (by omega)] | rw [if_pos (by omega)]
  simp only [Act.put, List.setIfInBounds_toArray, List.set_cons_zero, List.set_cons_succ]
  refine wpU_pure 4 (some 19) (v := ?_) rfl rfl (by kernel_rfl) (fun _ _ _ h => h) rfl (fun x => ?_) ?_
  rotate_left 1
  · go_simp; first | done | with_reducible rfl | rw [if_neg (by omega)] | rw [if_pos (by omega)]
  simp only [Act.put, List.setIfInBounds_toArray, List.set_cons_zero, List.set_cons_succ]
  refine wpU_pure 5 (some 20) (v := ?_) rfl rfl (by kernel_rfl) (fun _ _ _ h => h) rfl (fun x => ?_) ?_
  rotate_left 1
  · go_simp; first | done | with_reducible rfl | rw [if_neg (by omega)] | rw [if_pos (by omega)]
  simp only [Act.put, List.setIfInBounds_toArray, List.set_cons_zero, List.set_cons_succ]
  refine wpU_pure 6 (some 21) (v := ?_) rfl rfl (by kernel_rfl) (fun _ _ _ h => h) rfl (fun x => ?_) ?_
  rotate_left 1
  · go_simp; first | done | with_reducible rfl | rw [if_neg (by omega)] | rw [if_pos (by omega)]
  simp only [Act.put, List.setIfInBounds_toArray, List.set_cons_zero, List.set_cons_succ]
  refine wpU_pure 7 (some 22) (v := ?_) rfl rfl (by kernel_rfl) (fun _ _ _ h => h) rfl (fun x => ?_) ?_
  rotate_left 1
  · go_simp; first | done | with_reducible rfl | rw [if_neg (by omega)] | rw [if_pos (by omega)]
  simp only [Act.put, List.setIfInBounds_toArray, List.set_cons_zero, List.set_cons_succ]
  refine wpU_pure 8 (some 23) (v := ?_) rfl rfl (by kernel_rfl) (fun _ _ _ h => h) rfl (fun x => ?_) ?_
  rotate_left 1
  · go_simp; first | done | with_reducible rfl | rw [if_neg (by omega)] | rw [if_pos (by omega)]
  simp only [Act.put, List.setIfInBounds_toArray, List.set_cons_zero, List.set_cons_succ]
  refine wpU_pure 9 (some 24) (v := ?_) rfl rfl (by kernel_rfl) (fun _ _ _ h => h) rfl (fun x => ?_) ?_
  rotate_left 1
  · go_simp; first | done | with_reducible rfl | rw [if_neg (by omega)] | rw [if_pos (by omega)]
  simp only [Act.put, List.setIfInBounds_toArray, List.set_cons_zero, List.set_cons_succ]
  refine wpU_pure 10 (some 25) (v := ?_) rfl rfl (by kernel_rfl) (fun _ _ _ h => h) rfl (fun x => ?_) ?_
  rotate_left 1
  · go_simp; first | done | with_reducible rfl | rw [if_neg (by omega)] | rw [if_pos (by omega)]
  simp only [Act.put, List.setIfInBounds_toArray, List.set_cons_zero, List.set_cons_succ]
  refine wpU_take 11 (some 2) (v := ?_) rfl rfl (by kernel_rfl) (fun _ _ _ h => h) rfl (fun x hx => ?_) ?_
  rotate_left 1
  · go_simp; first | done | with_reducible rfl | rw [if_neg (by omega)] | rw [if_pos (by omega)]
  simp only [Act.put, List.setIfInBounds_toArray, List.set_cons_zero, List.set_cons_succ]
  refine wpU_last [_, _, _] (by kernel_rfl) rfl rfl ?_
  simp only [List.getElem_toArray, List.getElem_cons_succ, List.getElem_cons_zero]
  have HR4 := Lib.hid (HL4.out.has (Later.has HMD.out.2.2.2.2.2.2.2 (heap_alloc_new w (patCells 0 ⟨#[]⟩ 0 0 0 (.slice none 0 0)))))
  have hR4 := has_lt' HR4.out
  obtain ⟨q0, q1, q2, q3, q4, q5⟩ := cells_p HR4.out
  obtain ⟨f0, f1, f2, f3, f4, f5⟩ := frozen_p HR4.out
  go_wp2_with fail
  refine bodyPost_ret (v := .tuple #[.slice dA defs.length dc, p.v (.slice ka p.kids.length kc), .string s, .int .i64 ((n : Int) % 3 - (n : Int) % 17 / 16)]) (by simp [results, Try.results29, go_sem, q0, q1, q2, q3, q4, q5, f0, f1, f2, f3, f4, f5, hR4]; exact end_at n) rfl ?_
  exact ⟨defs, dA, dc, p, _, s, ((n : Int) % 3 - (n : Int) % 17 / 16), by omega, by omega, rfl, HMD.out.store HL4.out _ _ _ _ _ _⟩

end
end Go.Proofs.Ytndefbecoahfhaa

/- laws.sameCaptures of two rows of the same captures is true. Printed by gen_same.py. -/
namespace Go.Proofs.Ytndefbecoahfhaa
open Go.RowKit

set_option maxRecDepth 100000 in
set_option maxHeartbeats 1000000 in
theorem sameCaptures_any (l : List Cap) (u v : Value) (w : World) (b1 b2 : Nat) (hu : HasRow w b1 TK 3 u l.length (capCells l)) (hv : HasRow w b2 TK 3 v l.length (capCells l)) (hn : l.length ≤ 1000000) :
    Calls Try.prog 13 #[u, v] w fun e w' => e = .returned (.bool true) ∧ Below w.heap.size w w' := by
  obtain ⟨uA, uc, rfl, _, _⟩ := hu.form
  obtain ⟨vA, vc, rfl, _, _⟩ := hv.form
  have HU := Lib.hid hu
  have HV := Lib.hid hv
  clear hu hv
  have hb1 : (l.length : Int) ≤ 1000000 := by omega
  go_enter Try.func13, Try.ntmps13
  go_wp2_with fail
  go_loopw [5] (fun i wr => ∃ j : Nat, j ≤ l.length ∧ i = .int .i64 j ∧ Below w.heap.size w wr) (fun i _ => l.length - (intOf i).toNat)
  case atStart => exact ⟨0, Nat.zero_le _, rfl, Below.refl _ _⟩
  case round =>
    obtain ⟨j, hj, rfl, hbel⟩ := hrel
    have hsz := hbel.size
    by_cases hlt : j < l.length
    · obtain ⟨g1, c1, hv1, a0, a1, a2⟩ := cap_cells HU.out hlt hbel
      obtain ⟨rfl, rfl⟩ : uA = some ⟨g1, 0, none⟩ ∧ uc = c1 := by simpa using hv1
      obtain ⟨g2, c2, hv2, d0, d1, d2⟩ := cap_cells HV.out hlt hbel
      obtain ⟨rfl, rfl⟩ : vA = some ⟨g2, 0, none⟩ ∧ vc = c2 := by simpa using hv2
      clear hv1 hv2
      have hlt' : (j : Int) < l.length := by omega
      have HA := Lib.hid (And.intro a0 (And.intro a1 a2))
      have HD := Lib.hid (And.intro d0 (And.intro d1 d2))
      have HG1 := Lib.hid (Nat.lt_of_lt_of_le (HU.out.lt g1 rfl).2.1 hsz)
      have HG2 := Lib.hid (Nat.lt_of_lt_of_le (HV.out.lt g2 rfl).2.1 hsz)
      clear a0 a1 a2 d0 d1 d2
      go_wp2_with fail
      -- region 6: 9 operations, the last [8]
      refine wpU_begin [8] [] (by kernel_rfl) (fun w3 hw3 => ?_)
      have hl3 := drew_later hw3
      have HG1' := Lib.hid (Nat.lt_of_lt_of_le HG1.out hl3.size)
      have HG2' := Lib.hid (Nat.lt_of_lt_of_le HG2.out hl3.size)
      have HA' := Lib.hid (And.intro ((hl3.cell _ (show g1 < _ from HG1.out)).trans HA.out.1) (And.intro ((hl3.cell _ (show g1 < _ from HG1.out)).trans HA.out.2.1) ((hl3.cell _ (show g1 < _ from HG1.out)).trans HA.out.2.2)))
      have HD' := Lib.hid (And.intro ((hl3.cell _ (show g2 < _ from HG2.out)).trans HD.out.1) (And.intro ((hl3.cell _ (show g2 < _ from HG2.out)).trans HD.out.2.1) ((hl3.cell _ (show g2 < _ from HG2.out)).trans HD.out.2.2)))
      have HL3 := Lib.hid (Below.trans hbel (Below.mono hl3 hsz))
      clear hw3 hl3
      refine wpU_take 0 (some 17) (v := ?_) rfl rfl (by kernel_rfl) (fun _ _ _ h => h) rfl (fun x hx => ?_) ?_
      rotate_left 1
      · go_simp; first | done | with_reducible rfl | rw [if_neg (by omega)] | rw [if_pos (by omega)]
      simp only [Act.put, List.setIfInBounds_toArray, List.set_cons_zero, List.set_cons_succ]
      refine wpU_take 1 (some 18) (v := ?_) rfl rfl (by kernel_rfl) (fun _ _ _ h => h) rfl (fun x hx => ?_) ?_
      rotate_left 1
      · go_simp; first | done | with_reducible rfl | rw [if_neg (by omega)] | rw [if_pos (by omega)]
      simp only [Act.put, List.setIfInBounds_toArray, List.set_cons_zero, List.set_cons_succ]
      refine wpU_take 2 (some 19) (v := ?_) rfl rfl (by kernel_rfl) (fun _ _ _ h => h) rfl (fun x hx => ?_) ?_
      rotate_left 1
      · go_simp; first | done | with_reducible rfl | rw [if_neg (by omega)] | rw [if_pos (by omega)]
      simp only [Act.put, List.setIfInBounds_toArray, List.set_cons_zero, List.set_cons_succ]
      refine wpU_take 3 (some 20) (v := ?_) rfl rfl (by kernel_rfl) (fun _ _ _ h => h) rfl (fun x hx => ?_) ?_
      rotate_left 1
      · have a0 := (hx.cell _ (show g1 < _ from HG1'.out)).trans HA'.out.1; have a1 := (hx.cell _ (show g1 < _ from HG1'.out)).trans HA'.out.2.1; have a2 := (hx.cell _ (show g1 < _ from HG1'.out)).trans HA'.out.2.2; have d0 := (hx.cell _ (show g2 < _ from HG2'.out)).trans HD'.out.1; have d1 := (hx.cell _ (show g2 < _ from HG2'.out)).trans HD'.out.2.1; have d2 := (hx.cell _ (show g2 < _ from HG2'.out)).trans HD'.out.2.2; go_simp; first | done | with_reducible rfl | rw [if_neg (by omega)] | rw [if_pos (by omega)]
      simp only [Act.put, List.setIfInBounds_toArray, List.set_cons_zero, List.set_cons_succ]
      refine wpU_take 4 (some 21) (v := ?_) rfl rfl (by kernel_rfl) (fun _ _ _ h => h) rfl (fun x hx => ?_) ?_
      rotate_left 1
      · go_simp; first | done | with_reducible rfl | rw [if_neg (by omega)] | rw [if_pos (by omega)]
      simp only [Act.put, List.setIfInBounds_toArray, List.set_cons_zero, List.set_cons_succ]
      refine wpU_take 5 (some 22) (v := ?_) rfl rfl (by kernel_rfl) (fun _ _ _ h => h) rfl (fun x hx => ?_) ?_
      rotate_left 1
      · go_simp; first | done | with_reducible rfl | rw [if_neg (by omega)] | rw [if_pos (by omega)]
      simp only [Act.put, List.setIfInBounds_toArray, List.set_cons_zero, List.set_cons_succ]
      refine wpU_take 6 (some 23) (v := ?_) rfl rfl (by kernel_rfl) (fun _ _ _ h => h) rfl (fun x hx => ?_) ?_
      rotate_left 1
      · go_simp; first | done | with_reducible rfl | rw [if_neg (by omega)] | rw [if_pos (by omega)]
      simp only [Act.put, List.setIfInBounds_toArray, List.set_cons_zero, List.set_cons_succ]
      refine wpU_take 7 (some 24) (v := ?_) rfl rfl (by kernel_rfl) (fun _ _ _ h => h) rfl (fun x hx => ?_) ?_
      rotate_left 1
      · have a0 := (hx.cell _ (show g1 < _ from HG1'.out)).trans HA'.out.1; have a1 := (hx.cell _ (show g1 < _ from HG1'.out)).trans HA'.out.2.1; have a2 := (hx.cell _ (show g1 < _ from HG1'.out)).trans HA'.out.2.2; have d0 := (hx.cell _ (show g2 < _ from HG2'.out)).trans HD'.out.1; have d1 := (hx.cell _ (show g2 < _ from HG2'.out)).trans HD'.out.2.1; have d2 := (hx.cell _ (show g2 < _ from HG2'.out)).trans HD'.out.2.2; go_simp; first | done | with_reducible rfl | rw [if_neg (by omega)] | rw [if_pos (by omega)]
      simp only [Act.put, List.setIfInBounds_toArray, List.set_cons_zero, List.set_cons_succ]
      refine wpU_last [_] (by kernel_rfl) rfl rfl ?_
      simp only [List.getElem_toArray, List.getElem_cons_succ, List.getElem_cons_zero]
      go_wp2_with fail
      go_roundw
      case rel => exact ⟨j + 1, by omega, by go_num, HL3.out⟩
      case measure => simp [intOf]; omega
    · go_wp2_with fail
      go_ret
      exact ⟨rfl, hbel⟩
end Go.Proofs.Ytndefbecoahfhaa

/- How the laws' code is read: its bytes can be read. No walk in sight. -/
namespace Go.Proofs.Ytndefbecoahfhaa
open Go.ChangeShapes Go.WideShapes Go.ChangeAt Go.RowKit

theorem c_u8 : Try.prog.cellsOf 5 = 1 := by kernel_rfl
theorem code_lt {w : World} {a : Addr} {v : Value} (h : w.cell? a = some v) : a.block < w.heap.size := by
  unfold World.cell? at h
  rcases hh : w.heap[a.block]? with _ | o
  · rw [hh] at h; cases h
  · exact (Array.getElem?_eq_some_iff.1 hh).1
set_option maxRecDepth 100000 in
theorem open_code {H : Type} {enc : TypeId × Value → H} {w : World} {spare : Nat → Bool} {held : Bool} {r : Reach} {b0 : Nat} {v : Value} {d : DataW H} {q : List MemPlace} (hv : Value.okWide Try.prog w r b0 22 v) (h : DataW.Trod enc Try.prog w 0 spare held 22 v d q) :
    ∃ (A : Option Addr) (n c : Nat), v = .slice A n c ∧ BytesAt w A n := by
  obtain ⟨a1, len, cap, rfl⟩ := okWide_slice Try.underlying22 hv
  obtain ⟨fuel, hf⟩ := h
  rcases open_ints Try.underlying22 Try.underlying5 c_u8 hf with ⟨hcs, hx⟩ | ⟨a, len', cap', zs, hcs, _, hl, hm, hz, hx, hcell, hwz⟩
  · simp [Value.cells] at hcs
    obtain ⟨rfl, rfl, rfl⟩ := hcs
    exact ⟨none, 0, 0, rfl, fun j hj => absurd hj (Nat.not_lt_zero _)⟩
  · simp [Value.cells] at hcs
    obtain ⟨rfl, rfl, rfl⟩ := hcs
    refine ⟨_, _, _, rfl, fun j hj => ?_⟩
    have hlz : len ≤ zs.length := by rw [hz]; split <;> omega
    have hc := hcell j (by omega)
    obtain ⟨ab, ao, spot⟩ := a
    have hspot : spot = none := by simpa [Addr.add] using World.cell?_spot (hcell 0 (by omega))
    subst hspot
    rw [Addr.add_lit] at hc
    have hb := range_u8 hwz j
    exact ⟨ab, ao, _, rfl, code_lt hc, by simpa using hb.1, by have := hb.2; rw [List.getD_eq_getElem?_getD]; omega, hc⟩
end Go.Proofs.Ytndefbecoahfhaa
