/- Part of the walks that the claim stands on. -/
import Derived.Test.YtndefbecoahfhaaChecked
import Derived.WalkKit
import Derived.WalkSpells
import Derived.WalkLawsBesides
import Derived.Lib.Hide
import Derived.Deep.RegionHeld3
import Derived.Deep.DrawnRows
import Derived.Below
import Derived.Deep.QuietTactic
import Derived.BigQuiet

namespace Go.Proofs.Ytndefbecoahfhaa
theorem nA {α : Type} (l : List α) (i : Nat) (a : α) : l.toArray.setIfInBounds i a = (l.set i a).toArray := List.setIfInBounds_toArray ..
theorem nB {α : Type} (a b : α) (l : List α) : (a :: l).set 0 b = b :: l := rfl
theorem nC {α : Type} (a b : α) (l : List α) (n : Nat) : (a :: l).set (n + 1) b = a :: l.set n b := rfl
end Go.Proofs.Ytndefbecoahfhaa


/- HasByte, impl's and spec's: one bit of a set of bytes. -/
namespace Go.Proofs.Ytndefbecoahfhaa
open Go.RowKit

/-- Bit k of a 64-bit word. -/
def bit (x : Int) (k : Nat) : Bool := bits .and .u64 (IntKind.u64.wrap x / 2 ^ k) 1 == 1
theorem wrap_u64_ofInt (x : Int) : IntKind.u64.wrap x = ((BitVec.ofInt 64 x).toNat : Int) := by
  rw [BitVec.toNat_ofInt]
  have : IntKind.u64.wrap x = x % 18446744073709551616 := by rw [IntKind.wrap_u64]
  rw [this]; omega
theorem bit_eq (x : Int) (k : Nat) : bit x k = (BitVec.ofInt 64 x).getLsbD k := by
  unfold bit
  rw [wrap_u64_ofInt]
  generalize BitVec.ofInt 64 x = X
  have hX := X.isLt
  have e : ((X.toNat : Int) / 2 ^ k) = ((X.toNat / 2 ^ k : Nat) : Int) := by simp
  have hle : X.toNat / 2 ^ k ≤ X.toNat := Nat.div_le_self _ _
  rw [e, show (1 : Int) = ((1 : Nat) : Int) from rfl, u64_and_nat _ _ (by omega) (by omega)]
  rw [BitVec.getLsbD, Nat.testBit, Nat.shiftRight_eq_div_pow, Nat.and_comm]
  rcases Nat.mod_two_eq_zero_or_one (X.toNat / 2 ^ k) with h | h <;> simp [h]
theorem bits_i64 (x y : Int) : bits .and .i64 x y = IntKind.i64.wrap ((BitVec.ofInt 64 x &&& BitVec.ofInt 64 y).toNat : Int) := rfl
theorem bit_spec (x : Int) (k : Nat) (hk : k < 64) : (bits .and .i64 x (wrap64 (2 ^ k)) != 0) = bit x k := by
  rw [bit_eq, bits_i64]
  have e : BitVec.ofInt 64 (wrap64 (2 ^ k)) = BitVec.twoPow 64 k := by
    apply BitVec.eq_of_toNat_eq
    rw [BitVec.toNat_ofInt, BitVec.toNat_twoPow]
    have hp : (2 : Nat) ^ k < 2 ^ 64 := Nat.pow_lt_pow_right (by decide) hk
    have hc : ((2 : Int) ^ k) = ((2 ^ k : Nat) : Int) := by simp
    rw [hc]
    unfold wrap64
    rw [Nat.mod_eq_of_lt hp]
    generalize 2 ^ k = n at *
    omega
  rw [e, BitVec.and_twoPow]
  cases h : (BitVec.ofInt 64 x).getLsbD k
  · simp
    rfl
  · simp only [if_true]
    have hp : (2 : Nat) ^ k < 2 ^ 64 := Nat.pow_lt_pow_right (by decide) hk
    have hpos : 0 < (2 : Nat) ^ k := Nat.pow_pos (by decide)
    rw [BitVec.toNat_twoPow, Nat.mod_eq_of_lt hp, IntKind.wrap_i64]
    generalize 2 ^ k = n at *
    simp
    omega

/-- Whether the byte b is of the set. -/
def hb (lo hi b : Int) : Bool := if 127 < b then false else if b < 64 then bit lo b.toNat else bit hi (b - 64).toNat
theorem hb_out (lo hi b : Int) (h : 127 < b) : hb lo hi b = false := by unfold hb; rw [if_pos h]
theorem hb_lo (lo hi b : Int) (_h0 : 0 ≤ b) (h : b < 64) : hb lo hi b = bit lo b.toNat := by unfold hb; rw [if_neg (by omega), if_pos h]
theorem hb_hi (lo hi b : Int) (h0 : 64 ≤ b) (h : b ≤ 127) : hb lo hi b = bit hi (b - 64).toNat := by unfold hb; rw [if_neg (by omega), if_neg (by omega)]

set_option maxHeartbeats 400000 in
theorem implHasByte_any (lo hi b : Int) (w : World) (h0 : 0 ≤ b) (h1 : b < 256) :
    Calls Try.prog 56 #[.agg #[.int .i64 lo, .int .i64 hi], .int .u8 b] w fun e w' => e = .returned (.bool (hb lo hi b)) ∧ Below w.heap.size w w' := by
  by_cases h2 : 127 < b
  · rw [hb_out lo hi b h2]
    go_enter Try.func56, Try.ntmps56
    go_wp2
    go_ret
    exact ⟨rfl, (Below.refl _ _).alloc (Nat.le_refl _) _⟩
  · by_cases h3 : b < 64
    · have hv := Lib.hid (hb_lo lo hi b h0 h3)
      go_enter Try.func56, Try.ntmps56
      go_wp2
      go_ret
      exact ⟨by rw [hv.out]; rfl, (Below.refl _ _).alloc (Nat.le_refl _) _⟩
    · have hv := Lib.hid (hb_hi lo hi b (by omega) (by omega))
      go_enter Try.func56, Try.ntmps56
      go_wp2
      go_ret
      exact ⟨by rw [hv.out]; rfl, (Below.refl _ _).alloc (Nat.le_refl _) _⟩

set_option maxHeartbeats 400000 in
theorem specHasByte_any (lo hi b : Int) (w : World) (h0 : 0 ≤ b) (h1 : b < 256) :
    Calls Try.prog 73 #[.agg #[.int .i64 lo, .int .i64 hi], .int .u8 b] w fun e w' => e = .returned (.bool (hb lo hi b)) ∧ Below w.heap.size w w' := by
  by_cases h2 : 127 < b
  · rw [hb_out lo hi b h2]
    go_enter Try.func73, Try.ntmps73
    go_wp2
    go_ret
    exact ⟨rfl, (Below.refl _ _).alloc (Nat.le_refl _) _⟩
  · by_cases h3 : b < 64
    · have hv := Lib.hid (hb_lo lo hi b h0 h3)
      go_enter Try.func73, Try.ntmps73
      go_wp2
      go_ret
      exact ⟨by rw [hv.out]; rw [← bit_spec lo b.toNat (by omega)]; rfl, (Below.refl _ _).alloc (Nat.le_refl _) _⟩
    · have hv := Lib.hid (hb_hi lo hi b (by omega) (by omega))
      go_enter Try.func73, Try.ntmps73
      go_wp2
      go_ret
      exact ⟨by rw [hv.out]; rw [← bit_spec hi (b - 64).toNat (by omega)]; rfl, (Below.refl _ _).alloc (Nat.le_refl _) _⟩

end Go.Proofs.Ytndefbecoahfhaa

/- A region that draws its order, walked in ONE order: what reads only cells that lie before is taken first, in every later world; what makes memory comes up alone; what is left at the end waits for all the rest. -/
namespace Go.Proofs.Ytndefbecoahfhaa
open Go.RowKit

/-- x is w with new blocks alone (and other draws). -/
def Later (w x : World) : Prop := Below w.heap.size w x
theorem Later.refl (w : World) : Later w w := Below.refl _ _
theorem Later.trans {a b c : World} (h : Later a b) (k : Later b c) : Later a c := Below.trans h (Below.mono k h.size)
theorem Later.cell {w x : World} (h : Later w x) : ∀ p : Addr, p.block < w.heap.size → x.cell? p = w.cell? p := fun _ hp => Below.cell h hp
theorem Later.frozen {w x : World} (h : Later w x) : ∀ p : Addr, p.block < w.heap.size → x.frozen? p = w.frozen? p := fun _ hp => Below.frozen h hp
theorem Later.block {w x : World} (h : Later w x) : ∀ k, k < w.heap.size → x.heap[k]? = w.heap[k]? := fun k hk => Below.block h k hk
theorem Later.size {w x : World} (h : Later w x) : w.heap.size ≤ x.heap.size := Below.size h
theorem Later.drew {w x : World} (h : Later w x) : Later w x.drew := Below.drew h
theorem Later.alloc {w x : World} (h : Later w x) (o : Obj) : Later w (x.alloc o) := Below.alloc h h.size o

section
variable {P : Program} {ops : Array Oper} {Q : Exit → Act → World → Prop} {md : Region.Mode} {tl : Nat → Bool} {S S' : World → Prop}

/-- Whatever order is picked from here on; behind every operation that is not among the last ones S holds. -/
def wpAnyT (P : Program) (md : Region.Mode) (ops : Array Oper) (Q : Exit → Act → World → Prop) (tl : Nat → Bool) (S : World → Prop) : Nat → Array Bool → Act → World → Prop
  | 0, listed, a, w => Region.ready md ops listed = [] ∧ Q .normal a w
  | fuel + 1, listed, a, w =>
    (Region.ready md ops listed = [] → Q .normal a w) ∧
    ∀ i ∈ Region.ready md ops listed, wpOp P ops Q i (fun a' w' => (tl i = false → S w') ∧ wpAnyT P md ops Q tl S fuel (listed.setIfInBounds i true) a' w') a w

theorem wpAny_of_T : ∀ (fuel : Nat) (listed : Array Bool) (a : Act) (w : World), wpAnyT P md ops Q tl S fuel listed a w → wpAny P md ops Q fuel listed a w
  | 0, _, _, _, h => h
  | fuel + 1, _, _, _, h => ⟨h.1, fun i hi => wpOp_mono (fun a' w' h' => wpAny_of_T fuel _ a' w' h'.2) (h.2 i hi)⟩

theorem wpAnyT_mono (hs : ∀ w, S' w → S w) : ∀ (fuel : Nat) (listed : Array Bool) (a : Act) (w : World), wpAnyT P md ops Q tl S' fuel listed a w → wpAnyT P md ops Q tl S fuel listed a w
  | 0, _, _, _, h => h
  | fuel + 1, _, _, _, h => ⟨h.1, fun i hi => wpOp_mono (fun a' w' h' => ⟨fun ht => hs _ (h'.1 ht), wpAnyT_mono hs fuel _ a' w' h'.2⟩) (h.2 i hi)⟩

/-- What is listed has its forerunners listed. -/
def closed (md : Region.Mode) (ops : Array Oper) (listed : Array Bool) : Prop :=
  ∀ j o, ops[j]? = some o → listed.getD j false = true → ∀ e ∈ o.after, Region.binds md e = true → listed.getD e.on false = true
def closedB (md : Region.Mode) (ops : Array Oper) (listed : Array Bool) : Bool :=
  (List.range ops.size).all fun j => !listed.getD j false || match ops[j]? with
    | some o => o.after.all fun e => !Region.binds md e || listed.getD e.on false
    | none => true
theorem closed_of {listed : Array Bool} (h : closedB md ops listed = true) : closed md ops listed := by
  intro j o ho hl e he hb
  have hj : j < ops.size := (Array.getElem?_eq_some_iff.1 ho).1
  have h1 := List.all_eq_true.1 h j (List.mem_range.2 hj)
  simp only [ho, hl, Bool.not_true, Bool.false_or] at h1
  have h2 := Array.all_eq_true_iff_forall_mem.1 h1 e he
  simpa [hb] using h2
theorem closed_set {listed : Array Bool} {j : Nat} (h : closed md ops listed) (hj : j ∈ Region.ready md ops listed) : closed md ops (listed.setIfInBounds j true) := by
  intro k o ho hl e he hb
  obtain ⟨_, oj, hoj, hall⟩ := mem_ready.1 hj
  by_cases hjk : j = k
  · subst hjk
    rw [hoj] at ho
    cases ho
    exact getD_set_true (hall e he hb)
  · rw [getD_set_ne false hjk] at hl
    exact getD_set_true (h k o ho hl e he hb)

/-- j waits for i, at once or through others. -/
def reach (md : Region.Mode) (ops : Array Oper) : Nat → Nat → Nat → Bool
  | 0, _, _ => false
  | f + 1, j, i => match ops[j]? with
    | some o => o.after.any fun e => Region.binds md e && (e.on == i || reach md ops f e.on i)
    | none => false
theorem listed_of_reach {listed : Array Bool} (hc : closed md ops listed) : ∀ (f j i : Nat) (o : Oper), ops[j]? = some o → (∀ e ∈ o.after, Region.binds md e = true → listed.getD e.on false = true) →
    reach md ops f j i = true → listed.getD i false = true
  | 0, _, _, _, _, _, h => by simp [reach] at h
  | f + 1, j, i, o, ho, hall, h => by
    simp only [reach, ho] at h
    obtain ⟨e, he, h1⟩ := Array.any_eq_true'.1 h
    simp only [Bool.and_eq_true, Bool.or_eq_true, beq_iff_eq] at h1
    obtain ⟨hb, h2⟩ := h1
    rcases h2 with h2 | h2
    · rw [← h2]; exact hall e he hb
    · rcases hoe : ops[e.on]? with _ | oe
      · cases f <;> simp [reach, hoe] at h2
      · exact listed_of_reach hc f e.on i oe hoe (hc e.on oe hoe (hall e he hb)) h2

theorem wpAnyT_first {i : Nat} {oi : Oper} {v : Value} (hi : ops[i]? = some oi) (hsel : ∀ (j : Nat) (o : Oper) cs b, ops[j]? = some o → o.op ≠ .select cs b)
    (hQ : ∀ c a w, Q (.panic c) (a.put oi.dst v) w → Q (.panic c) a w) (htl : ∀ j, j < ops.size → tl j = true → (∀ w, S w) ∨ reach md ops ops.size j i = true) :
    ∀ (fuel : Nat) (listed : Array Bool) (a : Act) (w : World),
      (∀ j oj, ops[j]? = some oj → j ≠ i → listed.getD j true = false → (∀ e ∈ oj.after, Region.binds md e = true → e.on ≠ i) → oi.apart ops oj = true) → closed md ops listed →
      i ∈ Region.ready md ops listed → YieldsIf P ops S oi v a → S w →
      wpAnyT P md ops Q tl S fuel (listed.setIfInBounds i true) (a.put oi.dst v) w → wpAnyT P md ops Q tl S (fuel + 1) listed a w := by
  intro fuel
  induction fuel with
  | zero =>
    intro listed a w _ _ hr hy hS H
    refine ⟨fun h => (by rw [h] at hr; cases hr), fun j hj => ?_⟩
    by_cases hji : j = i
    · subst hji; exact hy.wpOp hi hS ⟨fun _ => hS, H⟩
    · have := ready_mono hj hji
      rw [H.1] at this
      cases this
  | succ fuel ih =>
    intro listed a w hfree hcl hr hy hS H
    refine ⟨fun h => (by rw [h] at hr; cases hr), fun j hj => ?_⟩
    by_cases hji : j = i
    · subst hji; exact hy.wpOp hi hS ⟨fun _ => hS, H⟩
    · have h1 := H.2 j (ready_mono hj hji)
      obtain ⟨hjun, oj, hoj, hall⟩ := mem_ready.1 hj
      have hiun : listed.getD i false = true → False := fun h1 => by
        have h0 := (mem_ready.1 hr).1
        rcases Nat.lt_or_ge i listed.size with h' | h'
        · simp [h'] at h0 h1; rw [h0] at h1; cases h1
        · simp [Array.getElem?_eq_none h'] at h1
      have hnot : ∀ e ∈ oj.after, Region.binds md e = true → e.on ≠ i := fun e he hb heq => hiun (by rw [← heq]; exact hall e he hb)
      have hSj : ∀ w', (tl j = false → S w') → S w' := fun w' hw' => by
        cases ht : tl j with
        | false => exact hw' ht
        | true =>
          rcases htl j (Array.getElem?_eq_some_iff.1 hoj).1 ht with h | h
          · exact h w'
          · exact (hiun (listed_of_reach hcl _ j i oj hoj hall h)).elim
      have h2 := wpOp_putIf hoj (hfree j oj hoj hji hjun hnot) (fun cs b => hsel i oi cs b hi) (fun cs b => hsel j oj cs b hoj) hQ hy h1
      have hfree' : ∀ k ok, ops[k]? = some ok → k ≠ i → (listed.setIfInBounds j true).getD k true = false →
          (∀ e ∈ ok.after, Region.binds md e = true → e.on ≠ i) → oi.apart ops ok = true := fun k ok hk hki hun hno => by
        refine hfree k ok hk hki ?_ hno
        by_cases hjk : j = k
        · subst hjk; exact hjun
        · rw [getD_set_ne true hjk] at hun; exact hun
      refine wpOp_mono (fun a' w' h3 => ⟨h3.2.1, ih (listed.setIfInBounds j true) a' w' hfree' (closed_set hcl hj) (ready_mono hr (Ne.symm hji)) h3.1 (hSj w' h3.2.1) ?_⟩) h2
      rw [Array.setIfInBounds_comm _ _ hji]
      exact h3.2.2

/-- Every last operation waits for i. -/
def tailB (md : Region.Mode) (ops : Array Oper) (tl : Nat → Bool) (i : Nat) : Bool := (List.range ops.size).all fun j => !tl j || reach md ops ops.size j i

/-- All that is asked of the region's form where operation i is taken first. -/
def takeB (ops : Array Oper) (tl : Nat → Bool) (listed : Array Bool) (i : Nat) : Bool :=
  Region.noSelect ops && Region.free .any ops listed i && (Region.ready .any ops listed).contains i && closedB .any ops listed && tailB .any ops tl i

/-- The state of the walk: from world w on. -/
def wpS (P : Program) (ops : Array Oper) (Q : Exit → Act → World → Prop) (tl : Nat → Bool) (fuel : Nat) (listed : Array Bool) (a : Act) (w : World) : Prop :=
  wpAnyT P .any ops Q tl (Later w) fuel listed a w

theorem wpS_begin (m : Nat) {id : Nat} {a : Act} {w : World} (hm : P.follows .mixedOrders = true)
    (h : ∀ w1, w1 = w.drew → wpS P ops Q (fun j => decide (m ≤ j)) ops.size (Array.replicate ops.size false) a w1) : (Code.region id ops true).wp P Q a w :=
  wp_region_any hm (wpAny_of_T _ _ _ _ (h w.drew rfl))

/-- Operation i is taken first: it reads only what lies in w already. -/
theorem wpS_take (i : Nat) (d : Option Tmp) {oi : Oper} {v : Value} {fuel : Nat} {listed : Array Bool} {a : Act} {w : World} (hi : ops[i]? = some oi) (hd : oi.dst = d)
    (hB : takeB ops tl listed i = true)
    (hQ : ∀ c a w, Q (.panic c) (a.put d v) w → Q (.panic c) a w)
    (hw : Region.wanted oi (yielded ops a.tmps) = true) (hy : ∀ x, Later w x → (execOp a.eval oi).run P x = .ok (.value v) x)
    (h : wpS P ops Q tl fuel (listed.setIfInBounds i true) (a.put d v) w) : wpS P ops Q tl (fuel + 1) listed a w := by
  subst hd
  simp only [takeB, Bool.and_eq_true] at hB
  obtain ⟨⟨⟨⟨hs, hf⟩, hr⟩, hc⟩, ht⟩ := hB
  exact wpAnyT_first hi (Region.noSelect_spec hs) hQ (fun j hj htj => .inr (by have := List.all_eq_true.1 ht j (List.mem_range.2 hj); simpa [htj] using this)) fuel listed a w (Region.free_spec hi hf) (closed_of hc) (by simpa using hr) (.inl ⟨hw, hy⟩) (Later.refl w) h

/-- Operation i is not wanted (its guard says so). -/
theorem wpS_skip (i : Nat) (d : Option Tmp) {oi : Oper} {fuel : Nat} {listed : Array Bool} {a : Act} {w : World} (hi : ops[i]? = some oi) (hd : oi.dst = d)
    (hB : takeB ops tl listed i = true)
    (hQ : ∀ c a w, Q (.panic c) (a.put d undef) w → Q (.panic c) a w)
    (hw : Region.wanted oi (yielded ops a.tmps) = false)
    (h : wpS P ops Q tl fuel (listed.setIfInBounds i true) (a.put d undef) w) : wpS P ops Q tl (fuel + 1) listed a w := by
  subst hd
  simp only [takeB, Bool.and_eq_true] at hB
  obtain ⟨⟨⟨⟨hs, hf⟩, hr⟩, hc⟩, ht⟩ := hB
  exact wpAnyT_first hi (Region.noSelect_spec hs) hQ (fun j hj htj => .inr (by have := List.all_eq_true.1 ht j (List.mem_range.2 hj); simpa [htj] using this)) fuel listed a w (Region.free_spec hi hf) (closed_of hc) (by simpa using hr) (.inr ⟨hw, rfl⟩) (Later.refl w) h

/-- The post of one operation that comes up alone. -/
def StepQ (Q : Exit → Act → World → Prop) (w : World) (K : Act → World → Prop) : Exit → Act → World → Prop
  | .normal, a', w' => Later w w' ∧ K a' w'
  | e, a', w' => Q e a' w'

/-- Operation i comes up alone: it makes memory, and leaves what lies in w as it is. -/
theorem wpS_step (i : Nat) {o : Oper} {fuel : Nat} {listed : Array Bool} {a : Act} {w : World} (hr : Region.ready .any ops listed = [i]) (ho : ops[i]? = some o)
    (h : wpList P ops (StepQ Q w (fun a' w' => wpS P ops Q tl fuel (listed.setIfInBounds i true) a' w')) [o] a w) : wpS P ops Q tl (fuel + 1) listed a w := by
  refine ⟨fun h0 => (by rw [hr] at h0; cases h0), fun j hj => ?_⟩
  rw [hr] at hj
  obtain rfl : j = i := by simpa using hj
  unfold wpList at h
  unfold wpOp
  rw [ho]
  have hK : ∀ a' w', wpList P ops (StepQ Q w (fun a' w' => wpS P ops Q tl fuel (listed.setIfInBounds j true) a' w')) [] a' w' →
      ((tl j = false → Later w w') ∧ wpAnyT P .any ops Q tl (Later w) fuel (listed.setIfInBounds j true) a' w') := fun a' w' h' =>
    ⟨fun _ => h'.1, wpAnyT_mono (fun x hx => h'.1.trans hx) _ _ _ _ h'.2⟩
  have hup : o.wp P a w (wpList P ops (StepQ Q w (fun a' w' => wpS P ops Q tl fuel (listed.setIfInBounds j true) a' w')) []) (StepQ Q w (fun a' w' => wpS P ops Q tl fuel (listed.setIfInBounds j true) a' w')) →
      o.wp P a w (wpList P ops (StepQ Q w (fun a' w' => wpS P ops Q tl fuel (listed.setIfInBounds j true) a' w')) []) Q := fun h' => by
    unfold Oper.wp at *
    generalize (execOp a.eval o).run P w = r at *
    cases r with
    | ok n w' => cases n <;> exact h'
    | halt x w' => cases x <;> exact h'
  show if Region.wanted o (yielded ops a.tmps) = true then _ else _
  split
  · rename_i hw
    rw [if_pos hw] at h
    rcases h with h | ⟨h1, h2⟩
    · exact .inl (Oper.wp_mono hK (hup h))
    · exact .inr ⟨h1, h2⟩
  · rename_i hw
    rw [if_neg hw] at h
    exact hK _ _ h

/-- What is left comes up one by one. -/
def chainB (ops : Array Oper) : List Nat → Array Bool → Bool
  | [], listed => (Region.ready .any ops listed).isEmpty
  | i :: r, listed => (Region.ready .any ops listed == [i]) && chainB ops r (listed.setIfInBounds i true)

theorem wpS_chain {S : World → Prop} : ∀ (L : List Nat) (os : List Oper) (listed : Array Bool) (a : Act) (w : World), chainB ops L listed = true → (∀ i ∈ L, tl i = true) → L.map (ops[·]?) = os.map some →
    wpList P ops Q os a w → wpAnyT P .any ops Q tl S L.length listed a w
  | [], os, listed, a, w, hch, _, hos, h => by
    have : os = [] := by cases os with
      | nil => rfl
      | cons => simp at hos
    subst this
    exact ⟨by simpa [chainB] using hch, h⟩
  | i :: L, os, listed, a, w, hch, htl, hos, h => by
    obtain ⟨o, os', rfl⟩ : ∃ o os', os = o :: os' := by cases os with
      | nil => simp at hos
      | cons o os' => exact ⟨o, os', rfl⟩
    simp only [List.map_cons, List.cons.injEq] at hos
    simp only [chainB, Bool.and_eq_true, beq_iff_eq] at hch
    obtain ⟨hr, hch'⟩ := hch
    refine ⟨fun h0 => (by rw [hr] at h0; cases h0), fun j hj => ?_⟩
    rw [hr] at hj
    obtain rfl : j = i := by simpa using hj
    have hK : ∀ a' w', wpList P ops Q os' a' w' → ((tl j = false → S w') ∧ wpAnyT P .any ops Q tl S L.length (listed.setIfInBounds j true) a' w') := fun a' w' h' =>
      ⟨fun ht => (by rw [htl j (by simp)] at ht; cases ht), wpS_chain L os' _ a' w' hch' (fun k hk => htl k (by simp [hk])) hos.2 h'⟩
    unfold wpList at h
    unfold wpOp
    rw [hos.1]
    show if Region.wanted o (yielded ops a.tmps) = true then _ else _
    split
    · rename_i hw
      rw [if_pos hw] at h
      exact h.imp (Oper.wp_mono hK) id
    · rename_i hw
      rw [if_neg hw] at h
      exact hK _ _ h

/-- The last operations, from number m on, in their order. -/
theorem wpS_tail (m n : Nat) (l : List Oper) {listed : Array Bool} {a : Act} {w : World} (hl : ops = l.toArray) (hch : chainB ops (List.range' m n) listed = true) (hn : l.length = m + n)
    (h : wpList P ops Q (l.drop m) a w) : wpS P ops Q (fun j => decide (m ≤ j)) n listed a w := by
  have := wpS_chain (P := P) (Q := Q) (tl := fun j => decide (m ≤ j)) (S := Later w) (List.range' m n) (l.drop m) listed a w hch (fun i hi => by simp [List.mem_range'] at hi; simp; omega) (by
    subst hl
    apply List.ext_getElem?
    intro k
    rw [List.getElem?_map, List.getElem?_map, List.getElem?_drop]
    by_cases hk : k < n
    · have hk2 : m + k < l.length := by omega
      rw [List.getElem?_range' hk]
      simp [List.getElem?_eq_getElem hk2]
    · have hk2 : l.length ≤ m + k := by omega
      rw [List.getElem?_eq_none (by rw [List.length_range']; omega), List.getElem?_eq_none hk2]
      rfl) h
  rw [List.length_range'] at this
  exact this

end
end Go.Proofs.Ytndefbecoahfhaa

/- Where a pattern without alternatives ends: the plain function, and impl's simpleEnding. -/
namespace Go.Proofs.Ytndefbecoahfhaa
open Go.RowKit

/-- How many bytes from the front on are (yes: of the set, no: not of it). -/
def runOf (lo hi : Int) (yes : Bool) (l : List UInt8) : Nat := (l.takeWhile fun b => hb lo hi (b.toNat : Int) == yes).length

/-- The byte at an index, as an integer. -/
def byteAt (s : ByteArray) (i : Nat) : Int := ((s.data.toList.getD i 0).toNat : Int)

theorem byteAt_eq (s : ByteArray) (i : Nat) (h : i < s.size) : (s[i].toNat : Int) = byteAt s i := by
  unfold byteAt
  have h' : i < s.data.toList.length := by simpa using h
  rw [List.getD_eq_getElem?_getD, List.getElem?_eq_getElem h']
  rfl
theorem byteAt_bd (s : ByteArray) (i : Nat) : 0 ≤ byteAt s i ∧ byteAt s i < 256 := by
  unfold byteAt
  have := (s.data.toList.getD i 0).toNat_lt
  omega

/-- The ending of a pattern that has at most one, at offset p. -/
def oneEnd (op : Int) (text : ByteArray) (num lo hi : Int) (s : ByteArray) (p : Nat) : Option Nat :=
  if op = 1 then (if p + text.size ≤ s.size ∧ s.extract p (p + text.size) = text then some (p + text.size) else none)
  else if op = 2 then (if (p : Int) + num ≤ s.size then some (p + num.toNat) else none)
  else if op = 3 then (if num = p then some p else none)
  else if op = 4 then (if num = (s.size : Int) - p then some p else none)
  else if op = 5 then (if (p : Int) ≤ num ∧ num ≤ s.size then some num.toNat else none)
  else if op = 6 then (if (p : Int) ≤ (s.size : Int) - num then some (s.size - num.toNat) else none)
  else if op = 7 then (if p < s.size ∧ hb lo hi (byteAt s p) = true then some (p + 1) else none)
  else if op = 8 then (if p < s.size ∧ hb lo hi (byteAt s p) = false then some (p + 1) else none)
  else if op = 9 then (if 0 < runOf lo hi true (s.data.toList.drop p) then some (p + runOf lo hi true (s.data.toList.drop p)) else none)
  else if op = 10 then (if p + runOf lo hi false (s.data.toList.drop p) < s.size then some (p + runOf lo hi false (s.data.toList.drop p)) else none)
  else if op = 12 then some s.size
  else if op = 22 then some p
  else none

/-- A pattern's value, its kids as a value of their own. -/
abbrev patV (op : Int) (text : ByteArray) (num lo hi : Int) (kv : Value) : Value := .agg #[.int .i64 op, .string text, .int .i64 num, .int .i64 lo, .int .i64 hi, kv]

/-- What simpleEnding answers: the ending counts only where there is one. -/
def EndsAs (r : Option Nat) (known : Bool) (w : World) (e : Ending) (w' : World) : Prop :=
  ∃ x : Int, e = .returned (.tuple #[.int .i64 x, .bool r.isSome, .bool known]) ∧ (∀ y, r = some y → x = (y : Int)) ∧ Below w.heap.size w w'

theorem below_drewN' {B : Nat} {a w : World} (h : Below B a w) (n : Nat) : Below B a (w.drewN n) := ⟨h.os, h.tape, h.output, h.size, h.block⟩

theorem toList_inj {a b : ByteArray} (h : a.toList = b.toList) : a = b := by
  rw [ByteArray.toList_eq, ByteArray.toList_eq] at h
  cases a; cases b
  simp at h
  simp [h]

theorem endsAs_mk {r : Option Nat} {known b : Bool} {w w' : World} {x : Int} (hb : b = r.isSome) (hx : ∀ y, r = some y → x = (y : Int)) (hw : Below w.heap.size w w') :
    EndsAs r known w (.returned (.tuple #[.int .i64 x, .bool b, .bool known])) w' := ⟨x, by rw [hb], hx, hw⟩

section
variable (text : ByteArray) (num lo hi : Int) (A : Option Addr) (n c : Nat) (s : ByteArray) (p : Nat) (w : World)

set_option maxRecDepth 100000 in
set_option maxHeartbeats 1000000 in
theorem simple_12  :
    Calls Try.prog 78 #[patV 12 text num lo hi (.slice A n c), .string s, .int .i64 p] w (EndsAs (oneEnd 12 text num lo hi s p) true w) := by
  go_enter Try.func78, Try.ntmps78
  go_wp2_with fail
  go_ret3
  exact endsAs_mk rfl (fun y hy => by cases hy; rfl) ((Below.refl _ _).alloc (Nat.le_refl _) _)

set_option maxRecDepth 100000 in
set_option maxHeartbeats 1000000 in
theorem simple_22  :
    Calls Try.prog 78 #[patV 22 text num lo hi (.slice A n c), .string s, .int .i64 p] w (EndsAs (oneEnd 22 text num lo hi s p) true w) := by
  go_enter Try.func78, Try.ntmps78
  go_wp2_with fail
  go_ret3
  exact endsAs_mk rfl (fun y hy => by cases hy; rfl) ((Below.refl _ _).alloc (Nat.le_refl _) _)

set_option maxRecDepth 100000 in
set_option maxHeartbeats 1000000 in
theorem simple_23  :
    Calls Try.prog 78 #[patV 23 text num lo hi (.slice A n c), .string s, .int .i64 p] w (EndsAs (oneEnd 23 text num lo hi s p) true w) := by
  go_enter Try.func78, Try.ntmps78
  go_wp2_with fail
  go_ret3
  exact endsAs_mk rfl (fun y hy => by cases hy) ((Below.refl _ _).alloc (Nat.le_refl _) _)

set_option maxRecDepth 100000 in
set_option maxHeartbeats 1000000 in
theorem simple_3  :
    Calls Try.prog 78 #[patV 3 text num lo hi (.slice A n c), .string s, .int .i64 p] w (EndsAs (oneEnd 3 text num lo hi s p) true w) := by
  have hv : oneEnd 3 text num lo hi s p = if num = (p : Int) then some p else none := rfl
  have HV := Lib.hid hv
  clear hv
  go_enter Try.func78, Try.ntmps78
  go_wp2_with fail
  go_quiet (fail)
  go_wp2_with fail
  go_ret3
  exact endsAs_mk (by rw [HV.out]; by_cases h : num = (p : Int) <;> simp [h]) (fun y hy => by rw [HV.out] at hy; split at hy <;> simp_all) (below_drewN' ((Below.refl _ _).alloc (Nat.le_refl _) _) _)

set_option maxRecDepth 100000 in
set_option maxHeartbeats 1000000 in
theorem simple_4 (hs : s.size ≤ 120) (hp : p ≤ s.size) :
    Calls Try.prog 78 #[patV 4 text num lo hi (.slice A n c), .string s, .int .i64 p] w (EndsAs (oneEnd 4 text num lo hi s p) true w) := by
  have hv : oneEnd 4 text num lo hi s p = if num = (s.size : Int) - p then some p else none := rfl
  have HV := Lib.hid hv
  clear hv
  have hw1 : IntKind.i64.wrap ((s.size : Int) - p) = (s.size : Int) - p := IntWalk.i64_in _ (by omega)
  go_enter Try.func78, Try.ntmps78
  go_wp2_with fail
  go_quiet (fail)
  go_wp2_with fail
  go_ret3
  exact endsAs_mk (by rw [HV.out]; by_cases h : num = (s.size : Int) - p <;> simp [h]) (fun y hy => by rw [HV.out] at hy; split at hy <;> simp_all) (below_drewN' ((Below.refl _ _).alloc (Nat.le_refl _) _) _)

set_option maxRecDepth 100000 in
set_option maxHeartbeats 1000000 in
theorem simple_6 (hs : s.size ≤ 120) (hp : p ≤ s.size) (h0 : 0 ≤ num) (h1 : num ≤ 120) :
    Calls Try.prog 78 #[patV 6 text num lo hi (.slice A n c), .string s, .int .i64 p] w (EndsAs (oneEnd 6 text num lo hi s p) true w) := by
  have hv : oneEnd 6 text num lo hi s p = if (p : Int) ≤ (s.size : Int) - num then some (s.size - num.toNat) else none := rfl
  have HV := Lib.hid hv
  clear hv
  have hw1 : IntKind.i64.wrap ((s.size : Int) - num) = (s.size : Int) - num := IntWalk.i64_in _ (by omega)
  go_enter Try.func78, Try.ntmps78
  go_wp2_with fail
  go_quiet (fail)
  go_wp2_with fail
  go_ret3
  exact endsAs_mk (by rw [HV.out]; by_cases h : (p : Int) ≤ (s.size : Int) - num <;> simp [h]) (fun y hy => by rw [HV.out] at hy; split at hy <;> simp at hy; omega) (below_drewN' ((Below.refl _ _).alloc (Nat.le_refl _) _) _)

set_option maxRecDepth 100000 in
set_option maxHeartbeats 1000000 in
theorem simple_2 (hs : s.size ≤ 120) (hp : p ≤ s.size) (h0 : 0 ≤ num) (h1 : num ≤ 120) :
    Calls Try.prog 78 #[patV 2 text num lo hi (.slice A n c), .string s, .int .i64 p] w (EndsAs (oneEnd 2 text num lo hi s p) true w) := by
  by_cases hg : (p : Int) + num ≤ s.size
  · have HV := Lib.hid (show oneEnd 2 text num lo hi s p = some (p + num.toNat) from if_pos hg)
    go_enter Try.func78, Try.ntmps78
    go_wp2_with fail
    go_ret3
    exact endsAs_mk (by rw [HV.out]; rfl) (fun y hy => by rw [HV.out] at hy; cases hy; omega) ((Below.refl _ _).alloc (Nat.le_refl _) _)
  · have HV := Lib.hid (show oneEnd 2 text num lo hi s p = none from if_neg hg)
    go_enter Try.func78, Try.ntmps78
    go_wp2_with fail
    go_ret3
    exact endsAs_mk (by rw [HV.out]; rfl) (fun y hy => by rw [HV.out] at hy; cases hy) ((Below.refl _ _).alloc (Nat.le_refl _) _)

set_option maxRecDepth 100000 in
set_option maxHeartbeats 1000000 in
theorem simple_5 (h0 : 0 ≤ num) (h1 : num ≤ 120) :
    Calls Try.prog 78 #[patV 5 text num lo hi (.slice A n c), .string s, .int .i64 p] w (EndsAs (oneEnd 5 text num lo hi s p) true w) := by
  have HV := Lib.hid (show oneEnd 5 text num lo hi s p = if (p : Int) ≤ num ∧ num ≤ s.size then some num.toNat else none from rfl)
  by_cases hg : (p : Int) ≤ num
  · have hg' : decide ((p : Int) ≤ num) = true := by simpa using hg
    go_enter Try.func78, Try.ntmps78
    go_wp2_with fail
    go_quiet (fail)
    go_wp2_with fail
    go_ret3
    exact endsAs_mk (by rw [HV.out]; by_cases h : num ≤ (s.size : Int) <;> simp [h, hg]) (fun y hy => by rw [HV.out] at hy; split at hy <;> simp at hy; omega) (below_drewN' ((Below.refl _ _).alloc (Nat.le_refl _) _) _)
  · have hg' : decide ((p : Int) ≤ num) = false := by simpa using hg
    go_enter Try.func78, Try.ntmps78
    go_wp2_with fail
    go_quiet (fail)
    go_wp2_with fail
    go_ret3
    exact endsAs_mk (by rw [HV.out]; simp; omega) (fun y hy => by rw [HV.out] at hy; split at hy <;> simp at hy; omega) (below_drewN' ((Below.refl _ _).alloc (Nat.le_refl _) _) _)

set_option maxRecDepth 100000 in
set_option maxHeartbeats 1000000 in
theorem simple_1 (hs : s.size ≤ 120) (hp : p ≤ s.size) (h0 : text.size ≤ 120) :
    Calls Try.prog 78 #[patV 1 text num lo hi (.slice A n c), .string s, .int .i64 p] w (EndsAs (oneEnd 1 text num lo hi s p) true w) := by
  have HV := Lib.hid (show oneEnd 1 text num lo hi s p = if p + text.size ≤ s.size ∧ s.extract p (p + text.size) = text then some (p + text.size) else none from rfl)
  have hw1 : IntKind.i64.wrap ((p : Int) + text.size) = (p : Int) + text.size := IntWalk.i64_in _ (by omega)
  by_cases hg : (p : Int) + text.size ≤ s.size
  · have hg' : decide ((p : Int) + text.size ≤ s.size) = true := by simpa using hg
    have hg2 : (p : Int) ≤ (p : Int) + text.size := by omega
    have hg3 : (0 : Int) ≤ (p : Int) := by omega
    by_cases he : s.extract p (p + text.size) = text
    · have he' : ((s.extract p (p + text.size)).toList == text.toList) = true := by rw [he]; simp
      go_enter Try.func78, Try.ntmps78
      go_wp2_with fail
      go_quiet (fail)
      go_wp2_with fail
      go_ret3
      exact endsAs_mk (by rw [HV.out, if_pos ⟨by omega, he⟩]; rfl) (fun y hy => by rw [HV.out, if_pos ⟨by omega, he⟩] at hy; cases hy; omega) (below_drewN' ((Below.refl _ _).alloc (Nat.le_refl _) _) _)
    · have he' : ((s.extract p (p + text.size)).toList == text.toList) = false := by simpa using fun h => he (toList_inj h)
      go_enter Try.func78, Try.ntmps78
      go_wp2_with fail
      go_quiet (fail)
      go_wp2_with fail
      go_ret3
      exact endsAs_mk (by rw [HV.out, if_neg (by simp [he])]; rfl) (fun y hy => by rw [HV.out, if_neg (by simp [he])] at hy; cases hy) (below_drewN' ((Below.refl _ _).alloc (Nat.le_refl _) _) _)
  · have hg' : decide ((p : Int) + text.size ≤ s.size) = false := by simpa using hg
    go_enter Try.func78, Try.ntmps78
    go_wp2_with fail
    go_quiet (fail)
    go_wp2_with fail
    go_ret3
    exact endsAs_mk (by rw [HV.out, if_neg (by omega)]; rfl) (fun y hy => by rw [HV.out, if_neg (by omega)] at hy; cases hy) (below_drewN' ((Below.refl _ _).alloc (Nat.le_refl _) _) _)

set_option maxRecDepth 100000 in
set_option maxHeartbeats 2000000 in
theorem simple_7 (hs : s.size ≤ 120) (hp : p ≤ s.size) :
    Calls Try.prog 78 #[patV 7 text num lo hi (.slice A n c), .string s, .int .i64 p] w (EndsAs (oneEnd 7 text num lo hi s p) true w) := by
  have HV := Lib.hid (show oneEnd 7 text num lo hi s p = if p < s.size ∧ hb lo hi (byteAt s p) = true then some (p + 1) else none from rfl)
  have hw1 : IntKind.i64.wrap ((p : Int) + 1) = (p : Int) + 1 := IntWalk.i64_in _ (by omega)
  by_cases hg : p < s.size
  · have hg' : (p : Int) < s.size := by omega
    have hg3 : (0 : Int) ≤ (p : Int) := by omega
    have hby : (s[p].toNat : Int) = byteAt s p := byteAt_eq s p hg
    have hb0 : 0 ≤ byteAt s p := byteAt_bd s p |>.1
    have hb1 : byteAt s p < 256 := byteAt_bd s p |>.2
    go_enter Try.func78, Try.ntmps78
    go_wp2_with fail
    -- region 20: 20 operations, the tail from 20 on
    refine wpS_begin 20 (by kernel_rfl) (fun w1 hw1 => ?_)
    subst hw1
    refine wpS_take 0 (some 100) (v := ?_) rfl rfl (by kernel_rfl) (fun _ _ _ h => h) rfl (fun x hx => ?_) ?_
    rotate_left 1
    · have hxc := hx.cell; have hxf := hx.frozen; go_simp; first | done | with_reducible rfl | rw [if_neg (by omega)] | rw [if_pos (by omega)]
    simp only [Act.put, nA, nB, nC]
    refine wpS_take 1 (some 101) (v := ?_) rfl rfl (by kernel_rfl) (fun _ _ _ h => h) rfl (fun x hx => ?_) ?_
    rotate_left 1
    · have hxc := hx.cell; have hxf := hx.frozen; go_simp; first | done | with_reducible rfl | rw [if_neg (by omega)] | rw [if_pos (by omega)]
    simp only [Act.put, nA, nB, nC]
    refine wpS_take 2 (some 102) (v := ?_) rfl rfl (by kernel_rfl) (fun _ _ _ h => h) rfl (fun x hx => ?_) ?_
    rotate_left 1
    · have hxc := hx.cell; have hxf := hx.frozen; go_simp; first | done | with_reducible rfl | rw [if_neg (by omega)] | rw [if_pos (by omega)]
    simp only [Act.put, nA, nB, nC]
    refine wpS_take 3 (some 103) (v := ?_) rfl rfl (by kernel_rfl) (fun _ _ _ h => h) rfl (fun x hx => ?_) ?_
    rotate_left 1
    · have hxc := hx.cell; have hxf := hx.frozen; go_simp; first | done | with_reducible rfl | rw [if_neg (by omega)] | rw [if_pos (by omega)]
    simp only [Act.put, nA, nB, nC]
    refine wpS_take 4 (some 104) (v := ?_) rfl rfl (by kernel_rfl) (fun _ _ _ h => h) rfl (fun x hx => ?_) ?_
    rotate_left 1
    · have hxc := hx.cell; have hxf := hx.frozen; go_simp; first | done | with_reducible rfl | rw [if_neg (by omega)] | rw [if_pos (by omega)]
    simp only [Act.put, nA, nB, nC]
    refine wpS_take 5 (some 105) (v := ?_) rfl rfl (by kernel_rfl) (fun _ _ _ h => h) rfl (fun x hx => ?_) ?_
    rotate_left 1
    · have hxc := hx.cell; have hxf := hx.frozen; go_simp; first | done | with_reducible rfl | rw [if_neg (by omega)] | rw [if_pos (by omega)]
    simp only [Act.put, nA, nB, nC]
    refine wpS_take 6 (some 106) (v := ?_) rfl rfl (by kernel_rfl) (fun _ _ _ h => h) rfl (fun x hx => ?_) ?_
    rotate_left 1
    · have hxc := hx.cell; have hxf := hx.frozen; go_simp; first | done | with_reducible rfl | rw [if_neg (by omega)] | rw [if_pos (by omega)]
    simp only [Act.put, nA, nB, nC]
    refine wpS_take 7 (some 107) (v := ?_) rfl rfl (by kernel_rfl) (fun _ _ _ h => h) rfl (fun x hx => ?_) ?_
    rotate_left 1
    · have hxc := hx.cell; have hxf := hx.frozen; go_simp; first | done | with_reducible rfl | rw [if_neg (by omega)] | rw [if_pos (by omega)]
    simp only [Act.put, nA, nB, nC]
    refine wpS_take 8 (some 108) (v := ?_) rfl rfl (by kernel_rfl) (fun _ _ _ h => h) rfl (fun x hx => ?_) ?_
    rotate_left 1
    · have hxc := hx.cell; have hxf := hx.frozen; go_simp; first | done | with_reducible rfl | rw [if_neg (by omega)] | rw [if_pos (by omega)]
    simp only [Act.put, nA, nB, nC]
    refine wpS_take 9 (some 109) (v := ?_) rfl rfl (by kernel_rfl) (fun _ _ _ h => h) rfl (fun x hx => ?_) ?_
    rotate_left 1
    · have hxc := hx.cell; have hxf := hx.frozen; go_simp; first | done | with_reducible rfl | rw [if_neg (by omega)] | rw [if_pos (by omega)]
    simp only [Act.put, nA, nB, nC]
    refine wpS_take 10 (some 110) (v := ?_) rfl rfl (by kernel_rfl) (fun _ _ _ h => h) rfl (fun x hx => ?_) ?_
    rotate_left 1
    · have hxc := hx.cell; have hxf := hx.frozen; go_simp; first | done | with_reducible rfl | rw [if_neg (by omega)] | rw [if_pos (by omega)]
    simp only [Act.put, nA, nB, nC]
    refine wpS_take 12 (some 112) (v := ?_) rfl rfl (by kernel_rfl) (fun _ _ _ h => h) rfl (fun x hx => ?_) ?_
    rotate_left 1
    · have hxc := hx.cell; have hxf := hx.frozen; go_simp; first | done | with_reducible rfl | rw [if_neg (by omega)] | rw [if_pos (by omega)]
    simp only [Act.put, nA, nB, nC]
    refine wpS_take 13 (some 113) (v := ?_) rfl rfl (by kernel_rfl) (fun _ _ _ h => h) rfl (fun x hx => ?_) ?_
    rotate_left 1
    · have hxc := hx.cell; have hxf := hx.frozen; go_simp; first | done | with_reducible rfl | rw [if_neg (by omega)] | rw [if_pos (by omega)]
    simp only [Act.put, nA, nB, nC]
    refine wpS_take 14 (some 114) (v := ?_) rfl rfl (by kernel_rfl) (fun _ _ _ h => h) rfl (fun x hx => ?_) ?_
    rotate_left 1
    · have hxc := hx.cell; have hxf := hx.frozen; go_simp; first | done | with_reducible rfl | rw [if_neg (by omega)] | rw [if_pos (by omega)]
    simp only [Act.put, nA, nB, nC]
    refine wpS_step 11 (by kernel_rfl) rfl ?_  -- call value (Go.Operand.func 56)
    go_wp2_with (go_at_call 56; refine (implHasByte_any lo hi (byteAt s p) _ hb0 hb1).mono ?_; rintro e w2 ⟨rfl, hb2⟩)
    refine ⟨hb2, ?_⟩
    have hacc : Later w w2 := Later.trans (((Later.refl w).alloc _).drew) hb2
    clear hb2
    refine wpS_take 15 (some 115) (v := ?_) rfl rfl (by kernel_rfl) (fun _ _ _ h => h) rfl (fun x hx => ?_) ?_
    rotate_left 1
    · have hxc := hx.cell; have hxf := hx.frozen; go_simp; first | done | with_reducible rfl | rw [if_neg (by omega)] | rw [if_pos (by omega)]
    simp only [Act.put, nA, nB, nC]
    refine wpS_take 16 (some 116) (v := ?_) rfl rfl (by kernel_rfl) (fun _ _ _ h => h) rfl (fun x hx => ?_) ?_
    rotate_left 1
    · have hxc := hx.cell; have hxf := hx.frozen; go_simp; first | done | with_reducible rfl | rw [if_neg (by omega)] | rw [if_pos (by omega)]
    simp only [Act.put, nA, nB, nC]
    refine wpS_take 17 (some 6) (v := ?_) rfl rfl (by kernel_rfl) (fun _ _ _ h => h) rfl (fun x hx => ?_) ?_
    rotate_left 1
    · have hxc := hx.cell; have hxf := hx.frozen; go_simp; first | done | with_reducible rfl | rw [if_neg (by omega)] | rw [if_pos (by omega)]
    simp only [Act.put, nA, nB, nC]
    refine wpS_take 18 (some 7) (v := ?_) rfl rfl (by kernel_rfl) (fun _ _ _ h => h) rfl (fun x hx => ?_) ?_
    rotate_left 1
    · have hxc := hx.cell; have hxf := hx.frozen; go_simp; first | done | with_reducible rfl | rw [if_neg (by omega)] | rw [if_pos (by omega)]
    simp only [Act.put, nA, nB, nC]
    refine wpS_take 19 (some 8) (v := ?_) rfl rfl (by kernel_rfl) (fun _ _ _ h => h) rfl (fun x hx => ?_) ?_
    rotate_left 1
    · have hxc := hx.cell; have hxf := hx.frozen; go_simp; first | done | with_reducible rfl | rw [if_neg (by omega)] | rw [if_pos (by omega)]
    simp only [Act.put, nA, nB, nC]
    refine wpS_tail 20 0 _ rfl (by kernel_rfl) rfl ?_
    simp only [List.drop_succ_cons, List.drop_zero]
    refine wpList_nil ?_
    go_wp2_with fail
    go_ret3
    exact endsAs_mk (by rw [HV.out]; cases h : hb lo hi (byteAt s p) <;> simp [hg]) (fun y hy => by rw [HV.out] at hy; split at hy <;> simp at hy; omega) hacc
  · have hg' : decide ((p : Int) < s.size) = false := by simp; omega
    go_enter Try.func78, Try.ntmps78
    go_wp2_with fail
    go_quiet (fail)
    go_wp2_with fail
    go_ret3
    exact endsAs_mk (by rw [HV.out, if_neg (by omega)]; rfl) (fun y hy => by rw [HV.out, if_neg (by omega)] at hy; cases hy) (below_drewN' ((Below.refl _ _).alloc (Nat.le_refl _) _) _)

set_option maxRecDepth 100000 in
set_option maxHeartbeats 2000000 in
theorem simple_8 (hs : s.size ≤ 120) (hp : p ≤ s.size) :
    Calls Try.prog 78 #[patV 8 text num lo hi (.slice A n c), .string s, .int .i64 p] w (EndsAs (oneEnd 8 text num lo hi s p) true w) := by
  have HV := Lib.hid (show oneEnd 8 text num lo hi s p = if p < s.size ∧ hb lo hi (byteAt s p) = false then some (p + 1) else none from rfl)
  have hw1 : IntKind.i64.wrap ((p : Int) + 1) = (p : Int) + 1 := IntWalk.i64_in _ (by omega)
  by_cases hg : p < s.size
  · have hg' : (p : Int) < s.size := by omega
    have hg3 : (0 : Int) ≤ (p : Int) := by omega
    have hby : (s[p].toNat : Int) = byteAt s p := byteAt_eq s p hg
    have hb0 : 0 ≤ byteAt s p := byteAt_bd s p |>.1
    have hb1 : byteAt s p < 256 := byteAt_bd s p |>.2
    go_enter Try.func78, Try.ntmps78
    go_wp2_with fail
    -- region 20: 20 operations, the tail from 20 on
    refine wpS_begin 20 (by kernel_rfl) (fun w1 hw1 => ?_)
    subst hw1
    refine wpS_take 0 (some 100) (v := ?_) rfl rfl (by kernel_rfl) (fun _ _ _ h => h) rfl (fun x hx => ?_) ?_
    rotate_left 1
    · have hxc := hx.cell; have hxf := hx.frozen; go_simp; first | done | with_reducible rfl | rw [if_neg (by omega)] | rw [if_pos (by omega)]
    simp only [Act.put, nA, nB, nC]
    refine wpS_take 1 (some 101) (v := ?_) rfl rfl (by kernel_rfl) (fun _ _ _ h => h) rfl (fun x hx => ?_) ?_
    rotate_left 1
    · have hxc := hx.cell; have hxf := hx.frozen; go_simp; first | done | with_reducible rfl | rw [if_neg (by omega)] | rw [if_pos (by omega)]
    simp only [Act.put, nA, nB, nC]
    refine wpS_take 2 (some 102) (v := ?_) rfl rfl (by kernel_rfl) (fun _ _ _ h => h) rfl (fun x hx => ?_) ?_
    rotate_left 1
    · have hxc := hx.cell; have hxf := hx.frozen; go_simp; first | done | with_reducible rfl | rw [if_neg (by omega)] | rw [if_pos (by omega)]
    simp only [Act.put, nA, nB, nC]
    refine wpS_take 3 (some 103) (v := ?_) rfl rfl (by kernel_rfl) (fun _ _ _ h => h) rfl (fun x hx => ?_) ?_
    rotate_left 1
    · have hxc := hx.cell; have hxf := hx.frozen; go_simp; first | done | with_reducible rfl | rw [if_neg (by omega)] | rw [if_pos (by omega)]
    simp only [Act.put, nA, nB, nC]
    refine wpS_take 4 (some 104) (v := ?_) rfl rfl (by kernel_rfl) (fun _ _ _ h => h) rfl (fun x hx => ?_) ?_
    rotate_left 1
    · have hxc := hx.cell; have hxf := hx.frozen; go_simp; first | done | with_reducible rfl | rw [if_neg (by omega)] | rw [if_pos (by omega)]
    simp only [Act.put, nA, nB, nC]
    refine wpS_take 5 (some 105) (v := ?_) rfl rfl (by kernel_rfl) (fun _ _ _ h => h) rfl (fun x hx => ?_) ?_
    rotate_left 1
    · have hxc := hx.cell; have hxf := hx.frozen; go_simp; first | done | with_reducible rfl | rw [if_neg (by omega)] | rw [if_pos (by omega)]
    simp only [Act.put, nA, nB, nC]
    refine wpS_take 6 (some 106) (v := ?_) rfl rfl (by kernel_rfl) (fun _ _ _ h => h) rfl (fun x hx => ?_) ?_
    rotate_left 1
    · have hxc := hx.cell; have hxf := hx.frozen; go_simp; first | done | with_reducible rfl | rw [if_neg (by omega)] | rw [if_pos (by omega)]
    simp only [Act.put, nA, nB, nC]
    refine wpS_take 7 (some 107) (v := ?_) rfl rfl (by kernel_rfl) (fun _ _ _ h => h) rfl (fun x hx => ?_) ?_
    rotate_left 1
    · have hxc := hx.cell; have hxf := hx.frozen; go_simp; first | done | with_reducible rfl | rw [if_neg (by omega)] | rw [if_pos (by omega)]
    simp only [Act.put, nA, nB, nC]
    refine wpS_take 8 (some 108) (v := ?_) rfl rfl (by kernel_rfl) (fun _ _ _ h => h) rfl (fun x hx => ?_) ?_
    rotate_left 1
    · have hxc := hx.cell; have hxf := hx.frozen; go_simp; first | done | with_reducible rfl | rw [if_neg (by omega)] | rw [if_pos (by omega)]
    simp only [Act.put, nA, nB, nC]
    refine wpS_take 9 (some 109) (v := ?_) rfl rfl (by kernel_rfl) (fun _ _ _ h => h) rfl (fun x hx => ?_) ?_
    rotate_left 1
    · have hxc := hx.cell; have hxf := hx.frozen; go_simp; first | done | with_reducible rfl | rw [if_neg (by omega)] | rw [if_pos (by omega)]
    simp only [Act.put, nA, nB, nC]
    refine wpS_take 10 (some 110) (v := ?_) rfl rfl (by kernel_rfl) (fun _ _ _ h => h) rfl (fun x hx => ?_) ?_
    rotate_left 1
    · have hxc := hx.cell; have hxf := hx.frozen; go_simp; first | done | with_reducible rfl | rw [if_neg (by omega)] | rw [if_pos (by omega)]
    simp only [Act.put, nA, nB, nC]
    refine wpS_take 12 (some 112) (v := ?_) rfl rfl (by kernel_rfl) (fun _ _ _ h => h) rfl (fun x hx => ?_) ?_
    rotate_left 1
    · have hxc := hx.cell; have hxf := hx.frozen; go_simp; first | done | with_reducible rfl | rw [if_neg (by omega)] | rw [if_pos (by omega)]
    simp only [Act.put, nA, nB, nC]
    refine wpS_take 13 (some 113) (v := ?_) rfl rfl (by kernel_rfl) (fun _ _ _ h => h) rfl (fun x hx => ?_) ?_
    rotate_left 1
    · have hxc := hx.cell; have hxf := hx.frozen; go_simp; first | done | with_reducible rfl | rw [if_neg (by omega)] | rw [if_pos (by omega)]
    simp only [Act.put, nA, nB, nC]
    refine wpS_take 14 (some 114) (v := ?_) rfl rfl (by kernel_rfl) (fun _ _ _ h => h) rfl (fun x hx => ?_) ?_
    rotate_left 1
    · have hxc := hx.cell; have hxf := hx.frozen; go_simp; first | done | with_reducible rfl | rw [if_neg (by omega)] | rw [if_pos (by omega)]
    simp only [Act.put, nA, nB, nC]
    refine wpS_step 11 (by kernel_rfl) rfl ?_  -- call value (Go.Operand.func 56)
    go_wp2_with (go_at_call 56; refine (implHasByte_any lo hi (byteAt s p) _ hb0 hb1).mono ?_; rintro e w2 ⟨rfl, hb2⟩)
    refine ⟨hb2, ?_⟩
    have hacc : Later w w2 := Later.trans (((Later.refl w).alloc _).drew) hb2
    clear hb2
    refine wpS_take 15 (some 115) (v := ?_) rfl rfl (by kernel_rfl) (fun _ _ _ h => h) rfl (fun x hx => ?_) ?_
    rotate_left 1
    · have hxc := hx.cell; have hxf := hx.frozen; go_simp; first | done | with_reducible rfl | rw [if_neg (by omega)] | rw [if_pos (by omega)]
    simp only [Act.put, nA, nB, nC]
    refine wpS_take 16 (some 116) (v := ?_) rfl rfl (by kernel_rfl) (fun _ _ _ h => h) rfl (fun x hx => ?_) ?_
    rotate_left 1
    · have hxc := hx.cell; have hxf := hx.frozen; go_simp; first | done | with_reducible rfl | rw [if_neg (by omega)] | rw [if_pos (by omega)]
    simp only [Act.put, nA, nB, nC]
    refine wpS_take 17 (some 6) (v := ?_) rfl rfl (by kernel_rfl) (fun _ _ _ h => h) rfl (fun x hx => ?_) ?_
    rotate_left 1
    · have hxc := hx.cell; have hxf := hx.frozen; go_simp; first | done | with_reducible rfl | rw [if_neg (by omega)] | rw [if_pos (by omega)]
    simp only [Act.put, nA, nB, nC]
    refine wpS_take 18 (some 7) (v := ?_) rfl rfl (by kernel_rfl) (fun _ _ _ h => h) rfl (fun x hx => ?_) ?_
    rotate_left 1
    · have hxc := hx.cell; have hxf := hx.frozen; go_simp; first | done | with_reducible rfl | rw [if_neg (by omega)] | rw [if_pos (by omega)]
    simp only [Act.put, nA, nB, nC]
    refine wpS_take 19 (some 8) (v := ?_) rfl rfl (by kernel_rfl) (fun _ _ _ h => h) rfl (fun x hx => ?_) ?_
    rotate_left 1
    · have hxc := hx.cell; have hxf := hx.frozen; go_simp; first | done | with_reducible rfl | rw [if_neg (by omega)] | rw [if_pos (by omega)]
    simp only [Act.put, nA, nB, nC]
    refine wpS_tail 20 0 _ rfl (by kernel_rfl) rfl ?_
    simp only [List.drop_succ_cons, List.drop_zero]
    refine wpList_nil ?_
    go_wp2_with fail
    go_ret3
    exact endsAs_mk (by rw [HV.out]; cases h : hb lo hi (byteAt s p) <;> simp [hg]) (fun y hy => by rw [HV.out] at hy; split at hy <;> simp at hy; omega) hacc
  · have hg' : decide ((p : Int) < s.size) = false := by simp; omega
    go_enter Try.func78, Try.ntmps78
    go_wp2_with fail
    go_quiet (fail)
    go_wp2_with fail
    go_ret3
    exact endsAs_mk (by rw [HV.out, if_neg (by omega)]; rfl) (fun y hy => by rw [HV.out, if_neg (by omega)] at hy; cases hy) (below_drewN' ((Below.refl _ _).alloc (Nat.le_refl _) _) _)
end

end Go.Proofs.Ytndefbecoahfhaa

/- impl's simpleEnding at Span, at Break and at the patterns that are none of its own. -/
namespace Go.Proofs.Ytndefbecoahfhaa
open Go.RowKit

theorem takeWhile_more {α : Type} (f : α → Bool) : ∀ (l : List α) (i : Nat) (hi : i < l.length), i ≤ (l.takeWhile f).length → f l[i] = true → i + 1 ≤ (l.takeWhile f).length
  | [], i, hi, _, _ => by simp at hi
  | a :: l, i, hi, h, hf => by
    by_cases ha : f a = true
    · rw [List.takeWhile_cons_of_pos ha] at h ⊢
      cases i with
      | zero => simp
      | succ i =>
        have := takeWhile_more f l i (by simpa using hi) (by simpa using h) (by simpa using hf)
        simpa using this
    · rw [List.takeWhile_cons_of_neg ha] at h ⊢
      have : i = 0 := by simpa using h
      subst this
      exact absurd hf ha
theorem takeWhile_end {α : Type} (f : α → Bool) : ∀ (l : List α) (i : Nat) (hi : i < l.length), i ≤ (l.takeWhile f).length → f l[i] = false → i = (l.takeWhile f).length
  | [], i, hi, _, _ => by simp at hi
  | a :: l, i, hi, h, hf => by
    by_cases ha : f a = true
    · rw [List.takeWhile_cons_of_pos ha] at h ⊢
      cases i with
      | zero => rw [List.getElem_cons_zero, ha] at hf; cases hf
      | succ i =>
        have := takeWhile_end f l i (by simpa using hi) (by simpa using h) (by simpa using hf)
        simp [← this]
    · rw [List.takeWhile_cons_of_neg ha] at h ⊢
      simpa using h

theorem run_more {lo hi : Int} {yes : Bool} {s : ByteArray} {p k : Nat} (hp : p ≤ k) (hk : k < s.size) (h : k - p ≤ runOf lo hi yes (s.data.toList.drop p)) (hb' : hb lo hi (byteAt s k) = yes) :
    k + 1 - p ≤ runOf lo hi yes (s.data.toList.drop p) := by
  have hl : k - p < (s.data.toList.drop p).length := by simp; omega
  have := takeWhile_more (fun b => hb lo hi (b.toNat : Int) == yes) (s.data.toList.drop p) (k - p) hl h (by
    rw [List.getElem_drop]
    have e : p + (k - p) = k := by omega
    have e2 : ((s.data.toList[p + (k - p)]'(by simp; omega)).toNat : Int) = byteAt s k := by
      rw [← byteAt_eq s k hk]
      simp only [e]
      rfl
    rw [e2, hb']
    simp)
  unfold runOf
  omega
theorem run_end {lo hi : Int} {yes : Bool} {s : ByteArray} {p k : Nat} (hp : p ≤ k) (hk : k < s.size) (h : k - p ≤ runOf lo hi yes (s.data.toList.drop p)) (hb' : hb lo hi (byteAt s k) = !yes) :
    k = p + runOf lo hi yes (s.data.toList.drop p) := by
  have hl : k - p < (s.data.toList.drop p).length := by simp; omega
  have := takeWhile_end (fun b => hb lo hi (b.toNat : Int) == yes) (s.data.toList.drop p) (k - p) hl h (by
    rw [List.getElem_drop]
    have e : p + (k - p) = k := by omega
    have e2 : ((s.data.toList[p + (k - p)]'(by simp; omega)).toNat : Int) = byteAt s k := by
      rw [← byteAt_eq s k hk]
      simp only [e]
      rfl
    rw [e2, hb']
    cases yes <;> rfl)
  unfold runOf
  omega
theorem run_le {lo hi : Int} {yes : Bool} {s : ByteArray} {p : Nat} : runOf lo hi yes (s.data.toList.drop p) ≤ s.size - p := by
  unfold runOf
  have := List.IsPrefix.length_le (List.takeWhile_prefix (fun b => hb lo hi (b.toNat : Int) == yes) (l := s.data.toList.drop p))
  simpa using this
theorem run_all {lo hi : Int} {yes : Bool} {s : ByteArray} {p k : Nat} (hp : p ≤ k) (hk : k = s.size) (h : k - p ≤ runOf lo hi yes (s.data.toList.drop p)) :
    k = p + runOf lo hi yes (s.data.toList.drop p) := by
  have := @run_le lo hi yes s p
  omega

section
variable (text : ByteArray) (num lo hi : Int) (A : Option Addr) (n c : Nat) (s : ByteArray) (p : Nat) (w : World)

set_option maxRecDepth 100000 in
set_option maxHeartbeats 4000000 in
theorem simple_9 (hs : s.size ≤ 120) (hp : p ≤ s.size) :
    Calls Try.prog 78 #[patV 9 text num lo hi (.slice A n c), .string s, .int .i64 p] w (EndsAs (oneEnd 9 text num lo hi s p) true w) := by
  have HV := Lib.hid (show oneEnd 9 text num lo hi s p = if 0 < runOf lo hi true (s.data.toList.drop p) then some (p + runOf lo hi true (s.data.toList.drop p)) else none from rfl)
  go_enter Try.func78, Try.ntmps78
  go_wp2_with fail
  go_loopw [10] (fun v wr => ∃ k : Nat, p ≤ k ∧ k ≤ s.size ∧ v = .int .i64 k ∧ k - p ≤ runOf lo hi true (s.data.toList.drop p) ∧ w.heap.size < wr.heap.size ∧ wr.cell? ⟨w.heap.size, 3, none⟩ = some (.int .i64 lo) ∧ wr.cell? ⟨w.heap.size, 4, none⟩ = some (.int .i64 hi) ∧ Below w.heap.size w wr) (fun v _ => s.size - (intOf v).toNat)
  case atStart =>
    refine ⟨p, Nat.le_refl _, hp, rfl, by omega, by simp, ?_, ?_, (Below.refl _ _).alloc (Nat.le_refl _) _⟩
    · exact cell_of_row _ w.heap.size 3 _ _ _ (heap_alloc_new w _)
    · exact cell_of_row _ w.heap.size 4 _ _ _ (heap_alloc_new w _)
  case round =>
    obtain ⟨k, hk0, hk1, rfl, hrun, hN, hc3, hc4, hbel⟩ := hrel
    have hsz := hbel.size
    by_cases hg : k < s.size
    · have hg' : (k : Int) < s.size := by omega
      have hg3 : (0 : Int) ≤ (k : Int) := by omega
      have hby : (s[k].toNat : Int) = byteAt s k := byteAt_eq s k hg
      have hb0 : 0 ≤ byteAt s k := byteAt_bd s k |>.1
      have hb1 : byteAt s k < 256 := byteAt_bd s k |>.2
      go_wp2_with fail
      -- region 23: 11 operations, the tail from 11 on
      refine wpS_begin 11 (by kernel_rfl) (fun w1 hw1 => ?_)
      subst hw1
      refine wpS_take 0 (some 120) (v := ?_) rfl rfl (by kernel_rfl) (fun _ _ _ h => h) rfl (fun x hx => ?_) ?_
      rotate_left 1
      · have hx3 := (hx.cell ⟨w.heap.size, 3, none⟩ hN).trans hc3; have hx4 := (hx.cell ⟨w.heap.size, 4, none⟩ hN).trans hc4; go_simp; first | done | with_reducible rfl | rw [if_neg (by omega)] | rw [if_pos (by omega)]
      simp only [Act.put, nA, nB, nC]
      refine wpS_take 1 (some 121) (v := ?_) rfl rfl (by kernel_rfl) (fun _ _ _ h => h) rfl (fun x hx => ?_) ?_
      rotate_left 1
      · have hx3 := (hx.cell ⟨w.heap.size, 3, none⟩ hN).trans hc3; have hx4 := (hx.cell ⟨w.heap.size, 4, none⟩ hN).trans hc4; go_simp; first | done | with_reducible rfl | rw [if_neg (by omega)] | rw [if_pos (by omega)]
      simp only [Act.put, nA, nB, nC]
      refine wpS_take 2 (some 122) (v := ?_) rfl rfl (by kernel_rfl) (fun _ _ _ h => h) rfl (fun x hx => ?_) ?_
      rotate_left 1
      · have hx3 := (hx.cell ⟨w.heap.size, 3, none⟩ hN).trans hc3; have hx4 := (hx.cell ⟨w.heap.size, 4, none⟩ hN).trans hc4; go_simp; first | done | with_reducible rfl | rw [if_neg (by omega)] | rw [if_pos (by omega)]
      simp only [Act.put, nA, nB, nC]
      refine wpS_take 3 (some 123) (v := ?_) rfl rfl (by kernel_rfl) (fun _ _ _ h => h) rfl (fun x hx => ?_) ?_
      rotate_left 1
      · have hx3 := (hx.cell ⟨w.heap.size, 3, none⟩ hN).trans hc3; have hx4 := (hx.cell ⟨w.heap.size, 4, none⟩ hN).trans hc4; go_simp; first | done | with_reducible rfl | rw [if_neg (by omega)] | rw [if_pos (by omega)]
      simp only [Act.put, nA, nB, nC]
      refine wpS_take 4 (some 124) (v := ?_) rfl rfl (by kernel_rfl) (fun _ _ _ h => h) rfl (fun x hx => ?_) ?_
      rotate_left 1
      · have hx3 := (hx.cell ⟨w.heap.size, 3, none⟩ hN).trans hc3; have hx4 := (hx.cell ⟨w.heap.size, 4, none⟩ hN).trans hc4; go_simp; first | done | with_reducible rfl | rw [if_neg (by omega)] | rw [if_pos (by omega)]
      simp only [Act.put, nA, nB, nC]
      refine wpS_take 5 (some 125) (v := ?_) rfl rfl (by kernel_rfl) (fun _ _ _ h => h) rfl (fun x hx => ?_) ?_
      rotate_left 1
      · have hx3 := (hx.cell ⟨w.heap.size, 3, none⟩ hN).trans hc3; have hx4 := (hx.cell ⟨w.heap.size, 4, none⟩ hN).trans hc4; go_simp; first | done | with_reducible rfl | rw [if_neg (by omega)] | rw [if_pos (by omega)]
      simp only [Act.put, nA, nB, nC]
      refine wpS_take 6 (some 126) (v := ?_) rfl rfl (by kernel_rfl) (fun _ _ _ h => h) rfl (fun x hx => ?_) ?_
      rotate_left 1
      · have hx3 := (hx.cell ⟨w.heap.size, 3, none⟩ hN).trans hc3; have hx4 := (hx.cell ⟨w.heap.size, 4, none⟩ hN).trans hc4; go_simp; first | done | with_reducible rfl | rw [if_neg (by omega)] | rw [if_pos (by omega)]
      simp only [Act.put, nA, nB, nC]
      refine wpS_take 7 (some 127) (v := ?_) rfl rfl (by kernel_rfl) (fun _ _ _ h => h) rfl (fun x hx => ?_) ?_
      rotate_left 1
      · have hx3 := (hx.cell ⟨w.heap.size, 3, none⟩ hN).trans hc3; have hx4 := (hx.cell ⟨w.heap.size, 4, none⟩ hN).trans hc4; go_simp; first | done | with_reducible rfl | rw [if_neg (by omega)] | rw [if_pos (by omega)]
      simp only [Act.put, nA, nB, nC]
      refine wpS_take 8 (some 128) (v := ?_) rfl rfl (by kernel_rfl) (fun _ _ _ h => h) rfl (fun x hx => ?_) ?_
      rotate_left 1
      · have hx3 := (hx.cell ⟨w.heap.size, 3, none⟩ hN).trans hc3; have hx4 := (hx.cell ⟨w.heap.size, 4, none⟩ hN).trans hc4; go_simp; first | done | with_reducible rfl | rw [if_neg (by omega)] | rw [if_pos (by omega)]
      simp only [Act.put, nA, nB, nC]
      refine wpS_step 9 (by kernel_rfl) rfl ?_  -- call value (Go.Operand.func 56)
      go_wp2_with (go_at_call 56; refine (implHasByte_any lo hi (byteAt s k) _ hb0 hb1).mono ?_; rintro e w2 ⟨rfl, hb2⟩)
      refine ⟨hb2, ?_⟩
      replace hbel : Below w.heap.size w w2 := hbel.drew.trans (Below.mono hb2 hsz)
      replace hc3 : w2.cell? ⟨w.heap.size, 3, none⟩ = some (.int .i64 lo) := (Later.cell hb2 _ hN).trans hc3
      replace hc4 : w2.cell? ⟨w.heap.size, 4, none⟩ = some (.int .i64 hi) := (Later.cell hb2 _ hN).trans hc4
      replace hN : w.heap.size < w2.heap.size := Nat.lt_of_lt_of_le hN hb2.size
      replace hsz := hbel.size
      clear hb2
      refine wpS_take 10 (some 130) (v := ?_) rfl rfl (by kernel_rfl) (fun _ _ _ h => h) rfl (fun x hx => ?_) ?_
      rotate_left 1
      · have hx3 := (hx.cell ⟨w.heap.size, 3, none⟩ hN).trans hc3; have hx4 := (hx.cell ⟨w.heap.size, 4, none⟩ hN).trans hc4; go_simp; first | done | with_reducible rfl | rw [if_neg (by omega)] | rw [if_pos (by omega)]
      simp only [Act.put, nA, nB, nC]
      refine wpS_tail 11 0 _ rfl (by kernel_rfl) rfl ?_
      simp only [List.drop_succ_cons, List.drop_zero]
      refine wpList_nil ?_
      go_wp2_with fail
      · have hyes : hb lo hi (byteAt s k) = true := by assumption
        have hr2 := run_more hk0 hg hrun hyes
        go_roundw
        case rel => exact ⟨k + 1, by omega, by omega, by go_num, hr2, hN, hc3, hc4, hbel⟩
        case measure => simp [intOf]; omega
      · have hno : hb lo hi (byteAt s k) = false := by assumption
        have hr2 := run_end hk0 hg hrun hno
        go_ret3
        exact endsAs_mk (by rw [HV.out]; by_cases h : 0 < runOf lo hi true (s.data.toList.drop p) <;> simp [h] <;> omega) (fun y hy => by rw [HV.out] at hy; split at hy <;> simp at hy; omega) hbel
    · have HR := Lib.hid (run_all hk0 (by omega) hrun)
      have hg' : decide ((k : Int) < s.size) = false := by simp; omega
      go_wp2_with fail
      go_quiet (fail)
      go_wp2_with fail
      go_ret3
      have hr2 := HR.out
      exact endsAs_mk (by rw [HV.out]; by_cases h : 0 < runOf lo hi true (s.data.toList.drop p) <;> simp [h] <;> omega) (fun y hy => by rw [HV.out] at hy; split at hy <;> simp at hy; omega) (below_drewN' hbel _)
end

end Go.Proofs.Ytndefbecoahfhaa

/- impl's simpleEnding at Break and at the patterns that are none of its own; all its cases together. -/
namespace Go.Proofs.Ytndefbecoahfhaa
open Go.RowKit

section
variable (text : ByteArray) (num lo hi : Int) (A : Option Addr) (n c : Nat) (s : ByteArray) (p : Nat) (w : World)

set_option maxRecDepth 100000 in
set_option maxHeartbeats 4000000 in
theorem simple_10 (hs : s.size ≤ 120) (hp : p ≤ s.size) :
    Calls Try.prog 78 #[patV 10 text num lo hi (.slice A n c), .string s, .int .i64 p] w (EndsAs (oneEnd 10 text num lo hi s p) true w) := by
  have HV := Lib.hid (show oneEnd 10 text num lo hi s p = if p + runOf lo hi false (s.data.toList.drop p) < s.size then some (p + runOf lo hi false (s.data.toList.drop p)) else none from rfl)
  go_enter Try.func78, Try.ntmps78
  go_wp2_with fail
  go_loopw [11] (fun v wr => ∃ k : Nat, p ≤ k ∧ k ≤ s.size ∧ v = .int .i64 k ∧ k - p ≤ runOf lo hi false (s.data.toList.drop p) ∧ w.heap.size < wr.heap.size ∧ wr.cell? ⟨w.heap.size, 3, none⟩ = some (.int .i64 lo) ∧ wr.cell? ⟨w.heap.size, 4, none⟩ = some (.int .i64 hi) ∧ Below w.heap.size w wr) (fun v _ => s.size - (intOf v).toNat)
  case atStart =>
    refine ⟨p, Nat.le_refl _, hp, rfl, by omega, by simp, ?_, ?_, (Below.refl _ _).alloc (Nat.le_refl _) _⟩
    · exact cell_of_row _ w.heap.size 3 _ _ _ (heap_alloc_new w _)
    · exact cell_of_row _ w.heap.size 4 _ _ _ (heap_alloc_new w _)
  case round =>
    obtain ⟨k, hk0, hk1, rfl, hrun, hN, hc3, hc4, hbel⟩ := hrel
    have hsz := hbel.size
    by_cases hg : k < s.size
    · have hg' : (k : Int) < s.size := by omega
      have hg3 : (0 : Int) ≤ (k : Int) := by omega
      have hby : (s[k].toNat : Int) = byteAt s k := byteAt_eq s k hg
      have hb0 : 0 ≤ byteAt s k := byteAt_bd s k |>.1
      have hb1 : byteAt s k < 256 := byteAt_bd s k |>.2
      go_wp2_with fail
      -- region 30: 6 operations, the tail from 6 on
      refine wpS_begin 6 (by kernel_rfl) (fun w1 hw1 => ?_)
      subst hw1
      refine wpS_take 0 (some 145) (v := ?_) rfl rfl (by kernel_rfl) (fun _ _ _ h => h) rfl (fun x hx => ?_) ?_
      rotate_left 1
      · have hx3 := (hx.cell ⟨w.heap.size, 3, none⟩ hN).trans hc3; have hx4 := (hx.cell ⟨w.heap.size, 4, none⟩ hN).trans hc4; go_simp; first | done | with_reducible rfl | rw [if_neg (by omega)] | rw [if_pos (by omega)]
      simp only [Act.put, nA, nB, nC]
      refine wpS_take 1 (some 146) (v := ?_) rfl rfl (by kernel_rfl) (fun _ _ _ h => h) rfl (fun x hx => ?_) ?_
      rotate_left 1
      · have hx3 := (hx.cell ⟨w.heap.size, 3, none⟩ hN).trans hc3; have hx4 := (hx.cell ⟨w.heap.size, 4, none⟩ hN).trans hc4; go_simp; first | done | with_reducible rfl | rw [if_neg (by omega)] | rw [if_pos (by omega)]
      simp only [Act.put, nA, nB, nC]
      refine wpS_take 2 (some 147) (v := ?_) rfl rfl (by kernel_rfl) (fun _ _ _ h => h) rfl (fun x hx => ?_) ?_
      rotate_left 1
      · have hx3 := (hx.cell ⟨w.heap.size, 3, none⟩ hN).trans hc3; have hx4 := (hx.cell ⟨w.heap.size, 4, none⟩ hN).trans hc4; go_simp; first | done | with_reducible rfl | rw [if_neg (by omega)] | rw [if_pos (by omega)]
      simp only [Act.put, nA, nB, nC]
      refine wpS_take 3 (some 148) (v := ?_) rfl rfl (by kernel_rfl) (fun _ _ _ h => h) rfl (fun x hx => ?_) ?_
      rotate_left 1
      · have hx3 := (hx.cell ⟨w.heap.size, 3, none⟩ hN).trans hc3; have hx4 := (hx.cell ⟨w.heap.size, 4, none⟩ hN).trans hc4; go_simp; first | done | with_reducible rfl | rw [if_neg (by omega)] | rw [if_pos (by omega)]
      simp only [Act.put, nA, nB, nC]
      refine wpS_take 4 (some 149) (v := ?_) rfl rfl (by kernel_rfl) (fun _ _ _ h => h) rfl (fun x hx => ?_) ?_
      rotate_left 1
      · have hx3 := (hx.cell ⟨w.heap.size, 3, none⟩ hN).trans hc3; have hx4 := (hx.cell ⟨w.heap.size, 4, none⟩ hN).trans hc4; go_simp; first | done | with_reducible rfl | rw [if_neg (by omega)] | rw [if_pos (by omega)]
      simp only [Act.put, nA, nB, nC]
      refine wpS_step 5 (by kernel_rfl) rfl ?_  -- call value (Go.Operand.func 56)
      go_wp2_with (go_at_call 56; refine (implHasByte_any lo hi (byteAt s k) _ hb0 hb1).mono ?_; rintro e w2 ⟨rfl, hb2⟩)
      refine ⟨hb2, ?_⟩
      replace hbel : Below w.heap.size w w2 := hbel.drew.trans (Below.mono hb2 hsz)
      replace hc3 : w2.cell? ⟨w.heap.size, 3, none⟩ = some (.int .i64 lo) := (Later.cell hb2 _ hN).trans hc3
      replace hc4 : w2.cell? ⟨w.heap.size, 4, none⟩ = some (.int .i64 hi) := (Later.cell hb2 _ hN).trans hc4
      replace hN : w.heap.size < w2.heap.size := Nat.lt_of_lt_of_le hN hb2.size
      replace hsz := hbel.size
      clear hb2
      refine wpS_tail 6 0 _ rfl (by kernel_rfl) rfl ?_
      simp only [List.drop_succ_cons, List.drop_zero]
      refine wpList_nil ?_
      go_wp2_with fail
      · have hyes : hb lo hi (byteAt s k) = true := by assumption
        have hr2 := run_end hk0 hg hrun hyes
        go_ret3
        exact endsAs_mk (by rw [HV.out, if_pos (by omega)]; rfl) (fun y hy => by rw [HV.out, if_pos (by omega)] at hy; cases hy; omega) hbel
      · have hno : hb lo hi (byteAt s k) = false := by assumption
        have hr2 := run_more hk0 hg hrun hno
        go_roundw
        case rel => exact ⟨k + 1, by omega, by omega, by go_num, hr2, hN, hc3, hc4, hbel⟩
        case measure => simp [intOf]; omega
    · have HR := Lib.hid (run_all hk0 (by omega) hrun)
      go_wp2_with fail
      go_ret3
      have hr2 := HR.out
      exact endsAs_mk (by rw [HV.out, if_neg (by omega)]; rfl) (fun y hy => by rw [HV.out, if_neg (by omega)] at hy; cases hy) hbel

set_option maxRecDepth 100000 in
set_option maxHeartbeats 2000000 in
theorem simple_else (op : Int) (h : op = 11 ∨ (13 ≤ op ∧ op ≤ 21)) :
    Calls Try.prog 78 #[patV op text num lo hi (.slice A n c), .string s, .int .i64 p] w fun e w' => e = .returned (.tuple #[.int .i64 0, .bool false, .bool false]) ∧ Below w.heap.size w w' := by
  rcases h with h | ⟨h1, h2⟩
  · subst h
    go_enter Try.func78, Try.ntmps78
    go_wp2_with fail
    go_ret3
    exact ⟨rfl, (Below.refl _ _).alloc (Nat.le_refl _) _⟩
  · go_enter Try.func78, Try.ntmps78
    go_wp2_with fail
    go_ret3
    exact ⟨rfl, (Below.refl _ _).alloc (Nat.le_refl _) _⟩

/-- The patterns that have at most one ending. -/
def isSimple (op : Int) : Prop := (1 ≤ op ∧ op ≤ 10) ∨ op = 12 ∨ op = 22 ∨ op = 23
/-- The pattern's own words are in their bounds. -/
def okWords (op : Int) (text : ByteArray) (num : Int) : Prop := text.size ≤ 120 ∧ (2 ≤ op → op ≤ 6 → 0 ≤ num ∧ num ≤ 120)

/-- simpleEnding at every pattern of its own. -/
theorem simpleEnding_any (op : Int) (h : isSimple op) (hok : okWords op text num) (hs : s.size ≤ 120) (hp : p ≤ s.size) :
    Calls Try.prog 78 #[patV op text num lo hi (.slice A n c), .string s, .int .i64 p] w (EndsAs (oneEnd op text num lo hi s p) true w) := by
  obtain ⟨ht, hn⟩ := hok
  have hc : op = 1 ∨ op = 2 ∨ op = 3 ∨ op = 4 ∨ op = 5 ∨ op = 6 ∨ op = 7 ∨ op = 8 ∨ op = 9 ∨ op = 10 ∨ op = 12 ∨ op = 22 ∨ op = 23 := by unfold isSimple at h; omega
  rcases hc with rfl | rfl | rfl | rfl | rfl | rfl | rfl | rfl | rfl | rfl | rfl | rfl | rfl
  · exact simple_1 text num lo hi A n c s p w hs hp ht
  · exact simple_2 text num lo hi A n c s p w hs hp (hn (by decide) (by decide)).1 (hn (by decide) (by decide)).2
  · exact simple_3 text num lo hi A n c s p w
  · exact simple_4 text num lo hi A n c s p w hs hp
  · exact simple_5 text num lo hi A n c s p w (hn (by decide) (by decide)).1 (hn (by decide) (by decide)).2
  · exact simple_6 text num lo hi A n c s p w hs hp (hn (by decide) (by decide)).1 (hn (by decide) (by decide)).2
  · exact simple_7 text num lo hi A n c s p w hs hp
  · exact simple_8 text num lo hi A n c s p w hs hp
  · exact simple_9 text num lo hi A n c s p w hs hp
  · exact simple_10 text num lo hi A n c s p w hs hp
  · exact simple_12 text num lo hi A n c s p w
  · exact simple_22 text num lo hi A n c s p w
  · exact simple_23 text num lo hi A n c s p w
end

end Go.Proofs.Ytndefbecoahfhaa

/- spec's l19One: the same endings. -/
namespace Go.Proofs.Ytndefbecoahfhaa
open Go.RowKit

/-- spec's word for an ending: -1 where there is none. -/
def endInt (r : Option Nat) : Int := match r with
  | some y => (y : Int)
  | none => -1
theorem ret_int {a b : Int} (h : a = b) : Ending.returned (.int .i64 a) = .returned (.int .i64 b) := by rw [h]

section
variable (text : ByteArray) (num lo hi : Int) (A : Option Addr) (n c : Nat) (s : ByteArray) (p : Nat) (w : World)

set_option maxRecDepth 100000 in
set_option maxHeartbeats 4000000 in
theorem one_12  :
    Calls Try.prog 82 #[patV 12 text num lo hi (.slice A n c), .string s, .int .i64 p] w fun e w' => e = .returned (.int .i64 (endInt (oneEnd 12 text num lo hi s p))) ∧ Below w.heap.size w w' := by
  go_enter Try.func82, Try.ntmps82
  go_wp2_with fail
  go_ret
  exact ⟨rfl, (Below.refl _ _).alloc (Nat.le_refl _) _⟩

set_option maxRecDepth 100000 in
set_option maxHeartbeats 4000000 in
theorem one_22  :
    Calls Try.prog 82 #[patV 22 text num lo hi (.slice A n c), .string s, .int .i64 p] w fun e w' => e = .returned (.int .i64 (endInt (oneEnd 22 text num lo hi s p))) ∧ Below w.heap.size w w' := by
  go_enter Try.func82, Try.ntmps82
  go_wp2_with fail
  go_ret
  exact ⟨rfl, (Below.refl _ _).alloc (Nat.le_refl _) _⟩

set_option maxRecDepth 100000 in
set_option maxHeartbeats 4000000 in
theorem one_23  :
    Calls Try.prog 82 #[patV 23 text num lo hi (.slice A n c), .string s, .int .i64 p] w fun e w' => e = .returned (.int .i64 (endInt (oneEnd 23 text num lo hi s p))) ∧ Below w.heap.size w w' := by
  go_enter Try.func82, Try.ntmps82
  go_wp2_with fail
  go_ret
  exact ⟨rfl, (Below.refl _ _).alloc (Nat.le_refl _) _⟩

set_option maxRecDepth 100000 in
set_option maxHeartbeats 4000000 in
theorem one_2 (hs : s.size ≤ 120) (hp : p ≤ s.size) (h0 : 0 ≤ num) (h1 : num ≤ 120) :
    Calls Try.prog 82 #[patV 2 text num lo hi (.slice A n c), .string s, .int .i64 p] w fun e w' => e = .returned (.int .i64 (endInt (oneEnd 2 text num lo hi s p))) ∧ Below w.heap.size w w' := by
  by_cases hg : (p : Int) + num ≤ s.size
  · have HV := Lib.hid (show oneEnd 2 text num lo hi s p = some (p + num.toNat) from if_pos hg)
    go_enter Try.func82, Try.ntmps82
    go_wp2_with fail
    go_ret
    exact ⟨ret_int (by rw [HV.out]; simp [endInt] <;> omega), (Below.refl _ _).alloc (Nat.le_refl _) _⟩
  · have HV := Lib.hid (show oneEnd 2 text num lo hi s p = none from if_neg hg)
    go_enter Try.func82, Try.ntmps82
    go_wp2_with fail
    go_ret
    exact ⟨ret_int (by rw [HV.out]; rfl), (Below.refl _ _).alloc (Nat.le_refl _) _⟩

set_option maxRecDepth 100000 in
set_option maxHeartbeats 4000000 in
theorem one_3  :
    Calls Try.prog 82 #[patV 3 text num lo hi (.slice A n c), .string s, .int .i64 p] w fun e w' => e = .returned (.int .i64 (endInt (oneEnd 3 text num lo hi s p))) ∧ Below w.heap.size w w' := by
  by_cases hg : num = (p : Int)
  · have HV := Lib.hid (show oneEnd 3 text num lo hi s p = some (p) from if_pos hg)
    have hg1 : (num == (p : Int)) = true := by simpa using hg
    have HG := Lib.hid hg
    clear hg
    go_enter Try.func82, Try.ntmps82
    go_wp2_with fail
    go_ret
    exact ⟨ret_int (by rw [HV.out]; simp [endInt] <;> omega), (Below.refl _ _).alloc (Nat.le_refl _) _⟩
  · have HV := Lib.hid (show oneEnd 3 text num lo hi s p = none from if_neg hg)
    have hg1 : (num == (p : Int)) = false := by simpa using hg
    go_enter Try.func82, Try.ntmps82
    go_wp2_with fail
    go_ret
    exact ⟨ret_int (by rw [HV.out]; rfl), (Below.refl _ _).alloc (Nat.le_refl _) _⟩

set_option maxRecDepth 100000 in
set_option maxHeartbeats 4000000 in
theorem one_4 (hs : s.size ≤ 120) (hp : p ≤ s.size) :
    Calls Try.prog 82 #[patV 4 text num lo hi (.slice A n c), .string s, .int .i64 p] w fun e w' => e = .returned (.int .i64 (endInt (oneEnd 4 text num lo hi s p))) ∧ Below w.heap.size w w' := by
  by_cases hg : num = (s.size : Int) - p
  · have HV := Lib.hid (show oneEnd 4 text num lo hi s p = some (p) from if_pos hg)
    have hg1 : (num == ((s.size : Int) - p)) = true := by simpa using hg
    have HG := Lib.hid hg
    clear hg
    go_enter Try.func82, Try.ntmps82
    go_wp2_with fail
    go_ret
    exact ⟨ret_int (by rw [HV.out]; simp [endInt] <;> omega), (Below.refl _ _).alloc (Nat.le_refl _) _⟩
  · have HV := Lib.hid (show oneEnd 4 text num lo hi s p = none from if_neg hg)
    have hg1 : (num == ((s.size : Int) - p)) = false := by simpa using hg
    go_enter Try.func82, Try.ntmps82
    go_wp2_with fail
    go_ret
    exact ⟨ret_int (by rw [HV.out]; rfl), (Below.refl _ _).alloc (Nat.le_refl _) _⟩

set_option maxRecDepth 100000 in
set_option maxHeartbeats 4000000 in
theorem one_6 (hs : s.size ≤ 120) (hp : p ≤ s.size) (h0 : 0 ≤ num) (h1 : num ≤ 120) :
    Calls Try.prog 82 #[patV 6 text num lo hi (.slice A n c), .string s, .int .i64 p] w fun e w' => e = .returned (.int .i64 (endInt (oneEnd 6 text num lo hi s p))) ∧ Below w.heap.size w w' := by
  have hq : ((p : Int) ≤ (s.size : Int) - num) ↔ num ≤ (s.size : Int) - p := by omega
  have HQ := Lib.hid hq
  clear hq
  by_cases hg : (p : Int) ≤ (s.size : Int) - num
  · have HV := Lib.hid (show oneEnd 6 text num lo hi s p = some (s.size - num.toNat) from if_pos hg)
    have hg1 : num ≤ (s.size : Int) - p := HQ.out.1 hg
    go_enter Try.func82, Try.ntmps82
    go_wp2_with fail
    go_ret
    exact ⟨ret_int (by rw [HV.out]; simp [endInt] <;> omega), (Below.refl _ _).alloc (Nat.le_refl _) _⟩
  · have HV := Lib.hid (show oneEnd 6 text num lo hi s p = none from if_neg hg)
    have hg1 : ¬ num ≤ (s.size : Int) - p := fun h => hg (HQ.out.2 h)
    go_enter Try.func82, Try.ntmps82
    go_wp2_with fail
    go_ret
    exact ⟨ret_int (by rw [HV.out]; rfl), (Below.refl _ _).alloc (Nat.le_refl _) _⟩

set_option maxRecDepth 100000 in
set_option maxHeartbeats 4000000 in
theorem one_5 (h0 : 0 ≤ num) (h1 : num ≤ 120) :
    Calls Try.prog 82 #[patV 5 text num lo hi (.slice A n c), .string s, .int .i64 p] w fun e w' => e = .returned (.int .i64 (endInt (oneEnd 5 text num lo hi s p))) ∧ Below w.heap.size w w' := by
  by_cases hg : (p : Int) ≤ num
  · by_cases hg2 : num ≤ (s.size : Int)
    · have HV := Lib.hid (show oneEnd 5 text num lo hi s p = some num.toNat from (show _ = if (p : Int) ≤ num ∧ num ≤ s.size then some num.toNat else none from rfl).trans (if_pos ⟨hg, hg2⟩))
      go_enter Try.func82, Try.ntmps82
      go_wp2_with fail
      go_ret
      exact ⟨ret_int (by rw [HV.out]; simp [endInt]; omega), (Below.refl _ _).alloc (Nat.le_refl _) _⟩
    · have HV := Lib.hid (show oneEnd 5 text num lo hi s p = none from (show _ = if (p : Int) ≤ num ∧ num ≤ s.size then some num.toNat else none from rfl).trans (if_neg (fun h => hg2 h.2)))
      go_enter Try.func82, Try.ntmps82
      go_wp2_with fail
      go_ret
      exact ⟨ret_int (by rw [HV.out]; rfl), (Below.refl _ _).alloc (Nat.le_refl _) _⟩
  · have HV := Lib.hid (show oneEnd 5 text num lo hi s p = none from (show _ = if (p : Int) ≤ num ∧ num ≤ s.size then some num.toNat else none from rfl).trans (if_neg (fun h => hg h.1)))
    go_enter Try.func82, Try.ntmps82
    go_wp2_with fail
    go_ret
    exact ⟨ret_int (by rw [HV.out]; rfl), (Below.refl _ _).alloc (Nat.le_refl _) _⟩

set_option maxRecDepth 100000 in
set_option maxHeartbeats 4000000 in
theorem one_1 (hs : s.size ≤ 120) (hp : p ≤ s.size) (h0 : text.size ≤ 120) :
    Calls Try.prog 82 #[patV 1 text num lo hi (.slice A n c), .string s, .int .i64 p] w fun e w' => e = .returned (.int .i64 (endInt (oneEnd 1 text num lo hi s p))) ∧ Below w.heap.size w w' := by
  have HV := Lib.hid (show oneEnd 1 text num lo hi s p = if p + text.size ≤ s.size ∧ s.extract p (p + text.size) = text then some (p + text.size) else none from rfl)
  have hw1 : IntKind.i64.wrap ((p : Int) + text.size) = (p : Int) + text.size := IntWalk.i64_in _ (by omega)
  have hw2 : IntKind.i64.wrap ((s.size : Int) - p) = (s.size : Int) - p := IntWalk.i64_in _ (by omega)
  by_cases hg : (text.size : Int) ≤ (s.size : Int) - p
  · have hg' : decide ((text.size : Int) ≤ (s.size : Int) - p) = true := by simpa using hg
    have hg2 : (p : Int) ≤ (p : Int) + text.size := by omega
    have hg3 : (0 : Int) ≤ (p : Int) := by omega
    have hg4 : (p : Int) + text.size ≤ s.size := by omega
    by_cases he : s.extract p (p + text.size) = text
    · have he' : ((s.extract p (p + text.size)).toList == text.toList) = true := by rw [he]; simp
      go_enter Try.func82, Try.ntmps82
      go_wp2_with fail
      go_quiet (fail)
      go_wp2_with fail
      go_ret
      exact ⟨ret_int (by rw [HV.out, if_pos ⟨by omega, he⟩]; simp [endInt]), below_drewN' ((Below.refl _ _).alloc (Nat.le_refl _) _) _⟩
    · have he' : ((s.extract p (p + text.size)).toList == text.toList) = false := by simpa using fun h => he (toList_inj h)
      go_enter Try.func82, Try.ntmps82
      go_wp2_with fail
      go_quiet (fail)
      go_wp2_with fail
      go_ret
      exact ⟨ret_int (by rw [HV.out, if_neg (by simp [he])]; rfl), below_drewN' ((Below.refl _ _).alloc (Nat.le_refl _) _) _⟩
  · have hg' : decide ((text.size : Int) ≤ (s.size : Int) - p) = false := by simpa using hg
    go_enter Try.func82, Try.ntmps82
    go_wp2_with fail
    go_quiet (fail)
    go_wp2_with fail
    go_ret
    exact ⟨ret_int (by rw [HV.out, if_neg (by omega)]; rfl), below_drewN' ((Below.refl _ _).alloc (Nat.le_refl _) _) _⟩
end

end Go.Proofs.Ytndefbecoahfhaa
