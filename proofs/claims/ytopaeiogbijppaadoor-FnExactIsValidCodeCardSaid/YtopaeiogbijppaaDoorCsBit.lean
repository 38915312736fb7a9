/- Bits of a set of bytes; texts of sets, plain; spec.HasByte. Printed by gen_cset.py. -/
import Derived.Test.YtopaeiogbijppaaDoorNmFind
namespace Go.Proofs.YtopaeiogbijppaaDoor
open Go.RowKit

/-- Bit k of a 64-bit word. -/
def bit (x : Int) (k : Nat) : Bool := bits .and .u64 (IntKind.u64.wrap x / 2 ^ k) 1 == 1
theorem wrap_u64_ofInt (x : Int) : IntKind.u64.wrap x = ((BitVec.ofInt 64 x).toNat : Int) := by
  rw [BitVec.toNat_ofInt]
  have : IntKind.u64.wrap x = x % 18446744073709551616 := by rw [IntKind.wrap_u64]
  rw [this]; omega
theorem bit_eq (x : Int) (k : Nat) : bit x k = (BitVec.ofInt 64 x).getLsbD k := by
  unfold bit
  rw [wrap_u64_ofInt]
  generalize BitVec.ofInt 64 x = X
  have hX := X.isLt
  have e : ((X.toNat : Int) / 2 ^ k) = ((X.toNat / 2 ^ k : Nat) : Int) := by simp
  have hle : X.toNat / 2 ^ k ≤ X.toNat := Nat.div_le_self _ _
  rw [e, show (1 : Int) = ((1 : Nat) : Int) from rfl, u64_and_nat _ _ (by omega) (by omega)]
  rw [BitVec.getLsbD, Nat.testBit, Nat.shiftRight_eq_div_pow, Nat.and_comm]
  rcases Nat.mod_two_eq_zero_or_one (X.toNat / 2 ^ k) with h | h <;> simp [h]
theorem bits_i64 (x y : Int) : bits .and .i64 x y = IntKind.i64.wrap ((BitVec.ofInt 64 x &&& BitVec.ofInt 64 y).toNat : Int) := rfl
theorem bit_spec (x : Int) (k : Nat) (hk : k < 64) : (bits .and .i64 x (wrap64 (2 ^ k)) != 0) = bit x k := by
  rw [bit_eq, bits_i64]
  have e : BitVec.ofInt 64 (wrap64 (2 ^ k)) = BitVec.twoPow 64 k := by
    apply BitVec.eq_of_toNat_eq
    rw [BitVec.toNat_ofInt, BitVec.toNat_twoPow]
    have hp : (2 : Nat) ^ k < 2 ^ 64 := Nat.pow_lt_pow_right (by decide) hk
    have hc : ((2 : Int) ^ k) = ((2 ^ k : Nat) : Int) := by simp
    rw [hc]
    unfold wrap64
    rw [Nat.mod_eq_of_lt hp]
    generalize 2 ^ k = n at *
    omega
  rw [e, BitVec.and_twoPow]
  cases h : (BitVec.ofInt 64 x).getLsbD k
  · simp
    rfl
  · simp only [if_true]
    have hp : (2 : Nat) ^ k < 2 ^ 64 := Nat.pow_lt_pow_right (by decide) hk
    have hpos : 0 < (2 : Nat) ^ k := Nat.pow_pos (by decide)
    rw [BitVec.toNat_twoPow, Nat.mod_eq_of_lt hp, IntKind.wrap_i64]
    generalize 2 ^ k = n at *
    simp
    omega

/-- Whether the byte b is of the set. -/
def hb (lo hi b : Int) : Bool := if 127 < b then false else if b < 64 then bit lo b.toNat else bit hi (b - 64).toNat
theorem hb_out (lo hi b : Int) (h : 127 < b) : hb lo hi b = false := by unfold hb; rw [if_pos h]
theorem hb_lo (lo hi b : Int) (_h0 : 0 ≤ b) (h : b < 64) : hb lo hi b = bit lo b.toNat := by unfold hb; rw [if_neg (by omega), if_pos h]
theorem hb_hi (lo hi b : Int) (h0 : 64 ≤ b) (h : b ≤ 127) : hb lo hi b = bit hi (b - 64).toNat := by unfold hb; rw [if_neg (by omega), if_neg (by omega)]


theorem ofInt_wrap (X : BitVec 64) : BitVec.ofInt 64 (IntKind.i64.wrap (X.toNat : Int)) = X := by
  apply BitVec.eq_of_toNat_eq
  rw [BitVec.toNat_ofInt, IntKind.wrap_i64]
  have := X.isLt
  omega
theorem bit_or (x : Int) (k j : Nat) (hk : k < 64) (hj : j < 64) : bit (bits .or .i64 x (wrap64 (2 ^ k))) j = (bit x j || decide (j = k)) := by
  rw [bit_eq, bit_eq, show bits .or .i64 x (wrap64 (2 ^ k)) = IntKind.i64.wrap ((BitVec.ofInt 64 x ||| BitVec.ofInt 64 (wrap64 (2 ^ k))).toNat : Int) from rfl, ofInt_wrap, BitVec.getLsbD_or]
  congr 1
  have e : BitVec.ofInt 64 (wrap64 (2 ^ k)) = BitVec.twoPow 64 k := by
    apply BitVec.eq_of_toNat_eq
    rw [BitVec.toNat_ofInt, BitVec.toNat_twoPow]
    have hp : (2 : Nat) ^ k < 2 ^ 64 := Nat.pow_lt_pow_right (by decide) hk
    have hc : ((2 : Int) ^ k) = ((2 ^ k : Nat) : Int) := by simp
    rw [hc]
    unfold wrap64
    rw [Nat.mod_eq_of_lt hp]
    generalize 2 ^ k = n at *
    omega
  rw [e, BitVec.getLsbD_twoPow]
  have : (64 : Nat) > j := hj
  by_cases h : k = j
  · subst h; simp [hk]
  · have h' : ¬ j = k := fun e => h e.symm
    simp [h, h']
theorem hb_or_lo (lo hi b c : Int) (hb0 : 0 ≤ b) (hb1 : b ≤ 127) (h0 : 0 ≤ c) (h1 : c < 64) : hb (bits .or .i64 lo (wrap64 (2 ^ c.toNat))) hi b = (hb lo hi b || decide (b = c)) := by
  by_cases h : b < 64
  · rw [hb_lo _ _ _ hb0 h, hb_lo _ _ _ hb0 h, bit_or _ _ _ (by omega) (by omega)]
    congr 1
    exact decide_eq_decide.2 (by omega)
  · rw [hb_hi _ _ _ (by omega) hb1, hb_hi _ _ _ (by omega) hb1, show decide (b = c) = false from decide_eq_false (by omega), Bool.or_false]
theorem hb_or_hi (lo hi b c : Int) (hb0 : 0 ≤ b) (hb1 : b ≤ 127) (h0 : 64 ≤ c) (h1 : c ≤ 127) : hb lo (bits .or .i64 hi (wrap64 (2 ^ (c - 64).toNat))) b = (hb lo hi b || decide (b = c)) := by
  by_cases h : b < 64
  · rw [hb_lo _ _ _ hb0 h, hb_lo _ _ _ hb0 h, show decide (b = c) = false from decide_eq_false (by omega), Bool.or_false]
  · rw [hb_hi _ _ _ (by omega) hb1, hb_hi _ _ _ (by omega) hb1, bit_or _ _ _ (by omega) (by omega)]
    congr 1
    exact decide_eq_decide.2 (by omega)
theorem hb_empty (b : Int) (_h0 : 0 ≤ b) (_h1 : b ≤ 127) : hb 0 0 b = false := by
  unfold hb
  split
  · rfl
  · split <;> (rw [bit_eq]; simp)
/-! ### The text of a set -/
/-- Small bytes, each greater than the one before. -/
def csOk (s : List UInt8) : Bool := decide (∀ x ∈ s, x.toNat ≤ 127) && decide (s.Pairwise fun a b => a.toNat < b.toNat)
/-- The bytes below n of the set. -/
def csBytes (lo hi : Int) (n : Nat) : List UInt8 := ((List.range n).filter fun b : Nat => hb lo hi (b : Int)).map UInt8.ofNat
theorem csBytes_succ (lo hi : Int) (n : Nat) : csBytes lo hi (n + 1) = csBytes lo hi n ++ if hb lo hi (n : Int) then [UInt8.ofNat n] else [] := by
  unfold csBytes
  rw [List.range_succ, List.filter_append, List.map_append]
  congr 1
  cases h : hb lo hi (n : Int) <;> simp [h]
theorem csBytes_len (lo hi : Int) (n : Nat) : (csBytes lo hi n).length ≤ n := by
  unfold csBytes
  rw [List.length_map]
  exact Nat.le_trans (List.length_filter_le _ _) (by simp)
theorem sorted_ext : ∀ (a b : List UInt8), a.Pairwise (fun x y => x.toNat < y.toNat) → b.Pairwise (fun x y => x.toNat < y.toNat) → (∀ x, x ∈ a ↔ x ∈ b) → a = b
  | [], [], _, _, _ => rfl
  | [], y :: b, _, _, h => by have := (h y).2 (by simp); simp at this
  | x :: a, [], _, _, h => by have := (h x).1 (by simp); simp at this
  | x :: a, y :: b, ha, hb, h => by
    rw [List.pairwise_cons] at ha hb
    have hxy : x = y := by
      have h1 := (h x).1 (by simp)
      have h2 := (h y).2 (by simp)
      rw [List.mem_cons] at h1 h2
      rcases h1 with h1 | h1
      · exact h1
      · rcases h2 with h2 | h2
        · exact h2.symm
        · have := ha.1 y h2; have := hb.1 x h1; omega
    subst hxy
    rw [sorted_ext a b ha.2 hb.2 (fun z => by
      have hz := h z
      rw [List.mem_cons, List.mem_cons] at hz
      constructor
      · intro hm
        rcases hz.1 (.inr hm) with e | e
        · subst e; have := ha.1 z hm; omega
        · exact e
      · intro hm
        rcases hz.2 (.inr hm) with e | e
        · subst e; have := hb.1 z hm; omega
        · exact e)]
theorem csBytes_sorted (lo hi : Int) (n : Nat) (hn : n ≤ 128) : (csBytes lo hi n).Pairwise fun x y => x.toNat < y.toNat := by
  unfold csBytes
  rw [List.pairwise_map]
  have h : ((List.range n).filter fun b : Nat => hb lo hi (b : Int)).Pairwise (· < ·) := List.Pairwise.filter _ List.pairwise_lt_range
  refine List.Pairwise.imp_of_mem (fun {a b} ha hb hab => ?_) h
  have h1 := List.mem_range.1 (List.mem_filter.1 ha).1
  have h2 := List.mem_range.1 (List.mem_filter.1 hb).1
  rw [UInt8.toNat_ofNat', UInt8.toNat_ofNat', Nat.mod_eq_of_lt (by omega), Nat.mod_eq_of_lt (by omega)]
  exact hab
/-- A set that holds the text's bytes: its text is the text exactly where that is in order. -/
theorem cs_text (s : List UInt8) (lo hi : Int) (h7 : ∀ x ∈ s, x.toNat ≤ 127) (hs : ∀ b : Nat, b ≤ 127 → (hb lo hi (b : Int) = true ↔ UInt8.ofNat b ∈ s)) : csBytes lo hi 128 = s ↔ csOk s = true := by
  constructor
  · intro e
    unfold csOk
    rw [Bool.and_eq_true, decide_eq_true_eq, decide_eq_true_eq]
    refine ⟨h7, ?_⟩
    have := csBytes_sorted lo hi 128 (by decide)
    rwa [e] at this
  · intro h
    unfold csOk at h
    rw [Bool.and_eq_true, decide_eq_true_eq, decide_eq_true_eq] at h
    refine sorted_ext _ _ (csBytes_sorted lo hi 128 (by decide)) h.2 (fun x => ?_)
    unfold csBytes
    rw [List.mem_map]
    constructor
    · rintro ⟨b, hm, rfl⟩
      rw [List.mem_filter, List.mem_range] at hm
      exact (hs b (by omega)).1 hm.2
    · intro hx
      have hx7 := h7 x hx
      refine ⟨x.toNat, ?_, UInt8.ofNat_toNat⟩
      rw [List.mem_filter, List.mem_range]
      exact ⟨by omega, (hs x.toNat hx7).2 (by rw [UInt8.ofNat_toNat]; exact hx)⟩
theorem csOk_big {s : List UInt8} {x : UInt8} (hm : x ∈ s) (h : 127 < x.toNat) : csOk s = false := by
  unfold csOk
  rw [show decide (∀ x ∈ s, x.toNat ≤ 127) = false from decide_eq_false (fun hh => by have := hh x hm; omega), Bool.false_and]
theorem csOk_pair {s : List UInt8} {j : Nat} (hj : j + 1 < s.length) (h : s[j + 1].toNat ≤ s[j].toNat) : csOk s = false := by
  unfold csOk
  rw [show decide (s.Pairwise fun a b => a.toNat < b.toNat) = false from decide_eq_false (fun hh => by
    have := List.pairwise_iff_getElem.1 hh j (j + 1) (by omega) hj (by omega); omega), Bool.and_false]
theorem csOk_yes {s : List UInt8} (h7 : ∀ k (h : k < s.length), s[k].toNat ≤ 127) (h : ∀ k (h : k + 1 < s.length), s[k].toNat < s[k + 1].toNat) : csOk s = true := by
  unfold csOk
  rw [Bool.and_eq_true, decide_eq_true_eq, decide_eq_true_eq]
  refine ⟨fun x hx => ?_, List.pairwise_iff_getElem.2 fun i j hi hj hij => ?_⟩
  · obtain ⟨k, hk, rfl⟩ := List.getElem_of_mem hx
    exact h7 k hk
  · have key : ∀ d, (hd : i + d + 1 < s.length) → s[i].toNat < s[i + d + 1].toNat := by
      intro d
      induction d with
      | zero => intro hd; exact h i hd
      | succ d ih => intro hd; exact Nat.lt_trans (ih (by omega)) (h (i + d + 1) hd)
    have := key (j - i - 1) (by omega)
    simpa [show i + (j - i - 1) + 1 = j by omega] using this
set_option maxHeartbeats 400000 in
theorem specHasByte_any (lo hi b : Int) (w : World) (h0 : 0 ≤ b) (h1 : b < 256) :
    Calls Tryd.prog 93 #[.agg #[.int .i64 lo, .int .i64 hi], .int .u8 b] w fun e w' => e = .returned (.bool (hb lo hi b)) ∧ Below w.heap.size w w' := by
  by_cases h2 : 127 < b
  · rw [hb_out lo hi b h2]
    go_enter Tryd.func93, Tryd.ntmps93
    go_wp2
    go_ret
    exact ⟨rfl, (Below.refl _ _).alloc (Nat.le_refl _) _⟩
  · by_cases h3 : b < 64
    · have hv := Lib.hid (hb_lo lo hi b h0 h3)
      go_enter Tryd.func93, Tryd.ntmps93
      go_wp2
      go_ret
      exact ⟨by rw [hv.out]; rw [← bit_spec lo b.toNat (by omega)]; rfl, (Below.refl _ _).alloc (Nat.le_refl _) _⟩
    · have hv := Lib.hid (hb_hi lo hi b (by omega) (by omega))
      go_enter Tryd.func93, Tryd.ntmps93
      go_wp2
      go_ret
      exact ⟨by rw [hv.out]; rw [← bit_spec hi (b - 64).toNat (by omega)]; rfl, (Below.refl _ _).alloc (Nat.le_refl _) _⟩

end Go.Proofs.YtopaeiogbijppaaDoor
