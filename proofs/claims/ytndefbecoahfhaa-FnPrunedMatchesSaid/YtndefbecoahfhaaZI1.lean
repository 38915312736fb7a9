/- A pruned search ends as one that does not skip: plain theory of the matcher. -/
import Derived.Test.YtndefbecoahfhaaZF3

/- A search that skips offsets finds what one that does not skip finds. No walk in sight. -/
namespace Go.Proofs.Ytndefbecoahfhaa
open Go.RowKit

/-! ### No stop -/
def Unstop (gs : List Goal) : Prop := ∀ g ∈ gs, stops g.p = false
theorem Unstop.tail {g : Goal} {gs : List Goal} (h : Unstop (g :: gs)) : Unstop gs := fun x hx => h x (List.mem_cons_of_mem _ hx)
theorem Unstop.cons {g : Goal} {gs : List Goal} (hg : stops g.p = false) (h : Unstop gs) : Unstop (g :: gs) := fun x hx => by
  rcases List.mem_cons.1 hx with rfl | hx
  · exact hg
  · exact h x hx
theorem stopsAll_mem {ps : List Pat} (h : stopsAll ps = false) : ∀ p ∈ ps, stops p = false := by
  induction ps with
  | nil => intro p hp; simp at hp
  | cons q ps ih =>
    simp only [stopsAll, Bool.or_eq_false_iff] at h
    intro p hp
    rcases List.mem_cons.1 hp with rfl | hp
    · exact h.1
    · exact ih h.2 p hp
theorem stops_getD {ps : List Pat} (h : stopsAll ps = false) (i : Nat) : stops (ps.getD i (.mk 0 ByteArray.empty 0 0 0 [])) = false := by
  rw [List.getD_eq_getElem?_getD]
  cases e : ps[i]? with
  | none => simp [stops, stopsAll]
  | some p => exact stopsAll_mem h p (List.mem_of_getElem? e)
theorem stops_kid {p : Pat} (h : stops p = false) (i : Nat) : stops (p.kid i) = false := by
  rw [stops_eq, Bool.or_eq_false_iff] at h
  exact stops_getD h.2 i
theorem stops_op {p : Pat} (h : stops p = false) : p.op ≠ 19 ∧ p.op ≠ 21 := by
  rw [stops_eq] at h
  simp only [Bool.or_eq_false_iff, beq_eq_false_iff_ne] at h
  exact h.1
def Unstops (cs : List Choice) : Prop := ∀ c ∈ cs, c.stop = false ∧ Unstop c.goals
theorem Unstops.push {cs : List Choice} {c : Choice} (h : Unstops cs) (h1 : c.stop = false) (h2 : Unstop c.goals) : Unstops (cs ++ [c]) := fun x hx => by
  rcases List.mem_append.1 hx with hx | hx
  · exact h x hx
  · rw [List.mem_singleton.1 hx]; exact ⟨h1, h2⟩
theorem step_nostop {defs : List Pat} {s : ByteArray} {g : Goal} {gs : List Goal} {m : Mst} (hd : stopsAll defs = false) (hg : Unstop (g :: gs)) (hc : Unstops m.choices) :
    step defs s g gs m ≠ .stop ∧ ∀ gs' m', step defs s g gs m = .go gs' m' → Unstop gs' ∧ Unstops m'.choices := by
  have h0 := hg g List.mem_cons_self
  have hk := stops_kid h0
  obtain ⟨h19, h21⟩ := stops_op h0
  have ht := hg.tail
  unfold step
  split
  · exact ⟨by simp, fun gs' m' e => by cases e; exact ⟨ht, hc⟩⟩
  split
  · exact ⟨by simp, fun gs' m' e => by cases e; exact ⟨ht, hc⟩⟩
  split
  · exact ⟨by simp, fun gs' m' e => by cases e; exact ⟨(ht.cons (g := ⟨4, g.p, m.at_⟩) h0).cons (hk 0), hc⟩⟩
  split
  · split
    · exact ⟨by simp, fun gs' m' e => by cases e⟩
    · exact ⟨by simp, fun gs' m' e => by cases e; exact ⟨ht.cons h0, hc⟩⟩
  unfold stepMatch
  split
  · refine ⟨by simp, fun gs' m' e => ?_⟩
    cases e
    refine ⟨ht, ?_⟩
    split
    · exact hc.push rfl (ht.cons h0)
    · exact hc
  split
  · exact ⟨by simp, fun gs' m' e => by cases e; exact ⟨ht, hc.push rfl (ht.cons h0)⟩⟩
  split
  · exact ⟨by simp, fun gs' m' e => by cases e; exact ⟨(ht.cons (g := ⟨0, g.p.kid 1, 0⟩) (hk 1)).cons (hk 0), hc⟩⟩
  split
  · exact ⟨by simp, fun gs' m' e => by cases e; exact ⟨ht.cons (hk 0), hc.push rfl (ht.cons (hk 1))⟩⟩
  split
  · exact ⟨by simp, fun gs' m' e => by cases e; exact ⟨(ht.cons (g := ⟨1, g.p, m.at_⟩) h0).cons (hk 0), hc⟩⟩
  split
  · exact ⟨by simp, fun gs' m' e => by cases e; exact ⟨(ht.cons (g := ⟨2, g.p, m.at_⟩) h0).cons (hk 0), hc⟩⟩
  split
  · exact ⟨by simp, fun gs' m' e => by cases e; exact ⟨ht, hc⟩⟩
  split
  · exact ⟨by simp, fun gs' m' e => by cases e; exact ⟨ht.cons (stops_getD hd _), hc⟩⟩
  split
  · exact ⟨by simp, fun gs' m' e => by cases e; exact ⟨ht, hc⟩⟩
  · exact ⟨by simp, fun gs' m' e => by cases e⟩
theorem play_nostop {defs : List Pat} {s : ByteArray} (hd : stopsAll defs = false) : ∀ (k n : Nat) (gs : List Goal) (m : Mst), Unstop gs → Unstops m.choices → (play defs s k n gs m).stopped = false
  | k, n, [], m, _, _ => by rw [play_nil]
  | 0, n, g :: gs, m, _, _ => by rw [play_zero]
  | k + 1, n, g :: gs, m, hg, hc => by
    have hs := step_nostop (s := s) hd hg hc
    cases e : step defs s g gs m with
    | go gs' m' => rw [play_go e]; exact play_nostop hd k (n + 1) gs' m' (hs.2 _ _ e).1 (hs.2 _ _ e).2
    | stop => exact absurd e hs.1
    | fail =>
      rcases List.eq_nil_or_concat m.choices with h0 | ⟨cs, c, h0⟩
      · rw [play_none e h0]
      · rw [List.concat_eq_append] at h0
        rw [play_last e h0]
        have hcc := hc c (by rw [h0]; simp)
        rw [if_neg (by rw [hcc.1]; simp)]
        exact play_nostop hd k (n + 1) c.goals _ hcc.2 (fun x hx => hc x (by rw [h0]; exact List.mem_append_left _ hx))
/-- What was not found has no place and no captures. -/
theorem play_blank {defs : List Pat} {s : ByteArray} : ∀ (k n : Nat) (gs : List Goal) (m : Mst), (play defs s k n gs m).found = false → (play defs s k n gs m).at_ = 0 ∧ (play defs s k n gs m).caps = []
  | k, n, [], m, h => by rw [play_nil] at h; cases h
  | 0, n, g :: gs, m, _ => by rw [play_zero]; exact ⟨rfl, rfl⟩
  | k + 1, n, g :: gs, m, h => by
    cases e : step defs s g gs m with
    | go gs' m' => rw [play_go e] at h ⊢; exact play_blank k (n + 1) gs' m' h
    | stop => rw [play_stop e]; exact ⟨rfl, rfl⟩
    | fail =>
      rcases List.eq_nil_or_concat m.choices with h0 | ⟨cs, c, h0⟩
      · rw [play_none e h0]; exact ⟨rfl, rfl⟩
      · rw [List.concat_eq_append] at h0
        rw [play_last e h0] at h ⊢
        split
        · exact ⟨rfl, rfl⟩
        · rename_i hb
          rw [if_neg hb] at h
          exact play_blank k (n + 1) c.goals _ h

/-! ### Ways to the end -/
/-- What may come behind a goal. -/
def Nx (defs : List Pat) (s : ByteArray) (g : Goal) (gs : List Goal) (i : Nat) (gs' : List Goal) (i' : Nat) : Prop :=
  ∃ m m' gs1, m.at_ = i ∧ step defs s g gs m = .go gs1 m' ∧ ((gs' = gs1 ∧ i' = m'.at_) ∨ ∃ new c, m'.choices = m.choices ++ new ∧ c ∈ new ∧ c.stop = false ∧ gs' = c.goals ∧ i' = c.at_)
inductive Path (defs : List Pat) (s : ByteArray) : Nat → List Goal → Nat → Prop
  | nil (i : Nat) : Path defs s 0 [] i
  | cons {n : Nat} {g : Goal} {gs gs' : List Goal} {i i' : Nat} : Nx defs s g gs i gs' i' → Path defs s n gs' i' → Path defs s (n + 1) (g :: gs) i
theorem step_adds {defs : List Pat} {s : ByteArray} {g : Goal} {gs gs' : List Goal} {m m' : Mst} (h : step defs s g gs m = .go gs' m') : ∃ new, m'.choices = m.choices ++ new := by
  unfold step at h
  split at h
  · cases h; exact ⟨[], by simp [Mst.cap]⟩
  split at h
  · cases h; exact ⟨[], by simp [Mst.event]⟩
  split at h
  · cases h; exact ⟨[], by simp⟩
  split at h
  · split at h
    · cases h
    · cases h; exact ⟨[], by simp⟩
  unfold stepMatch at h
  split at h
  · cases h
    split
    · exact ⟨_, rfl⟩
    · exact ⟨[], by simp⟩
  split at h
  · cases h; exact ⟨_, rfl⟩
  split at h
  · cases h; exact ⟨[], by simp⟩
  split at h
  · cases h; exact ⟨_, rfl⟩
  split at h
  · cases h; exact ⟨[], by simp⟩
  split at h
  · cases h; exact ⟨[], by simp⟩
  split at h
  · cases h; exact ⟨[], by simp [Mst.event]⟩
  split at h
  · cases h; exact ⟨_, rfl⟩
  split at h
  · cases h; exact ⟨[], by simp⟩
  split at h
  · cases h
  split at h
  · cases h; exact ⟨[], by simp⟩
  · cases h
theorem play_path {defs : List Pat} {s : ByteArray} : ∀ (k n : Nat) (gs : List Goal) (m : Mst), (play defs s k n gs m).found = true →
    (∃ l, Path defs s l gs m.at_) ∨ ∃ c ∈ m.choices, c.stop = false ∧ ∃ l, Path defs s l c.goals c.at_
  | k, n, [], m, _ => .inl ⟨0, .nil _⟩
  | 0, n, g :: gs, m, h => by rw [play_zero] at h; cases h
  | k + 1, n, g :: gs, m, h => by
    cases e : step defs s g gs m with
    | go gs' m' =>
      rw [play_go e] at h
      obtain ⟨new, hn⟩ := step_adds e
      rcases play_path k (n + 1) gs' m' h with ⟨l, hl⟩ | ⟨c, hc, hst, l, hl⟩
      · exact .inl ⟨l + 1, .cons ⟨m, m', gs', rfl, e, .inl ⟨rfl, rfl⟩⟩ hl⟩
      · rw [hn] at hc
        rcases List.mem_append.1 hc with hc | hc
        · exact .inr ⟨c, hc, hst, l, hl⟩
        · exact .inl ⟨l + 1, .cons ⟨m, m', gs', rfl, e, .inr ⟨new, c, hn, hc, hst, rfl, rfl⟩⟩ hl⟩
    | stop => rw [play_stop e] at h; cases h
    | fail =>
      rcases List.eq_nil_or_concat m.choices with h0 | ⟨cs, c, h0⟩
      · rw [play_none e h0] at h; cases h
      · rw [List.concat_eq_append] at h0
        rw [play_last e h0] at h
        split at h
        · cases h
        · rename_i hb
          rcases play_path k (n + 1) c.goals _ h with ⟨l, hl⟩ | ⟨d, hd, hst, l, hl⟩
          · exact .inr ⟨c, by rw [h0]; simp, by simpa using hb, l, hl⟩
          · exact .inr ⟨d, by rw [h0]; exact List.mem_append_left _ hd, hst, l, hl⟩

/-! ### What a way asks of its first pattern -/
theorem nx_match {defs : List Pat} {s : ByteArray} {p : Pat} {f : Int} {gs gs' : List Goal} {i i' : Nat} (h : Nx defs s ⟨0, p, f⟩ gs i gs' i') :
    (p.op = 11 ∧ ((gs' = gs ∧ i' = i) ∨ (i < s.size ∧ gs' = ⟨0, p, 0⟩ :: gs ∧ i' = i + 1))) ∨
    (p.op = 13 ∧ ((gs' = gs ∧ i' = i) ∨ (gs' = ⟨3, p, 0⟩ :: gs ∧ i' = i))) ∨
    (p.op = 14 ∧ gs' = ⟨0, p.kid 0, 0⟩ :: ⟨0, p.kid 1, 0⟩ :: gs ∧ i' = i) ∨
    (p.op = 15 ∧ (gs' = ⟨0, p.kid 0, 0⟩ :: gs ∨ gs' = ⟨0, p.kid 1, 0⟩ :: gs) ∧ i' = i) ∨
    (p.op = 16 ∧ gs' = ⟨0, p.kid 0, 0⟩ :: ⟨1, p, i⟩ :: gs ∧ i' = i) ∨
    (p.op = 17 ∧ gs' = ⟨0, p.kid 0, 0⟩ :: ⟨2, p, i⟩ :: gs ∧ i' = i) ∨
    ((p.op = 18 ∨ p.op = 19) ∧ gs' = gs ∧ i' = i) ∨
    (p.op = 20 ∧ gs' = ⟨0, defs.getD p.num.toNat (.mk 0 ByteArray.empty 0 0 0 []), 0⟩ :: gs ∧ i' = i) ∨
    (oneEnd p.op p.text p.num p.lo p.hi s i = some i' ∧ gs' = gs) := by
  obtain ⟨m, m', gs1, rfl, hs, ho⟩ := h
  have hnew : ∀ {l : List Choice} {c : Choice}, m.choices = m.choices ++ l → c ∈ l → False := fun {l c} e hc => by
    have := congrArg List.length e
    simp at this
    subst this
    simp at hc
  have hone : ∀ {l : List Choice} {c d : Choice}, m.choices ++ [d] = m.choices ++ l → c ∈ l → c = d := fun {l c d} e hc => by
    have := List.append_cancel_left e
    rw [← this] at hc
    exact List.mem_singleton.1 hc
  unfold step at hs
  simp only [show ¬ ((0 : Nat) = 1) by omega, show ¬ ((0 : Nat) = 2) by omega, show ¬ ((0 : Nat) = 3) by omega, show ¬ ((0 : Nat) = 4) by omega, if_false] at hs
  unfold stepMatch at hs
  split at hs
  · rename_i hop
    refine .inl ⟨hop, ?_⟩
    cases hs
    rcases ho with ⟨rfl, rfl⟩ | ⟨l, c, hl, hc, _, rfl, rfl⟩
    · left; split <;> exact ⟨rfl, rfl⟩
    · split at hl
      · rename_i hlt
        have := hone hl hc
        subst this
        exact .inr ⟨hlt, rfl, rfl⟩
      · exact (hnew hl hc).elim
  split at hs
  · rename_i hop
    refine .inr (.inl ⟨hop, ?_⟩)
    cases hs
    rcases ho with ⟨rfl, rfl⟩ | ⟨l, c, hl, hc, _, rfl, rfl⟩
    · exact .inl ⟨rfl, rfl⟩
    · have := hone hl hc
      subst this
      exact .inr ⟨rfl, rfl⟩
  split at hs
  · rename_i hop
    refine .inr (.inr (.inl ⟨hop, ?_⟩))
    cases hs
    rcases ho with ⟨rfl, rfl⟩ | ⟨l, c, hl, hc, _, rfl, rfl⟩
    · exact ⟨rfl, rfl⟩
    · exact (hnew hl hc).elim
  split at hs
  · rename_i hop
    refine .inr (.inr (.inr (.inl ⟨hop, ?_⟩)))
    cases hs
    rcases ho with ⟨rfl, rfl⟩ | ⟨l, c, hl, hc, _, rfl, rfl⟩
    · exact ⟨.inl rfl, rfl⟩
    · have := hone hl hc
      subst this
      exact ⟨.inr rfl, rfl⟩
  split at hs
  · rename_i hop
    refine .inr (.inr (.inr (.inr (.inl ⟨hop, ?_⟩))))
    cases hs
    rcases ho with ⟨rfl, rfl⟩ | ⟨l, c, hl, hc, _, rfl, rfl⟩
    · exact ⟨rfl, rfl⟩
    · exact (hnew hl hc).elim
  split at hs
  · rename_i hop
    refine .inr (.inr (.inr (.inr (.inr (.inl ⟨hop, ?_⟩)))))
    cases hs
    rcases ho with ⟨rfl, rfl⟩ | ⟨l, c, hl, hc, _, rfl, rfl⟩
    · exact ⟨rfl, rfl⟩
    · exact (hnew hl hc).elim
  split at hs
  · rename_i hop
    refine .inr (.inr (.inr (.inr (.inr (.inr (.inl ⟨.inl hop, ?_⟩))))))
    cases hs
    rcases ho with ⟨rfl, rfl⟩ | ⟨l, c, hl, hc, _, rfl, rfl⟩
    · exact ⟨rfl, rfl⟩
    · exact (hnew hl hc).elim
  split at hs
  · rename_i hop
    refine .inr (.inr (.inr (.inr (.inr (.inr (.inl ⟨.inr hop, ?_⟩))))))
    cases hs
    rcases ho with ⟨rfl, rfl⟩ | ⟨l, c, hl, hc, hst, rfl, rfl⟩
    · exact ⟨rfl, rfl⟩
    · have := hone hl hc
      subst this
      cases hst
  split at hs
  · rename_i hop
    refine .inr (.inr (.inr (.inr (.inr (.inr (.inr (.inl ⟨hop, ?_⟩)))))))
    cases hs
    rcases ho with ⟨rfl, rfl⟩ | ⟨l, c, hl, hc, _, rfl, rfl⟩
    · exact ⟨rfl, rfl⟩
    · exact (hnew hl hc).elim
  split at hs
  · cases hs
  split at hs
  · rename_i e he
    refine .inr (.inr (.inr (.inr (.inr (.inr (.inr (.inr ?_)))))))
    cases hs
    rcases ho with ⟨rfl, rfl⟩ | ⟨l, c, hl, hc, _, rfl, rfl⟩
    · exact ⟨he, rfl⟩
    · exact (hnew hl hc).elim
  · cases hs
/-- The goals that are no pattern. -/
theorem nx_kind {defs : List Pat} {s : ByteArray} {k : Nat} {p : Pat} {f : Int} {gs gs' : List Goal} {i i' : Nat} (h : Nx defs s ⟨k, p, f⟩ gs i gs' i') :
    ((k = 1 ∨ k = 2) → gs' = gs ∧ i' = i) ∧ (k = 3 → gs' = ⟨0, p.kid 0, 0⟩ :: ⟨4, p, i⟩ :: gs ∧ i' = i) ∧ (k = 4 → gs' = ⟨0, p, 0⟩ :: gs ∧ i' = i) := by
  obtain ⟨m, m', gs1, rfl, hs, ho⟩ := h
  have hnew : ∀ {l : List Choice} {c : Choice}, m.choices = m.choices ++ l → c ∈ l → False := fun {l c} e hc => by
    have := congrArg List.length e
    simp at this
    subst this
    simp at hc
  refine ⟨?_, ?_, ?_⟩
  · rintro (rfl | rfl)
    all_goals
      simp only [step, if_true, show ¬ ((2 : Nat) = 1) by omega, if_false] at hs
      cases hs
      rcases ho with ⟨rfl, rfl⟩ | ⟨l, c, hl, hc, _, rfl, rfl⟩
      · exact ⟨rfl, rfl⟩
      · exact (hnew hl hc).elim
  · rintro rfl
    simp only [step, if_true, show ¬ ((3 : Nat) = 1) by omega, show ¬ ((3 : Nat) = 2) by omega, if_false] at hs
    cases hs
    rcases ho with ⟨rfl, rfl⟩ | ⟨l, c, hl, hc, _, rfl, rfl⟩
    · exact ⟨rfl, rfl⟩
    · exact (hnew hl hc).elim
  · rintro rfl
    simp only [step, if_true, show ¬ ((4 : Nat) = 1) by omega, show ¬ ((4 : Nat) = 2) by omega, show ¬ ((4 : Nat) = 3) by omega, if_false] at hs
    split at hs
    · cases hs
    · cases hs
      rcases ho with ⟨rfl, rfl⟩ | ⟨l, c, hl, hc, _, rfl, rfl⟩
      · exact ⟨rfl, rfl⟩
      · exact (hnew hl hc).elim

def firstOk (f : First) (s : ByteArray) (i : Nat) : Prop := f.op_ = true ∨ (i < s.size ∧ hb f.lo f.hi (byteAt s i) = true)

theorem bits_or_i64 (x y : Int) : bits .or .i64 x y = IntKind.i64.wrap ((BitVec.ofInt 64 x ||| BitVec.ofInt 64 y).toNat : Int) := rfl
theorem ofInt_wrap (n : Nat) (h : n < 2 ^ 64) : BitVec.ofInt 64 (IntKind.i64.wrap (n : Int)) = BitVec.ofNat 64 n := by
  apply BitVec.eq_of_toNat_eq
  rw [BitVec.toNat_ofInt, BitVec.toNat_ofNat, IntKind.wrap_i64]
  omega
theorem bit_or (x y : Int) (k : Nat) : bit (orWord x y) k = (bit x k || bit y k) := by
  rw [bit_eq, bit_eq, bit_eq]
  unfold orWord
  rw [bits_or_i64, ofInt_wrap _ (BitVec.isLt _), BitVec.ofNat_toNat, BitVec.setWidth_eq, BitVec.getLsbD_or]
theorem hb_or (a b c d x : Int) : hb (orWord a c) (orWord b d) x = (hb a b x || hb c d x) := by
  unfold hb
  split
  · rfl
  · split
    · exact bit_or _ _ _
    · exact bit_or _ _ _
theorem bit_one_fin : ∀ k : Fin 64, bit (oneBit k.val) k.val = true := by decide +kernel
theorem hb_one (b : Int) (h0 : 0 ≤ b) (h1 : b < 128) : hb (oneLo b) (oneHi b) b = true := by
  unfold hb oneLo oneHi
  rw [if_neg (by omega)]
  by_cases h : b < 64
  · rw [if_pos h, if_pos h]; exact bit_one_fin ⟨b.toNat, by omega⟩
  · rw [if_neg h, if_neg h]; exact bit_one_fin ⟨(b - 64).toNat, by omega⟩
theorem byteAt_extract (s t : ByteArray) (i : Nat) (hi : i + t.size ≤ s.size) (h : s.extract i (i + t.size) = t) (h0 : 0 < t.size) : byteAt s i = (t[0].toNat : Int) := by
  rw [← byteAt_eq s i (by omega)]
  have : (s.extract i (i + t.size))[0]'(by rw [h]; exact h0) = s[i] := by rw [ByteArray.getElem_extract]; rfl
  rw [← this]
  have key : ∀ (u : ByteArray) (e : u = t) (h' : 0 < u.size), (u[0].toNat : Int) = (t[0].toNat : Int) := by rintro _ rfl _; rfl
  exact key _ h _
theorem run_len (lo hi : Int) (yes : Bool) (s : ByteArray) (i : Nat) (h : i ≤ s.size) : i + runOf lo hi yes (s.data.toList.drop i) ≤ s.size := by
  unfold runOf
  have h1 := (List.takeWhile_sublist (fun b : UInt8 => hb lo hi (b.toNat : Int) == yes) (l := s.data.toList.drop i)).length_le
  rw [List.length_drop] at h1
  have : s.data.toList.length = s.size := Array.length_toList
  omega
theorem run_first (lo hi : Int) (s : ByteArray) (i : Nat) (h : 0 < runOf lo hi true (s.data.toList.drop i)) : i < s.size ∧ hb lo hi (byteAt s i) = true := by
  unfold runOf at h
  have hsz : s.data.toList.length = s.size := Array.length_toList
  cases e : s.data.toList.drop i with
  | nil => rw [e] at h; simp at h
  | cons b l =>
    rw [e] at h
    have hlt : i < s.size := by
      have := congrArg List.length e
      rw [List.length_drop] at this
      simp at this
      omega
    refine ⟨hlt, ?_⟩
    have hb0 : byteAt s i = (b.toNat : Int) := by
      unfold byteAt
      have : s.data.toList[i]? = some b := by
        have := congrArg (fun l : List UInt8 => l[0]?) e
        simpa using this
      rw [List.getD_eq_getElem?_getD, this]; rfl
    rw [hb0]
    by_cases hbb : hb lo hi (b.toNat : Int) = true
    · exact hbb
    · rw [List.takeWhile_cons_of_neg (by simpa using hbb)] at h
      simp at h
/-- The simple patterns: where they end, how long they are at least, with what they begin. -/
theorem one_parts {op : Int} {text : ByteArray} {num lo hi_1 : Int} {s : ByteArray} {i e : Nat} {ls : List Int} {fs : List First} (hi : i ≤ s.size) (hn : 0 ≤ num) (h : oneEnd op text num lo hi_1 s i = some e) :
    i ≤ e ∧ e ≤ s.size ∧ min (leastNum op text.size num ls) 121 ≤ (e : Int) - i ∧ firstOk (firstNum op text lo hi_1 fs) s i := by
  unfold oneEnd at h
  unfold leastNum firstNum firstOk
  by_cases h1 : op = 1
  · subst h1
    simp only [if_true] at h ⊢
    split at h
    · rename_i hc
      cases h
      refine ⟨by omega, hc.1, by omega, ?_⟩
      split
      · rename_i h0
        split
        · rename_i h128
          right
          refine ⟨by omega, ?_⟩
          rw [byteAt_extract s text i hc.1 hc.2 h0]
          exact hb_one _ (by omega) h128
        · exact .inl rfl
      · exact .inl rfl
    · cases h
  by_cases h2 : op = 2
  · subst h2
    simp at h ⊢
    obtain ⟨ha, rfl⟩ := h
    omega
  by_cases h3 : op = 3
  · subst h3
    simp at h ⊢
    obtain ⟨ha, rfl⟩ := h
    omega
  by_cases h4 : op = 4
  · subst h4
    simp at h ⊢
    obtain ⟨ha, rfl⟩ := h
    omega
  by_cases h5 : op = 5
  · subst h5
    simp at h ⊢
    obtain ⟨ha, rfl⟩ := h
    omega
  by_cases h6 : op = 6
  · subst h6
    simp at h ⊢
    obtain ⟨ha, rfl⟩ := h
    omega
  by_cases h7 : op = 7
  · subst h7
    simp at h ⊢
    obtain ⟨⟨ha, hb⟩, rfl⟩ := h
    exact ⟨by omega, by omega, by omega, ha, hb⟩
  by_cases h8 : op = 8
  · subst h8
    simp at h ⊢
    obtain ⟨⟨ha, hb⟩, rfl⟩ := h
    omega
  by_cases h9 : op = 9
  · subst h9
    simp at h ⊢
    obtain ⟨ha, rfl⟩ := h
    have hr := run_len lo hi_1 true s i hi
    have hf := run_first lo hi_1 s i ha
    exact ⟨by omega, hr, by omega, hf.1, hf.2⟩
  by_cases h10 : op = 10
  · subst h10
    simp at h ⊢
    obtain ⟨ha, rfl⟩ := h
    omega
  by_cases h12 : op = 12
  · subst h12
    simp at h ⊢
    subst h
    omega
  by_cases h22 : op = 22
  · subst h22
    simp at h ⊢
    subst h
    omega
  simp [h1, h2, h3, h4, h5, h6, h7, h8, h9, h10, h12, h22] at h
end Go.Proofs.Ytndefbecoahfhaa

/- A match begins with a first byte and is as long as the least length says; a search that skips finds the same. No walk in sight. -/
namespace Go.Proofs.Ytndefbecoahfhaa
open Go.RowKit

theorem valid_parts {p : Pat} {n : Int} (h : valid p n = true) : (p.kids.length : Int) = kidsOf p.op ∧ 0 ≤ p.num ∧ (p.op = 20 → p.num < n) ∧ ∀ j (hj : j < p.kids.length), valid p.kids[j] n = true := by
  rw [valid_eq] at h
  simp only [okHead, Bool.and_eq_true, decide_eq_true_eq] at h
  obtain ⟨⟨⟨⟨⟨h1, h2⟩, _⟩, h4⟩, _⟩, h6⟩ := h
  refine ⟨h2, ?_, ?_, (validAll_iff _ _).1 h6⟩
  · unfold okNum at h4
    split at h4
    · simp at h4; exact h4.1
    · split at h4
      · simp at h4; exact h4.1
      · have : p.num = 0 := by simpa using h4
        omega
  · intro h20
    unfold okNum at h4
    rw [if_neg (by omega), if_pos (by omega)] at h4
    simp at h4
    exact h4.2
theorem two_of {α : Type} : ∀ (l : List α), l.length = 2 → ∃ a b, l = [a, b]
  | [a, b], _ => ⟨a, b, rfl⟩
theorem one_of {α : Type} : ∀ (l : List α), l.length = 1 → ∃ a, l = [a]
  | [a], _ => ⟨a, rfl⟩
def DefsV (defs : List Pat) : Prop := ∀ j (h : j < defs.length), valid defs[j] defs.length = true
theorem min_zero_le (x : Int) (h : x ≤ 0) (i k : Nat) (hik : i ≤ k) : min x 121 ≤ (k : Int) - i := by omega

theorem path_first {defs : List Pat} {s : ByteArray} (hd : DefsV defs) : ∀ (n : Nat) (p : Pat) (f : Int) (gs : List Goal) (i : Nat), Path defs s n (⟨0, p, f⟩ :: gs) i → valid p defs.length = true → i ≤ s.size →
    ∃ k n', n' < n ∧ i ≤ k ∧ k ≤ s.size ∧ least p ≤ (k : Int) - i ∧ firstOk (first p) s i ∧ Path defs s n' gs k := by
  intro n
  induction n using Nat.strongRecOn with | ind n ih =>
  intro p f gs i hp hv hi
  cases hp with
  | @cons n1 _ _ gs' _ i' hx hp =>
  obtain ⟨hlen, hnum, h20, hkv⟩ := valid_parts hv
  obtain ⟨op, text, num, lo, hi_, kids⟩ := p
  simp only [Pat.kids, Pat.op, Pat.num] at hlen hnum h20 hkv
  rcases nx_match hx with ⟨ho, h⟩ | ⟨ho, h⟩ | ⟨ho, rfl, rfl⟩ | ⟨ho, h, rfl⟩ | ⟨ho, rfl, rfl⟩ | ⟨ho, rfl, rfl⟩ | ⟨ho, rfl, rfl⟩ | ⟨ho, rfl, rfl⟩ | ⟨ho, rfl⟩
  · -- arb
    simp only [Pat.op] at ho
    subst ho
    have hl : least (.mk 11 text num lo hi_ kids) = 0 := by simp [least, leastNum]; omega
    have hf : firstOk (first (.mk 11 text num lo hi_ kids)) s i := .inl (by simp [first, firstNum])
    rcases h with ⟨rfl, rfl⟩ | ⟨hlt, rfl, rfl⟩
    · exact ⟨i', n1, by omega, Nat.le_refl _, hi, by rw [hl]; omega, hf, hp⟩
    · obtain ⟨k, n', h1, h2, h3, h4, h5, h6⟩ := ih n1 (by omega) _ _ _ _ hp hv (by omega)
      exact ⟨k, n', by omega, by omega, h3, by rw [hl]; omega, hf, h6⟩
  · -- arbno
    simp only [Pat.op] at ho
    subst ho
    obtain ⟨a, rfl⟩ := one_of kids (by have : (kids.length : Int) = 1 := by simpa [kidsOf] using hlen
                                       omega)
    have hl : least (.mk 13 text num lo hi_ [a]) = 0 := by simp [least, leastNum]; omega
    have hf : firstOk (first (.mk 13 text num lo hi_ [a])) s i := .inl (by simp [first, firstNum])
    rcases h with ⟨rfl, rfl⟩ | ⟨rfl, rfl⟩
    · exact ⟨i', n1, by omega, Nat.le_refl _, hi, by rw [hl]; omega, hf, hp⟩
    · cases hp with
      | @cons n2 _ _ gs2 _ i2 hx2 hp2 =>
      obtain ⟨rfl, rfl⟩ := (nx_kind hx2).2.1 rfl
      obtain ⟨k, n', h1, h2, h3, h4, h5, h6⟩ := ih n2 (by omega) _ _ _ _ hp2 (by have := hkv 0 (by simp); simpa [Pat.kid, Pat.kids] using this) hi
      cases h6 with
      | @cons n4 _ _ gs4 _ i4 hx4 hp4 =>
      obtain ⟨rfl, rfl⟩ := (nx_kind hx4).2.2 rfl
      obtain ⟨k', n'', g1, g2, g3, g4, g5, g6⟩ := ih n4 (by omega) _ _ _ _ hp4 hv h3
      exact ⟨k', n'', by omega, by omega, g3, by rw [hl]; omega, hf, g6⟩
  · -- cat
    simp only [Pat.op] at ho
    subst ho
    obtain ⟨a, b, rfl⟩ := two_of kids (by have : (kids.length : Int) = 2 := by simpa [kidsOf] using hlen
                                          omega)
    have va : valid a defs.length = true := hkv 0 (by simp)
    have vb : valid b defs.length = true := hkv 1 (by simp)
    obtain ⟨k, n', h1, h2, h3, h4, h5, h6⟩ := ih n1 (by omega) _ _ _ _ hp va hi
    obtain ⟨k', n'', g1, g2, g3, g4, g5, g6⟩ := ih n' (by omega) _ _ _ _ h6 vb h3
    simp only [Pat.kid, Pat.kids, List.getD_cons_zero, List.getD_cons_succ] at h4 h5 g4 g5
    refine ⟨k', n'', by omega, by omega, g3, ?_, ?_, g6⟩
    · simp [least, leastAll, leastNum]; omega
    · simpa [first, firstAll, firstNum] using h5
  · -- alt
    simp only [Pat.op] at ho
    subst ho
    obtain ⟨a, b, rfl⟩ := two_of kids (by have : (kids.length : Int) = 2 := by simpa [kidsOf] using hlen
                                          omega)
    have va : valid a defs.length = true := hkv 0 (by simp)
    have vb : valid b defs.length = true := hkv 1 (by simp)
    have hfab : firstOk (first a) s i' ∨ firstOk (first b) s i' → firstOk (first (.mk 15 text num lo hi_ [a, b])) s i' := fun hab => by
      by_cases ho : (first a).op_ = true ∨ (first b).op_ = true
      · left
        simp only [first, firstAll, firstNum, List.getD_cons_zero, List.getD_cons_succ]
        rcases ho with ho | ho <;> simp [ho]
      · have hoa : (first a).op_ = false := by cases e : (first a).op_ <;> simp_all
        have hob : (first b).op_ = false := by cases e : (first b).op_ <;> simp_all
        right
        have : first (.mk 15 text num lo hi_ [a, b]) = ⟨orWord (first a).lo (first b).lo, orWord (first a).hi (first b).hi, false⟩ := by
          simp [first, firstAll, firstNum, hoa, hob]
        rw [this]
        rcases hab with h | h
        · rcases h with h | h
          · rw [hoa] at h; cases h
          · exact ⟨h.1, by rw [hb_or, h.2]; rfl⟩
        · rcases h with h | h
          · rw [hob] at h; cases h
          · exact ⟨h.1, by rw [hb_or, h.2]; simp⟩
    rcases h with rfl | rfl
    · obtain ⟨k, n', h1, h2, h3, h4, h5, h6⟩ := ih n1 (by omega) _ _ _ _ hp va hi
      simp only [Pat.kid, Pat.kids, List.getD_cons_zero] at h4 h5
      exact ⟨k, n', by omega, h2, h3, by simp [least, leastAll, leastNum]; omega, hfab (.inl h5), h6⟩
    · obtain ⟨k, n', h1, h2, h3, h4, h5, h6⟩ := ih n1 (by omega) _ _ _ _ hp vb hi
      simp only [Pat.kid, Pat.kids, List.getD_cons_zero, List.getD_cons_succ] at h4 h5
      exact ⟨k, n', by omega, h2, h3, by simp [least, leastAll, leastNum]; omega, hfab (.inr h5), h6⟩
  · -- assign
    simp only [Pat.op] at ho
    subst ho
    obtain ⟨a, rfl⟩ := one_of kids (by have : (kids.length : Int) = 1 := by simpa [kidsOf] using hlen
                                       omega)
    have va : valid a defs.length = true := hkv 0 (by simp)
    obtain ⟨k, n', h1, h2, h3, h4, h5, h6⟩ := ih n1 (by omega) _ _ _ _ hp va hi
    cases h6 with
    | @cons n4 _ _ gs4 _ i4 hx4 hp4 =>
    obtain ⟨rfl, rfl⟩ := (nx_kind hx4).1 (.inl rfl)
    simp only [Pat.kid, Pat.kids, List.getD_cons_zero] at h4 h5
    exact ⟨_, n4, by omega, h2, h3, by simp [least, leastAll, leastNum]; omega, by simpa [first, firstAll, firstNum] using h5, hp4⟩
  · -- immediate
    simp only [Pat.op] at ho
    subst ho
    obtain ⟨a, rfl⟩ := one_of kids (by have : (kids.length : Int) = 1 := by simpa [kidsOf] using hlen
                                       omega)
    have va : valid a defs.length = true := hkv 0 (by simp)
    obtain ⟨k, n', h1, h2, h3, h4, h5, h6⟩ := ih n1 (by omega) _ _ _ _ hp va hi
    cases h6 with
    | @cons n4 _ _ gs4 _ i4 hx4 hp4 =>
    obtain ⟨rfl, rfl⟩ := (nx_kind hx4).1 (.inr rfl)
    simp only [Pat.kid, Pat.kids, List.getD_cons_zero] at h4 h5
    exact ⟨_, n4, by omega, h2, h3, by simp [least, leastAll, leastNum]; omega, by simpa [first, firstAll, firstNum] using h5, hp4⟩
  · -- cursor, fence
    simp only [Pat.op] at ho
    refine ⟨_, n1, by omega, Nat.le_refl _, hi, ?_, ?_, hp⟩
    · rcases ho with rfl | rfl <;> (simp [least, leastNum]; omega)
    · left
      rcases ho with rfl | rfl <;> simp [first, firstNum]
  · -- defer
    simp only [Pat.op] at ho
    subst ho
    have hj : num.toNat < defs.length := by have := h20 rfl; omega
    have hvd : valid (defs.getD num.toNat (.mk 0 ByteArray.empty 0 0 0 [])) defs.length = true := by
      rw [List.getD_eq_getElem?_getD, List.getElem?_eq_getElem hj]
      exact hd _ hj
    obtain ⟨k, n', h1, h2, h3, h4, h5, h6⟩ := ih n1 (by omega) _ _ _ _ hp hvd hi
    exact ⟨k, n', by omega, h2, h3, by simp [least, leastNum]; omega, .inl (by simp [first, firstNum]), h6⟩
  · -- simple
    simp only [Pat.op, Pat.text, Pat.num, Pat.lo, Pat.hi] at ho
    obtain ⟨h1, h2, h3, h4⟩ := one_parts (ls := leastAll kids) (fs := firstAll kids) hi hnum ho
    exact ⟨i', n1, by omega, h1, h2, by simpa only [least] using h3, by simpa only [first] using h4, hp⟩

/-! ### The two searches -/
/-- An offset that is skipped is one at which nothing is found. -/
theorem skip_none {defs : List Pat} {p : Pat} {s : ByteArray} (hd : DefsV defs) (hv : valid p defs.length = true) {at_ : Nat} (ha : at_ ≤ s.size) (ht : takeAt s (least p) (first p) at_ = false) (k : Nat) : (play defs s k 0 [⟨0, p, 0⟩] (.start at_)).found = false := by
  cases hf : (play defs s k 0 [⟨0, p, 0⟩] (.start at_)).found with
  | false => rfl
  | true =>
    rcases play_path k 0 _ _ hf with ⟨l, hl⟩ | ⟨c, hc, _⟩
    · obtain ⟨e, n', _, h2, h3, h4, h5, _⟩ := path_first hd l p 0 [] at_ hl hv ha
      have : takeAt s (least p) (first p) at_ = true := by
        unfold takeAt
        rw [Bool.and_eq_true]
        refine ⟨by simp; omega, ?_⟩
        rcases h5 with h5 | ⟨h5, h6⟩
        · rw [h5]; rfl
        · simp [h5, h6]
      rw [ht] at this
      cases this
    · simp [Mst.start] at hc
/-- What both searches have at the head of a round. -/
structure Blank (r : Res) : Prop where
  found : r.found = false
  stopped : r.stopped = false
  exhausted : r.exhausted = false
  at_ : r.at_ = 0
  caps : r.caps = []
/-- Two searches that have ended alike. -/
structure Alike (a b : Res × Int) : Prop where
  found : b.1.found = a.1.found
  stopped : b.1.stopped = a.1.stopped
  at_ : b.1.at_ = a.1.at_
  caps : b.1.caps = a.1.caps
  steps : b.1.steps ≤ a.1.steps
  fr : b.2 = a.2
theorem Alike.refl (a : Res × Int) : Alike a a := ⟨rfl, rfl, rfl, rfl, Nat.le_refl _, rfl⟩
theorem srch_alike {defs : List Pat} {p : Pat} {s : ByteArray} {fuel : Nat} {take : Nat → Bool} (hsk : ∀ at_, at_ ≤ s.size → take at_ = false → ∀ k, (play defs s k 0 [⟨0, p, 0⟩] (.start at_)).found = false ∧ (play defs s k 0 [⟨0, p, 0⟩] (.start at_)).stopped = false) :
    ∀ (k at_ : Nat) (r r' : Res), at_ + k ≤ s.size + 1 → Blank r → Blank r' → r'.steps ≤ r.steps → (srch defs p s fuel (fun _ => true) k at_ r 0).1.exhausted = false →
      Alike (srch defs p s fuel (fun _ => true) k at_ r 0) (srch defs p s fuel take k at_ r' 0) := by
  intro k
  induction k with
  | zero =>
    intro at_ r r' _ hr hr' hst _
    exact ⟨by rw [srch, srch]; rw [hr.found, hr'.found], by rw [srch, srch]; rw [hr.stopped, hr'.stopped], by rw [srch, srch]; rw [hr.at_, hr'.at_], by rw [srch, srch]; rw [hr.caps, hr'.caps], hst, rfl⟩
  | succ k ih =>
    intro at_ r r' hk hr hr' hst hex
    rw [srch] at hex ⊢
    simp only [if_true] at hex ⊢
    rw [srch]
    obtain ⟨q, hq⟩ : ∃ q, (tryAt defs p s fuel at_ r).1 = q := ⟨_, rfl⟩
    have hq2 : (tryAt defs p s fuel at_ r).2 = { q with steps := r.steps + q.steps, events := r.events ++ q.events } := by rw [← hq]; rfl
    have hqp : q = play defs s (fuel - r.steps) 0 [⟨0, p, 0⟩] (.start at_) := by rw [← hq]; rfl
    rw [hq, hq2] at hex ⊢
    have hqx : q.exhausted = false := by
      cases he : q.exhausted with
      | false => rfl
      | true => rw [if_pos (by simp [Res.ends, he])] at hex; rw [← hex]; exact he.symm
    by_cases ht : take at_ = true
    · rw [if_pos ht]
      have hq' : (tryAt defs p s fuel at_ r').1 = q := by
        show play defs s (fuel - r'.steps) 0 [⟨0, p, 0⟩] (.start at_) = q
        have := play_more defs s (fuel - r.steps) 0 [⟨0, p, 0⟩] (.start at_) ((fuel - r'.steps) - (fuel - r.steps)) (by rw [← hqp]; exact hqx)
        rw [show fuel - r.steps + ((fuel - r'.steps) - (fuel - r.steps)) = fuel - r'.steps by omega] at this
        rw [this, hqp]
      have hq2' : (tryAt defs p s fuel at_ r').2 = { q with steps := r'.steps + q.steps, events := r'.events ++ q.events } := by
        have h0 : (tryAt defs p s fuel at_ r').2 = { (tryAt defs p s fuel at_ r').1 with steps := r'.steps + (tryAt defs p s fuel at_ r').1.steps, events := r'.events ++ (tryAt defs p s fuel at_ r').1.events } := rfl
        rw [h0, hq']
      rw [hq', hq2']
      by_cases he : q.ends = true
      · rw [if_pos he, if_pos he]
        exact ⟨rfl, rfl, rfl, rfl, by show r'.steps + q.steps ≤ r.steps + q.steps; omega, rfl⟩
      · rw [if_neg he, if_neg he]
        rw [if_neg he] at hex
        have hqf : q.found = false := by cases h : q.found <;> simp_all [Res.ends]
        have hqs : q.stopped = false := by cases h : q.stopped <;> simp_all [Res.ends]
        have hbl := play_blank (defs := defs) (s := s) (fuel - r.steps) 0 [⟨0, p, 0⟩] (.start at_) (by rw [← hqp]; exact hqf)
        rw [← hqp] at hbl
        have hfr : matchFrom q at_ = 0 := by simp [matchFrom, hqf]
        rw [hfr] at hex ⊢
        exact ih (at_ + 1) _ _ (by omega) ⟨hqf, hqs, hqx, hbl.1, hbl.2⟩ ⟨hqf, hqs, hqx, hbl.1, hbl.2⟩ (by show r'.steps + q.steps ≤ r.steps + q.steps; omega) hex
    · rw [if_neg ht]
      have hn := hsk at_ (by omega) (by simpa using ht) (fuel - r.steps)
      rw [← hqp] at hn
      have he : ¬ q.ends = true := by simp [Res.ends, hn.1, hn.2, hqx]
      rw [if_neg he] at hex ⊢
      have hbl := play_blank (defs := defs) (s := s) (fuel - r.steps) 0 [⟨0, p, 0⟩] (.start at_) (by rw [← hqp]; exact hn.1)
      rw [← hqp] at hbl
      have hfr : matchFrom q at_ = 0 := by simp [matchFrom, hn.1]
      rw [hfr] at hex ⊢
      exact ih (at_ + 1) _ _ (by omega) ⟨hn.1, hn.2, hqx, hbl.1, hbl.2⟩ hr' (by show r'.steps ≤ r.steps + q.steps; omega) hex
theorem validD_parts {defs : List Pat} {p : Pat} (h : validD defs p = true) : DefsV defs ∧ valid p defs.length = true := by
  simp only [validD, validP, Bool.and_eq_true, decide_eq_true_eq, List.all_eq_true] at h
  exact ⟨fun j hj => (h.2 _ (List.getElem_mem hj)).2, h.1.2.2⟩
/-- A pruned search finds the same match with no more steps. -/
theorem pruned_alike (defs : List Pat) (p : Pat) (s : ByteArray) (fuel : Int) (hex : (searchRes defs p s fuel).1.exhausted = false) : Alike (searchRes defs p s fuel) (prunedRes defs p s fuel) := by
  unfold prunedRes
  split
  · exact Alike.refl _
  · rename_i hm
    have hm : mayStop defs p = false := by simpa using hm
    have hv := mayStop_false hm
    obtain ⟨hd, hvp⟩ := validD_parts hv
    rw [mayStop_valid hv, Bool.or_eq_false_iff] at hm
    unfold searchRes at hex ⊢
    have hs : searches defs p s fuel = inLimits s fuel := by simp [searches, inLimits, hv]
    rw [hs] at hex ⊢
    split
    · rename_i hl
      rw [if_pos hl] at hex
      refine srch_alike (fun at_ ha ht k => ⟨skip_none hd hvp ha ht k, ?_⟩) _ _ _ _ (by omega) ⟨rfl, rfl, rfl, rfl, rfl⟩ ⟨rfl, rfl, rfl, rfl, rfl⟩ (Nat.le_refl _) hex
      exact play_nostop hm.2 k 0 _ _ (fun g hg => by rw [List.mem_singleton.1 hg]; exact hm.1) (fun c hc => by simp [Mst.start] at hc)
    · exact Alike.refl _
end Go.Proofs.Ytndefbecoahfhaa
