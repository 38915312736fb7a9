/- The matcher as a plain machine. No walk in sight. -/
import Derived.Test.YtndefbecoahfhaaDefs
namespace Go.Proofs.Ytndefbecoahfhaa
open Go.RowKit

structure Cap where
  var : Int
  fr : Int
  to : Int
structure Goal where
  kind : Nat
  p : Pat
  fr : Int
structure Choice where
  stop : Bool
  goals : List Goal
  at_ : Nat
  ncap : Nat
/-- What a match has in hand, besides its goals. -/
structure Mst where
  at_ : Nat
  caps : List Cap
  events : List Cap
  choices : List Choice

inductive Out where
  | go (gs : List Goal) (m : Mst)
  | fail
  | stop

/-- A kid, of a pattern that has it. -/
def Pat.kid (p : Pat) (i : Nat) : Pat := p.kids.getD i (.mk 0 ByteArray.empty 0 0 0 [])
def Mst.choose (m : Mst) (c : List Goal) (at_ : Nat) : Mst := { m with choices := m.choices ++ [⟨false, c, at_, m.caps.length⟩] }
def Mst.event (m : Mst) (c : Cap) : Mst := { m with events := m.events ++ [c] }
def Mst.cap (m : Mst) (c : Cap) : Mst := { m with caps := m.caps ++ [c] }

/-- One goal to match a pattern. -/
def stepMatch (defs : List Pat) (s : ByteArray) (p : Pat) (gs : List Goal) (m : Mst) : Out :=
  if p.op = 11 then .go gs (if m.at_ < s.size then m.choose (⟨0, p, 0⟩ :: gs) (m.at_ + 1) else m)
  else if p.op = 13 then .go gs (m.choose (⟨3, p, 0⟩ :: gs) m.at_)
  else if p.op = 14 then .go (⟨0, p.kid 0, 0⟩ :: ⟨0, p.kid 1, 0⟩ :: gs) m
  else if p.op = 15 then .go (⟨0, p.kid 0, 0⟩ :: gs) (m.choose (⟨0, p.kid 1, 0⟩ :: gs) m.at_)
  else if p.op = 16 then .go (⟨0, p.kid 0, 0⟩ :: ⟨1, p, m.at_⟩ :: gs) m
  else if p.op = 17 then .go (⟨0, p.kid 0, 0⟩ :: ⟨2, p, m.at_⟩ :: gs) m
  else if p.op = 18 then .go gs (m.event ⟨p.num, m.at_, -1⟩)
  else if p.op = 19 then .go gs { m with choices := m.choices ++ [⟨true, [], m.at_, m.caps.length⟩] }
  else if p.op = 20 then .go (⟨0, defs.getD p.num.toNat (.mk 0 ByteArray.empty 0 0 0 []), 0⟩ :: gs) m
  else if p.op = 21 then .stop
  else match oneEnd p.op p.text p.num p.lo p.hi s m.at_ with
    | some e => .go gs { m with at_ := e }
    | none => .fail

/-- One goal. -/
def step (defs : List Pat) (s : ByteArray) (g : Goal) (gs : List Goal) (m : Mst) : Out :=
  if g.kind = 1 then .go gs (m.cap ⟨g.p.num, g.fr, m.at_⟩)
  else if g.kind = 2 then .go gs (m.event ⟨g.p.num, g.fr, m.at_⟩)
  else if g.kind = 3 then .go (⟨0, g.p.kid 0, 0⟩ :: ⟨4, g.p, m.at_⟩ :: gs) m
  else if g.kind = 4 then (if (m.at_ : Int) = g.fr then .fail else .go (⟨0, g.p, 0⟩ :: gs) m)
  else stepMatch defs s g.p gs m

structure Res where
  found : Bool
  stopped : Bool
  exhausted : Bool
  at_ : Nat
  steps : Nat
  caps : List Cap
  events : List Cap

/-- k: what is left of the fuel; n: the steps that were made. -/
def play (defs : List Pat) (s : ByteArray) : Nat → Nat → List Goal → Mst → Res
  | _, n, [], m => ⟨true, false, false, m.at_, n, m.caps, m.events⟩
  | 0, n, _ :: _, m => ⟨false, false, true, 0, n, [], m.events⟩
  | k + 1, n, g :: gs, m =>
    match step defs s g gs m with
    | .go gs' m' => play defs s k (n + 1) gs' m'
    | .stop => ⟨false, true, false, 0, n + 1, [], m.events⟩
    | .fail =>
      match m.choices.getLast? with
      | none => ⟨false, false, false, 0, n + 1, [], m.events⟩
      | some c => if c.stop then ⟨false, true, false, 0, n + 1, [], m.events⟩ else play defs s k (n + 1) c.goals ⟨c.at_, m.caps.take c.ncap, m.events, m.choices.dropLast⟩

theorem play_nil (defs : List Pat) (s : ByteArray) (k n : Nat) (m : Mst) : play defs s k n [] m = ⟨true, false, false, m.at_, n, m.caps, m.events⟩ := by rw [play.eq_def]
theorem play_zero (defs : List Pat) (s : ByteArray) (n : Nat) (g : Goal) (gs : List Goal) (m : Mst) : play defs s 0 n (g :: gs) m = ⟨false, false, true, 0, n, [], m.events⟩ := by rw [play.eq_def]
theorem play_go {defs : List Pat} {s : ByteArray} {g : Goal} {gs gs' : List Goal} {m m' : Mst} (h : step defs s g gs m = .go gs' m') (k n : Nat) : play defs s (k + 1) n (g :: gs) m = play defs s k (n + 1) gs' m' := by
  rw [play.eq_def]; dsimp only; rw [h]
theorem play_stop {defs : List Pat} {s : ByteArray} {g : Goal} {gs : List Goal} {m : Mst} (h : step defs s g gs m = .stop) (k n : Nat) : play defs s (k + 1) n (g :: gs) m = ⟨false, true, false, 0, n + 1, [], m.events⟩ := by
  rw [play.eq_def]; dsimp only; rw [h]
theorem play_none {defs : List Pat} {s : ByteArray} {g : Goal} {gs : List Goal} {m : Mst} (h : step defs s g gs m = .fail) (hc : m.choices = []) (k n : Nat) : play defs s (k + 1) n (g :: gs) m = ⟨false, false, false, 0, n + 1, [], m.events⟩ := by
  rw [play.eq_def]; dsimp only; rw [h, hc]; rfl
theorem play_last {defs : List Pat} {s : ByteArray} {g : Goal} {gs : List Goal} {m : Mst} {cs : List Choice} {c : Choice} (h : step defs s g gs m = .fail) (hc : m.choices = cs ++ [c]) (k n : Nat) :
    play defs s (k + 1) n (g :: gs) m = if c.stop then ⟨false, true, false, 0, n + 1, [], m.events⟩ else play defs s k (n + 1) c.goals ⟨c.at_, m.caps.take c.ncap, m.events, cs⟩ := by
  rw [play.eq_def]; dsimp only; rw [h, hc]; simp

/-- More fuel changes nothing of a match that has come to its end. -/
theorem play_more (defs : List Pat) (s : ByteArray) : ∀ (k n : Nat) (gs : List Goal) (m : Mst) (j : Nat), (play defs s k n gs m).exhausted = false → play defs s (k + j) n gs m = play defs s k n gs m
  | k, n, [], m, j, _ => by rw [play_nil, play_nil]
  | 0, n, g :: gs, m, j, h => by rw [play_zero] at h; cases h
  | k + 1, n, g :: gs, m, j, h => by
    rw [show k + 1 + j = (k + j) + 1 by omega]
    cases hs : step defs s g gs m with
    | go gs' m' =>
      rw [play_go hs] at h ⊢
      rw [play_go hs]
      exact play_more defs s k (n + 1) gs' m' j h
    | stop => rw [play_stop hs, play_stop hs]
    | fail =>
      rcases List.eq_nil_or_concat m.choices with hc | ⟨cs, c, hc⟩
      · rw [play_none hs hc, play_none hs hc]
      · rw [List.concat_eq_append] at hc
        rw [play_last hs hc] at h ⊢
        rw [play_last hs hc]
        by_cases hst : c.stop = true
        · rw [if_pos hst, if_pos hst]
        · rw [if_neg hst] at h
          rw [if_neg hst, if_neg hst]
          exact play_more defs s k (n + 1) _ _ j h

/-! ### What stays true -/
/-- A goal is of one of the five kinds, and its pattern is a valid one. -/
structure GoalOk (n : Int) (g : Goal) : Prop where
  val : valid g.p n = true
  small : Small g.p
  kind : (g.kind = 0 ∧ g.fr = 0) ∨ (g.kind = 1 ∧ g.p.op = 16) ∨ (g.kind = 2 ∧ g.p.op = 17) ∨ (g.kind = 3 ∧ g.p.op = 13) ∨ (g.kind = 4 ∧ g.p.op = 13)
  fr0 : 0 ≤ g.fr
  fr1 : g.fr ≤ 120
def GoalsOk (n : Int) (gs : List Goal) : Prop := ∀ g ∈ gs, GoalOk n g
structure Choices (n : Int) (s : ByteArray) (cs : List Choice) (len : Nat) : Prop where
  goals : ∀ c ∈ cs, GoalsOk n c.goals ∧ c.at_ ≤ s.size
  sorted : (cs.map (·.ncap)).Pairwise (· ≤ ·)
  le : ∀ c ∈ cs, c.ncap ≤ len
/-- The state between two steps, k steps in. -/
structure Ok (defs : List Pat) (s : ByteArray) (k : Nat) (gs : List Goal) (m : Mst) : Prop where
  goals : GoalsOk defs.length gs
  at_ : m.at_ ≤ s.size
  choices : Choices defs.length s m.choices m.caps.length
  nch : m.choices.length ≤ k
  ncap : m.caps.length ≤ k
  nev : m.events.length ≤ k


theorem valid_head {p : Pat} {n : Int} (h : valid p n = true) : okHead p n = true := by rw [valid_eq, Bool.and_eq_true] at h; exact h.1
theorem valid_kids {p : Pat} {n : Int} (h : valid p n = true) : (1 ≤ p.op ∧ p.op ≤ 23) ∧ (p.kids.length : Int) = kidsOf p.op := by
  have h := valid_head h
  simp only [okHead, Bool.and_eq_true, decide_eq_true_eq] at h
  exact ⟨h.1.1.1.1, h.1.1.1.2⟩
theorem valid_text {p : Pat} {n : Int} (h : valid p n = true) : okText p = true := by
  have h := valid_head h
  simp only [okHead, Bool.and_eq_true] at h
  exact h.1.1.2
theorem valid_num {p : Pat} {n : Int} (h : valid p n = true) : okNum p n = true := by
  have h := valid_head h
  simp only [okHead, Bool.and_eq_true] at h
  exact h.1.2
theorem valid_words {p : Pat} {n : Int} (h : valid p n = true) : okWords p.op p.text p.num := by
  have ht := valid_text h
  have hn := valid_num h
  unfold okText at ht
  unfold okNum at hn
  refine ⟨?_, fun h1 h2 => ?_⟩
  · by_cases h1 : p.op = 1
    · rw [if_pos h1] at ht; exact of_decide_eq_true ht
    · rw [if_neg h1] at ht
      have := size_of_empty (List.isEmpty_iff.1 ht)
      omega
  · rw [if_pos ⟨h1, h2⟩, Bool.and_eq_true] at hn
    exact ⟨of_decide_eq_true hn.1, of_decide_eq_true hn.2⟩
theorem valid_var {p : Pat} {n : Int} (h : valid p n = true) (ho : p.op = 16 ∨ p.op = 17 ∨ p.op = 18 ∨ p.op = 20) : 0 ≤ p.num ∧ p.num < n := by
  have hn := valid_num h
  unfold okNum at hn
  rw [if_neg (by omega), if_pos ho, Bool.and_eq_true] at hn
  exact ⟨of_decide_eq_true hn.1, of_decide_eq_true hn.2⟩
theorem kid_eq {p : Pat} {i : Nat} (h : i < p.kids.length) : p.kid i = p.kids[i] := by simp [Pat.kid, List.getD, h]
theorem kid_valid {p : Pat} {n : Int} {i : Nat} (h : valid p n = true) (hi : i < p.kids.length) : valid (p.kid i) n = true := by
  rw [valid_eq, Bool.and_eq_true] at h
  rw [kid_eq hi]
  exact (validAll_iff _ _).1 h.2 i hi
theorem kid_small {p : Pat} {i : Nat} (h : Small p) (hi : i < p.kids.length) : Small (p.kid i) := by
  rw [kid_eq hi]
  have := count_kid_lt p i hi
  unfold Small at h ⊢
  omega
theorem kids_two {p : Pat} {n : Int} (h : valid p n = true) (ho : p.op = 14 ∨ p.op = 15) : p.kids.length = 2 := by
  have := (valid_kids h).2
  unfold kidsOf at this
  rw [if_neg (by omega), if_pos ho] at this
  omega
theorem kids_one {p : Pat} {n : Int} (h : valid p n = true) (ho : p.op = 13 ∨ p.op = 16 ∨ p.op = 17) : p.kids.length = 1 := by
  have := (valid_kids h).2
  unfold kidsOf at this
  rw [if_pos ho] at this
  omega
theorem oneEnd_le {op : Int} {text : ByteArray} {num lo hi : Int} {s : ByteArray} {p e : Nat} (hok : okWords op text num) (hp : p ≤ s.size) (h : oneEnd op text num lo hi s p = some e) : e ≤ s.size := by
  have hr1 := run_le (lo := lo) (hi := hi) (yes := true) (s := s) (p := p)
  unfold oneEnd at h
  have hn := hok.2
  by_cases o1 : op = 1
  · rw [if_pos o1] at h
    by_cases c : p + text.size ≤ s.size ∧ s.extract p (p + text.size) = text
    · rw [if_pos c] at h; have h := Option.some.inj h; have := c.1; omega
    · rw [if_neg c] at h; cases h
  rw [if_neg o1] at h
  by_cases o2 : op = 2
  · rw [if_pos o2] at h
    by_cases c : (p : Int) + num ≤ s.size
    · rw [if_pos c] at h; have h := Option.some.inj h; have := hn (by omega) (by omega); omega
    · rw [if_neg c] at h; cases h
  rw [if_neg o2] at h
  by_cases o3 : op = 3
  · rw [if_pos o3] at h
    by_cases c : num = (p : Int)
    · rw [if_pos c] at h; have h := Option.some.inj h; omega
    · rw [if_neg c] at h; cases h
  rw [if_neg o3] at h
  by_cases o4 : op = 4
  · rw [if_pos o4] at h
    by_cases c : num = (s.size : Int) - p
    · rw [if_pos c] at h; have h := Option.some.inj h; omega
    · rw [if_neg c] at h; cases h
  rw [if_neg o4] at h
  by_cases o5 : op = 5
  · rw [if_pos o5] at h
    by_cases c : (p : Int) ≤ num ∧ num ≤ s.size
    · rw [if_pos c] at h; have h := Option.some.inj h; have := c.1; omega
    · rw [if_neg c] at h; cases h
  rw [if_neg o5] at h
  by_cases o6 : op = 6
  · rw [if_pos o6] at h
    by_cases c : (p : Int) ≤ (s.size : Int) - num
    · rw [if_pos c] at h; have h := Option.some.inj h; omega
    · rw [if_neg c] at h; cases h
  rw [if_neg o6] at h
  by_cases o7 : op = 7
  · rw [if_pos o7] at h
    by_cases c : p < s.size ∧ hb lo hi (byteAt s p) = true
    · rw [if_pos c] at h; have h := Option.some.inj h; have := c.1; omega
    · rw [if_neg c] at h; cases h
  rw [if_neg o7] at h
  by_cases o8 : op = 8
  · rw [if_pos o8] at h
    by_cases c : p < s.size ∧ hb lo hi (byteAt s p) = false
    · rw [if_pos c] at h; have h := Option.some.inj h; have := c.1; omega
    · rw [if_neg c] at h; cases h
  rw [if_neg o8] at h
  by_cases o9 : op = 9
  · rw [if_pos o9] at h
    by_cases c : 0 < runOf lo hi true (s.data.toList.drop p)
    · rw [if_pos c] at h; have h := Option.some.inj h; omega
    · rw [if_neg c] at h; cases h
  rw [if_neg o9] at h
  by_cases o10 : op = 10
  · rw [if_pos o10] at h
    by_cases c : p + runOf lo hi false (s.data.toList.drop p) < s.size
    · rw [if_pos c] at h; have h := Option.some.inj h; omega
    · rw [if_neg c] at h; cases h
  rw [if_neg o10] at h
  by_cases o12 : op = 12
  · rw [if_pos o12] at h; have h := Option.some.inj h; omega
  rw [if_neg o12] at h
  by_cases o22 : op = 22
  · rw [if_pos o22] at h; have h := Option.some.inj h; omega
  rw [if_neg o22] at h
  cases h

end Go.Proofs.Ytndefbecoahfhaa
