/- What stays true from step to step of the plain machine. -/
import Derived.Test.YtndefbecoahfhaaMach
namespace Go.Proofs.Ytndefbecoahfhaa
open Go.RowKit

/-- The definitions are valid patterns. -/
structure DefsOk (defs : List Pat) : Prop where
  len : defs.length ≤ 24
  valid : ∀ j (h : j < defs.length), valid defs[j] defs.length = true
  small : Smalls defs

theorem GoalsOk.cons {n : Int} {g : Goal} {gs : List Goal} (h : GoalOk n g) (hs : GoalsOk n gs) : GoalsOk n (g :: gs) := by
  intro x hx
  rcases List.mem_cons.1 hx with rfl | hx
  · exact h
  · exact hs x hx
theorem GoalsOk.tail {n : Int} {g : Goal} {gs : List Goal} (hs : GoalsOk n (g :: gs)) : GoalsOk n gs := fun x hx => hs x (List.mem_cons_of_mem _ hx)
theorem GoalsOk.head {n : Int} {g : Goal} {gs : List Goal} (hs : GoalsOk n (g :: gs)) : GoalOk n g := hs g List.mem_cons_self

theorem Choices.more {n : Int} {s : ByteArray} {cs : List Choice} {a b : Nat} (h : Choices n s cs a) (hab : a ≤ b) : Choices n s cs b :=
  ⟨h.goals, h.sorted, fun c hc => Nat.le_trans (h.le c hc) hab⟩
theorem Choices.push {n : Int} {s : ByteArray} {cs : List Choice} {a : Nat} (h : Choices n s cs a) (c : Choice) (hc : c.ncap = a) (hg : GoalsOk n c.goals) (hat : c.at_ ≤ s.size) : Choices n s (cs ++ [c]) a := by
  refine ⟨fun x hx => ?_, ?_, fun x hx => ?_⟩
  · rcases List.mem_append.1 hx with hx | hx
    · exact h.goals x hx
    · rw [List.mem_singleton.1 hx]; exact ⟨hg, hat⟩
  · rw [List.map_append, List.pairwise_append]
    refine ⟨h.sorted, by simp, fun x hx y hy => ?_⟩
    obtain ⟨d, hd, rfl⟩ := List.mem_map.1 hx
    simp at hy
    have := h.le d hd
    omega
  · rcases List.mem_append.1 hx with hx | hx
    · exact h.le x hx
    · rw [List.mem_singleton.1 hx]; omega
theorem Choices.pop {n : Int} {s : ByteArray} {cs : List Choice} {c : Choice} {a : Nat} (h : Choices n s (cs ++ [c]) a) : Choices n s cs c.ncap ∧ c.ncap ≤ a ∧ GoalsOk n c.goals ∧ c.at_ ≤ s.size := by
  refine ⟨⟨fun x hx => h.goals x (List.mem_append_left _ hx), ?_, fun x hx => ?_⟩, h.le c (by simp), h.goals c (by simp)⟩
  · have := h.sorted
    rw [List.map_append, List.pairwise_append] at this
    exact this.1
  · have := h.sorted
    rw [List.map_append, List.pairwise_append] at this
    exact this.2.2 x.ncap (List.mem_map_of_mem hx) c.ncap (by simp)

theorem Ok.pop {defs : List Pat} {s : ByteArray} {k : Nat} {gs : List Goal} {m : Mst} {cs : List Choice} {c : Choice} (h : Ok defs s k gs m) (hc : m.choices = cs ++ [c]) :
    Ok defs s (k + 1) c.goals ⟨c.at_, m.caps.take c.ncap, m.events, cs⟩ := by
  have h1 := h.choices
  have h2 := h.nch
  rw [hc] at h1 h2
  obtain ⟨p1, p2, p3, p4⟩ := h1.pop
  simp at h2
  have h3 := h.ncap
  have h4 := h.nev
  refine ⟨p3, p4, ?_, ?_, ?_, ?_⟩
  · simpa [Nat.min_eq_left p2] using p1
  · simp; omega
  · simp; omega
  · simp; omega

theorem GoalOk.plain {n : Int} {p : Pat} (h : valid p n = true) (hs : Small p) : GoalOk n ⟨0, p, 0⟩ := ⟨h, hs, .inl ⟨rfl, rfl⟩, Int.le_refl _, by simp⟩

theorem step_ok {defs : List Pat} {s : ByteArray} {k : Nat} {g : Goal} {gs : List Goal} {m : Mst} (hd : DefsOk defs) (hs : s.size ≤ 120) (h : Ok defs s k (g :: gs) m) {gs' : List Goal} {m' : Mst} (e : step defs s g gs m = .go gs' m') :
    Ok defs s (k + 1) gs' m' := by
  obtain ⟨hg, hat, hch, hn1, hn2, hn3⟩ := h
  have hgs := hg.tail
  have hgo := hg.head
  obtain ⟨hv, hsm, hk, hf0, hf1⟩ := hgo
  have hat' : (0 : Int) ≤ m.at_ ∧ (m.at_ : Int) ≤ 120 := by omega
  have same : Ok defs s (k + 1) gs m := ⟨hgs, hat, hch, by omega, by omega, by omega⟩
  have chosen : ∀ c a, GoalsOk defs.length c → a ≤ s.size → Ok defs s (k + 1) gs (m.choose c a) := fun c a hc ha =>
    ⟨hgs, hat, hch.push ⟨false, c, a, m.caps.length⟩ rfl hc ha, by simp [Mst.choose]; omega, by simp [Mst.choose]; omega, by simp [Mst.choose]; omega⟩
  unfold step at e
  by_cases k1 : g.kind = 1
  · rw [if_pos k1] at e
    injection e with e1 e2
    subst e1 e2
    exact ⟨hgs, hat, hch.more (by simp [Mst.cap]), by simp [Mst.cap]; omega, by simp [Mst.cap]; omega, by simp [Mst.cap]; omega⟩
  rw [if_neg k1] at e
  by_cases k2 : g.kind = 2
  · rw [if_pos k2] at e
    injection e with e1 e2
    subst e1 e2
    exact ⟨hgs, hat, hch, by simp [Mst.event]; omega, by simp [Mst.event]; omega, by simp [Mst.event]; omega⟩
  rw [if_neg k2] at e
  by_cases k3 : g.kind = 3
  · have hop : g.p.op = 13 := by omega
    have hl := kids_one hv (.inl hop)
    rw [if_pos k3] at e
    injection e with e1 e2
    subst e1 e2
    refine ⟨GoalsOk.cons (GoalOk.plain (kid_valid hv (by omega)) (kid_small hsm (by omega))) (GoalsOk.cons ⟨hv, hsm, ?_, hat'.1, hat'.2⟩ hgs), hat, hch, by omega, by omega, by omega⟩
    exact .inr (.inr (.inr (.inr ⟨rfl, hop⟩)))
  rw [if_neg k3] at e
  by_cases k4 : g.kind = 4
  · rw [if_pos k4] at e
    by_cases hf : (m.at_ : Int) = g.fr
    · rw [if_pos hf] at e; cases e
    · rw [if_neg hf] at e
      injection e with e1 e2
      subst e1 e2
      exact ⟨GoalsOk.cons (GoalOk.plain hv hsm) hgs, hat, hch, by omega, by omega, by omega⟩
  rw [if_neg k4] at e
  unfold stepMatch at e
  by_cases o11 : g.p.op = 11
  · rw [if_pos o11] at e
    injection e with e1 e2
    subst e1 e2
    by_cases hlt : m.at_ < s.size
    · rw [if_pos hlt]
      exact chosen _ _ (GoalsOk.cons (GoalOk.plain hv hsm) hgs) hlt
    · rw [if_neg hlt]
      exact same
  rw [if_neg o11] at e
  by_cases o13 : g.p.op = 13
  · rw [if_pos o13] at e
    injection e with e1 e2
    subst e1 e2
    exact chosen _ _ (GoalsOk.cons ⟨hv, hsm, .inr (.inr (.inr (.inl ⟨rfl, o13⟩))), Int.le_refl _, by simp⟩ hgs) hat
  rw [if_neg o13] at e
  by_cases o14 : g.p.op = 14
  · have hl := kids_two hv (.inl o14)
    rw [if_pos o14] at e
    injection e with e1 e2
    subst e1 e2
    exact ⟨GoalsOk.cons (GoalOk.plain (kid_valid hv (by omega)) (kid_small hsm (by omega))) (GoalsOk.cons (GoalOk.plain (kid_valid hv (by omega)) (kid_small hsm (by omega))) hgs), hat, hch, by omega, by omega, by omega⟩
  rw [if_neg o14] at e
  by_cases o15 : g.p.op = 15
  · have hl := kids_two hv (.inr o15)
    rw [if_pos o15] at e
    injection e with e1 e2
    subst e1 e2
    have hc := chosen (⟨0, g.p.kid 1, 0⟩ :: gs) m.at_ (GoalsOk.cons (GoalOk.plain (kid_valid hv (by omega)) (kid_small hsm (by omega))) hgs) hat
    exact ⟨GoalsOk.cons (GoalOk.plain (kid_valid hv (by omega)) (kid_small hsm (by omega))) hgs, hc.at_, hc.choices, hc.nch, hc.ncap, hc.nev⟩
  rw [if_neg o15] at e
  by_cases o16 : g.p.op = 16
  · have hl := kids_one hv (.inr (.inl o16))
    rw [if_pos o16] at e
    injection e with e1 e2
    subst e1 e2
    exact ⟨GoalsOk.cons (GoalOk.plain (kid_valid hv (by omega)) (kid_small hsm (by omega))) (GoalsOk.cons ⟨hv, hsm, .inr (.inl ⟨rfl, o16⟩), hat'.1, hat'.2⟩ hgs), hat, hch, by omega, by omega, by omega⟩
  rw [if_neg o16] at e
  by_cases o17 : g.p.op = 17
  · have hl := kids_one hv (.inr (.inr o17))
    rw [if_pos o17] at e
    injection e with e1 e2
    subst e1 e2
    exact ⟨GoalsOk.cons (GoalOk.plain (kid_valid hv (by omega)) (kid_small hsm (by omega))) (GoalsOk.cons ⟨hv, hsm, .inr (.inr (.inl ⟨rfl, o17⟩)), hat'.1, hat'.2⟩ hgs), hat, hch, by omega, by omega, by omega⟩
  rw [if_neg o17] at e
  by_cases o18 : g.p.op = 18
  · rw [if_pos o18] at e
    injection e with e1 e2
    subst e1 e2
    exact ⟨hgs, hat, hch, by simp [Mst.event]; omega, by simp [Mst.event]; omega, by simp [Mst.event]; omega⟩
  rw [if_neg o18] at e
  by_cases o19 : g.p.op = 19
  · rw [if_pos o19] at e
    injection e with e1 e2
    subst e1 e2
    exact ⟨hgs, hat, hch.push ⟨true, [], m.at_, m.caps.length⟩ rfl (fun x hx => by cases hx) hat, by simp; omega, by simp; omega, by simp; omega⟩
  rw [if_neg o19] at e
  by_cases o20 : g.p.op = 20
  · have hn := valid_var hv (.inr (.inr (.inr o20)))
    have hlt : g.p.num.toNat < defs.length := by omega
    rw [if_pos o20] at e
    injection e with e1 e2
    subst e1 e2
    have : defs.getD g.p.num.toNat (.mk 0 ByteArray.empty 0 0 0 []) = defs[g.p.num.toNat] := by simp [List.getD, hlt]
    rw [this]
    exact ⟨GoalsOk.cons (GoalOk.plain (hd.valid _ hlt) (hd.small _ hlt)) hgs, hat, hch, by omega, by omega, by omega⟩
  rw [if_neg o20] at e
  by_cases o21 : g.p.op = 21
  · rw [if_pos o21] at e; cases e
  rw [if_neg o21] at e
  cases ho : oneEnd g.p.op g.p.text g.p.num g.p.lo g.p.hi s m.at_ with
  | none => rw [ho] at e; cases e
  | some y =>
    rw [ho] at e
    injection e with e1 e2
    subst e1 e2
    exact ⟨hgs, oneEnd_le (valid_words hv) hat ho, hch, by simp; omega, by simp; omega, by simp; omega⟩

end Go.Proofs.Ytndefbecoahfhaa
