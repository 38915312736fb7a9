/- How impl's matcher changes in memory. No walk in sight. -/
import Derived.Test.YtndefbecoahfhaaImplMem
namespace Go.Proofs.Ytndefbecoahfhaa
open Go.RowKit

section
variable {w0 w : World} {M : Nat} {dv : Value} {s : ByteArray} {n : Nat} {m : Mst} {cv ev hv : Value} {hs : List Value}

theorem ne_of_type {w : World} {a b : Nat} {c d : Array Value} {T T' : TypeId} (ha : w.heap[a]? = some (.cells c T (0, 0))) (hb : w.heap[b]? = some (.cells d T' (0, 0))) (h : T ≠ T') : a ≠ b := fun e => by
  subst e
  rw [ha] at hb
  cases hb
  exact h rfl

/-- A write into the matcher's own block. -/
theorem ImplAt.set {cur : Array Value} {k : Nat} {u : Value} (hb : w.heap[M]? = some (.cells cur TM (0, 0))) (he : cur.setIfInBounds k u = mCells dv s m.at_ n cv ev hv) (base : w0.heap.size ≤ M)
    (caps : HasRow w w0.heap.size TK 3 cv m.caps.length (capCells m.caps)) (evs : HasRow w w0.heap.size TK 3 ev m.events.length (capCells m.events)) (chs : HasRow w w0.heap.size TC 4 hv m.choices.length hs)
    (are : ChoicesAre w0 w m.choices hs) (apart : cv.ownBlock = none ∨ cv.ownBlock ≠ ev.ownBlock) (below : Below w0.heap.size w0 w) : ImplAt w0 (w.setCell ⟨M, k, none⟩ u) M dv s n m cv ev hv hs := by
  have other : ∀ {e : TypeId} {size : Nat} {v : Value} {l : Nat} {xs : List Value}, HasRow w w0.heap.size e size v l xs → e ≠ TM → HasRow (w.setCell ⟨M, k, none⟩ u) w0.heap.size e size v l xs := fun h hne =>
    h.same fun b hbk => by
      obtain ⟨_, _, c, hc⟩ := h.lt b hbk
      exact Below.heap_setCell _ _ _ _ (ne_of_type hc hb hne)
  exact ⟨by rw [heap_set_own hb, he], base, other caps (by decide), other evs (by decide), other chs (by decide), are.keep (KeepT.set hb (by decide) u) _ _, apart, below.setCell base u⟩

/-- What an append to the events leaves. -/
theorem ImplAt.grownE (h : ImplAt w0 w M dv s n m cv ev hv hs) {w' : World} (hg : w.grownBy w' ev.ownBlock) :
    w'.heap[M]? = some (.cells (mCells dv s m.at_ n cv ev hv) TM (0, 0)) ∧ HasRow w' w0.heap.size TK 3 cv m.caps.length (capCells m.caps) ∧ HasRow w' w0.heap.size TC 4 hv m.choices.length hs ∧ ChoicesAre w0 w' m.choices hs ∧ KeepT TG w w' ∧ Below w0.heap.size w0 w' := by
  obtain ⟨h1, h2, h3, h4, h5, h6, h7, h8⟩ := h
  have hk : KeepT TG w w' := KeepT.grown hg (fun k hk => (h4.lt k hk).2.2) (by decide)
  refine ⟨?_, ?_, ?_, h6.keep hk _ _, hk, h8.grown hg h8.size (fun k hk => (h4.lt k hk).1)⟩
  · rw [hg.block M (Array.getElem?_eq_some_iff.1 h1).1 (fun e => by obtain ⟨_, _, c, hc⟩ := h4.lt M e.symm; exact ne_of_type hc h1 (by decide) rfl)]
    exact h1
  · exact h3.same fun b hb => hg.block b (h3.lt b hb).2.1 (fun e => by
      rcases h7 with h7 | h7
      · rw [h7] at hb; cases hb
      · exact h7 (hb.trans e))
  · exact h5.same fun b hb => hg.block b (h5.lt b hb).2.1 (fun e => by
      obtain ⟨_, _, c, hc⟩ := h4.lt b e.symm
      obtain ⟨_, _, d, hd⟩ := h5.lt b hb
      exact ne_of_type hc hd (by decide) rfl)

/-- What an append to the captures leaves. -/
theorem ImplAt.grownC (h : ImplAt w0 w M dv s n m cv ev hv hs) {w' : World} (hg : w.grownBy w' cv.ownBlock) :
    w'.heap[M]? = some (.cells (mCells dv s m.at_ n cv ev hv) TM (0, 0)) ∧ HasRow w' w0.heap.size TK 3 ev m.events.length (capCells m.events) ∧ HasRow w' w0.heap.size TC 4 hv m.choices.length hs ∧ ChoicesAre w0 w' m.choices hs ∧ KeepT TG w w' ∧ Below w0.heap.size w0 w' := by
  obtain ⟨h1, h2, h3, h4, h5, h6, h7, h8⟩ := h
  have hk : KeepT TG w w' := KeepT.grown hg (fun k hk => (h3.lt k hk).2.2) (by decide)
  refine ⟨?_, ?_, ?_, h6.keep hk _ _, hk, h8.grown hg h8.size (fun k hk => (h3.lt k hk).1)⟩
  · rw [hg.block M (Array.getElem?_eq_some_iff.1 h1).1 (fun e => by obtain ⟨_, _, c, hc⟩ := h3.lt M e.symm; exact ne_of_type hc h1 (by decide) rfl)]
    exact h1
  · exact h4.same fun b hb => hg.block b (h4.lt b hb).2.1 (fun e => by
      rcases h7 with h7 | h7
      · rw [h7] at e; cases e
      · exact h7 (e.symm.trans hb.symm))
  · exact h5.same fun b hb => hg.block b (h5.lt b hb).2.1 (fun e => by
      obtain ⟨_, _, c, hc⟩ := h3.lt b e.symm
      obtain ⟨_, _, d, hd⟩ := h5.lt b hb
      exact ne_of_type hc hd (by decide) rfl)

/-- What an append to the choices leaves. -/
theorem ImplAt.grownH (h : ImplAt w0 w M dv s n m cv ev hv hs) {w' : World} (hg : w.grownBy w' hv.ownBlock) :
    w'.heap[M]? = some (.cells (mCells dv s m.at_ n cv ev hv) TM (0, 0)) ∧ HasRow w' w0.heap.size TK 3 cv m.caps.length (capCells m.caps) ∧ HasRow w' w0.heap.size TK 3 ev m.events.length (capCells m.events) ∧ ChoicesAre w0 w' m.choices hs ∧ KeepT TG w w' ∧ Below w0.heap.size w0 w' := by
  obtain ⟨h1, h2, h3, h4, h5, h6, h7, h8⟩ := h
  have hk : KeepT TG w w' := KeepT.grown hg (fun k hk => (h5.lt k hk).2.2) (by decide)
  refine ⟨?_, ?_, ?_, h6.keep hk _ _, hk, h8.grown hg h8.size (fun k hk => (h5.lt k hk).1)⟩
  · rw [hg.block M (Array.getElem?_eq_some_iff.1 h1).1 (fun e => by obtain ⟨_, _, c, hc⟩ := h5.lt M e.symm; exact ne_of_type hc h1 (by decide) rfl)]
    exact h1
  · exact h3.same fun b hb => hg.block b (h3.lt b hb).2.1 (fun e => by
      obtain ⟨_, _, c, hc⟩ := h5.lt b e.symm
      obtain ⟨_, _, d, hd⟩ := h3.lt b hb
      exact ne_of_type hc hd (by decide) rfl)
  · exact h4.same fun b hb => hg.block b (h4.lt b hb).2.1 (fun e => by
      obtain ⟨_, _, c, hc⟩ := h5.lt b e.symm
      obtain ⟨_, _, d, hd⟩ := h4.lt b hb
      exact ne_of_type hc hd (by decide) rfl)

end
end Go.Proofs.Ytndefbecoahfhaa
