/- How spec's matcher lies in memory, and how it changes. No walk in sight. -/
import Derived.Test.YtndefbecoahfhaaMPBase
import Derived.Test.YtndefbecoahfhaaRegion3
namespace Go.Proofs.Ytndefbecoahfhaa
open Go.RowKit

abbrev TS : TypeId := 114
abbrev TQ : TypeId := 118
abbrev TD : TypeId := 121

/-- One of spec's goals. -/
structure SG where
  kind : Nat
  p : Pat
  kv : Value
  next : Int
  fr : Int
abbrev SG.cells (g : SG) : List Value := [.int .i64 g.kind, .int .i64 g.p.op, .string g.p.text, .int .i64 g.p.num, .int .i64 g.p.lo, .int .i64 g.p.hi, g.kv, .int .i64 g.next, .int .i64 g.fr]
def sgCells : List SG → List Value
  | [] => []
  | g :: gl => g.cells ++ sgCells gl
theorem sgCells_append : ∀ (a b : List SG), sgCells (a ++ b) = sgCells a ++ sgCells b
  | [], b => rfl
  | g :: a, b => by simp only [List.cons_append, sgCells, sgCells_append a b, List.append_assoc]
theorem sgCells_len : ∀ (a : List SG), (sgCells a).length = a.length * 9
  | [] => rfl
  | g :: a => by simp only [sgCells, List.length_append, sgCells_len a, List.length_cons, List.length_nil]; omega
theorem sgCells_at : ∀ (a : List SG) (i : Nat) (g : SG), a[i]? = some g → ∀ j u, g.cells[j]? = some u → (sgCells a)[i * 9 + j]? = some u
  | [], i, g, h, j, u, _ => by simp at h
  | x :: a, 0, g, h, j, u, hu => by
    simp at h
    subst h
    have hj : j < x.cells.length := (List.getElem?_eq_some_iff.1 hu).1
    simp only [sgCells]
    rw [List.getElem?_append_left (by omega)]
    simpa using hu
  | x :: a, i + 1, g, h, j, u, hu => by
    simp only [sgCells]
    have hl : x.cells.length = 9 := rfl
    rw [List.getElem?_append_right (by omega), hl, show (i + 1) * 9 + j - 9 = i * 9 + j by omega]
    exact sgCells_at a i g (by simpa using h) j u hu

/-- The goals that a number stands for. -/
def Chain (gl : List SG) : Int → List Goal → Prop
  | i, [] => i = -1
  | i, g :: gs => ∃ (j : Nat) (x : SG), i = (j : Int) ∧ gl[j]? = some x ∧ x.kind = g.kind ∧ x.p = g.p ∧ x.fr = g.fr ∧ Chain gl x.next gs
theorem Chain.more {gl : List SG} (x : List SG) : ∀ (gs : List Goal) (i : Int), Chain gl i gs → Chain (gl ++ x) i gs
  | [], _, h => h
  | g :: gs, _, h => by
    simp only [Chain] at h ⊢
    obtain ⟨j, y, e, hj, h1, h2, h3, h4⟩ := h
    have hlt : j < gl.length := (List.getElem?_eq_some_iff.1 hj).1
    exact ⟨j, y, e, by rw [List.getElem?_append_left hlt]; exact hj, h1, h2, h3, Chain.more x gs _ h4⟩
theorem Chain.push {gl : List SG} {gs : List Goal} (x : SG) (g : Goal) (h : Chain gl x.next gs) (h1 : x.kind = g.kind) (h2 : x.p = g.p) (h3 : x.fr = g.fr) : Chain (gl ++ [x]) (gl.length : Int) (g :: gs) :=
  ⟨gl.length, x, rfl, by simp, h1, h2, h3, h.more [x] gs _⟩

theorem Chain.push2 {gl : List SG} {gs : List Goal} (x y : SG) (g g' : Goal) (h : Chain gl x.next gs) (h1 : x.kind = g.kind) (h2 : x.p = g.p) (h3 : x.fr = g.fr) (hn : y.next = (gl.length : Int)) (k1 : y.kind = g'.kind) (k2 : y.p = g'.p) (k3 : y.fr = g'.fr) :
    Chain (gl ++ [x] ++ [y]) ((gl.length : Int) + 1) (g' :: g :: gs) := by
  rw [show ((gl.length : Int) + 1) = ((gl ++ [x]).length : Int) by simp]
  exact Chain.push y g' (by rw [hn]; exact Chain.push x g h h1 h2 h3) k1 k2 k3
/-- A choice's three cells. -/
def SChoiceIs (gl : List SG) (c : Choice) (vs : List Value) : Prop :=
  ∃ i : Int, vs = [.int .i64 i, .int .i64 c.at_, .int .i64 c.ncap] ∧ ((c.stop = true ∧ i = -2) ∨ (c.stop = false ∧ Chain gl i c.goals))
def SChoicesAre (gl : List SG) : List Choice → List Value → Prop
  | [], vs => vs = []
  | c :: cs, vs => ∃ a b, vs = a ++ b ∧ SChoiceIs gl c a ∧ SChoicesAre gl cs b
theorem SChoiceIs.more {gl : List SG} (x : List SG) {c : Choice} {vs : List Value} (h : SChoiceIs gl c vs) : SChoiceIs (gl ++ x) c vs := by
  obtain ⟨i, e, h⟩ := h
  refine ⟨i, e, ?_⟩
  rcases h with h | ⟨h1, h2⟩
  · exact .inl h
  · exact .inr ⟨h1, h2.more x⟩
theorem SChoicesAre.more {gl : List SG} (x : List SG) : ∀ (cs : List Choice) (vs : List Value), SChoicesAre gl cs vs → SChoicesAre (gl ++ x) cs vs
  | [], _, h => h
  | _ :: cs, _, h => by
    simp only [SChoicesAre] at h ⊢
    obtain ⟨a, b, e, h1, h2⟩ := h
    exact ⟨a, b, e, h1.more x, SChoicesAre.more x cs b h2⟩
theorem SChoiceIs.len {gl : List SG} {c : Choice} {vs : List Value} (h : SChoiceIs gl c vs) : vs.length = 3 := by
  obtain ⟨i, rfl, _⟩ := h; rfl
theorem SChoicesAre.len {gl : List SG} : ∀ (cs : List Choice) (vs : List Value), SChoicesAre gl cs vs → vs.length = cs.length * 3
  | [], _, h => by simp only [SChoicesAre] at h; subst h; rfl
  | c :: cs, _, h => by
    simp only [SChoicesAre] at h
    obtain ⟨a, b, rfl, h1, h2⟩ := h
    rw [List.length_append, h1.len, SChoicesAre.len cs b h2, List.length_cons]
    omega
theorem SChoicesAre.push {gl : List SG} {c : Choice} {vc : List Value} (hc : SChoiceIs gl c vc) : ∀ (cs : List Choice) (vs : List Value), SChoicesAre gl cs vs → SChoicesAre gl (cs ++ [c]) (vs ++ vc)
  | [], _, h => by
    simp only [SChoicesAre] at h
    subst h
    exact ⟨vc, [], by simp, hc, rfl⟩
  | _ :: cs, _, h => by
    simp only [SChoicesAre, List.cons_append] at h ⊢
    obtain ⟨a, b, rfl, h1, h2⟩ := h
    exact ⟨a, b ++ vc, by simp, h1, SChoicesAre.push hc cs b h2⟩
theorem SChoicesAre.pop {gl : List SG} {c : Choice} : ∀ (cs : List Choice) (vs : List Value), SChoicesAre gl (cs ++ [c]) vs → ∃ a b, vs = a ++ b ∧ SChoicesAre gl cs a ∧ SChoiceIs gl c b
  | [], vs, h => by
    simp only [List.nil_append, SChoicesAre] at h
    obtain ⟨a, b, rfl, h1, rfl⟩ := h
    exact ⟨[], a, by simp, rfl, h1⟩
  | d :: cs, vs, h => by
    simp only [List.cons_append, SChoicesAre] at h
    obtain ⟨a, b, rfl, h1, h2⟩ := h
    obtain ⟨a', b', rfl, h3, h4⟩ := SChoicesAre.pop cs b h2
    exact ⟨a ++ a', b', by simp, ⟨a, a', rfl, h1, h3⟩, h4⟩

/-- A block of another's, apart from the matcher's own. -/
structure Foreign (w : World) (x : Nat × Obj) (M : Nat) (gv hv cv ev : Value) : Prop where
  blk : w.heap[x.1]? = some x.2
  m : x.1 ≠ M
  g : gv.ownBlock ≠ some x.1
  h : hv.ownBlock ≠ some x.1
  c : cv.ownBlock ≠ some x.1
  e : ev.ownBlock ≠ some x.1

abbrev sCells (gv hv : Value) (gi ai : Int) (cv ev : Value) : Array Value := #[gv, hv, .int .i64 gi, .int .i64 ai, cv, ev]
/-- Spec's matcher at block M. -/
structure SpecAt (w0 w : World) (F : List (Nat × Obj)) (M : Nat) (m : Mst) (gl : List SG) (gi ai : Int) (gv hv cv ev : Value) (hs : List Value) : Prop where
  blk : w.heap[M]? = some (.cells (sCells gv hv gi ai cv ev) TS (0, 0))
  base : w0.heap.size ≤ M
  goals : HasRow w w0.heap.size TQ 9 gv gl.length (sgCells gl)
  kids : ∀ g ∈ gl, KidsIn w0 g.p g.kv
  chs : HasRow w w0.heap.size TD 3 hv m.choices.length hs
  are : SChoicesAre gl m.choices hs
  caps : HasRow w w0.heap.size TK 3 cv m.caps.length (capCells m.caps)
  evs : HasRow w w0.heap.size TK 3 ev m.events.length (capCells m.events)
  apart : cv.ownBlock = none ∨ cv.ownBlock ≠ ev.ownBlock
  foreign : ∀ x ∈ F, Foreign w x M gv hv cv ev
  below : Below w0.heap.size w0 w

section
variable {w0 w : World} {F : List (Nat × Obj)} {M : Nat} {m : Mst} {gl : List SG} {gi ai : Int} {gv hv cv ev : Value} {hs : List Value}

theorem SpecAt.later (h : SpecAt w0 w F M m gl gi ai gv hv cv ev hs) {x : World} (hl : Later w x) : SpecAt w0 x F M m gl gi ai gv hv cv ev hs :=
  ⟨hl.has h.blk, h.base, h.goals.same fun k hk => hl.block k (h.goals.lt k hk).2.1, h.kids, h.chs.same fun k hk => hl.block k (h.chs.lt k hk).2.1, h.are,
    h.caps.same fun k hk => hl.block k (h.caps.lt k hk).2.1, h.evs.same fun k hk => hl.block k (h.evs.lt k hk).2.1, h.apart,
    fun y hy => ⟨hl.has (h.foreign y hy).blk, (h.foreign y hy).m, (h.foreign y hy).g, (h.foreign y hy).h, (h.foreign y hy).c, (h.foreign y hy).e⟩, h.below.trans (Below.mono hl h.below.size)⟩

/-- A block made now is another's. -/
theorem SpecAt.make (h : SpecAt w0 w F M m gl gi ai gv hv cv ev hs) {x : World} (hl : Later w x) {b : Nat} {o : Obj} (hb : x.heap[b]? = some o) (hlt : w.heap.size ≤ b) : SpecAt w0 x ((b, o) :: F) M m gl gi ai gv hv cv ev hs := by
  have h' := h.later hl
  have hM := has_lt h.blk
  refine ⟨h'.blk, h'.base, h'.goals, h'.kids, h'.chs, h'.are, h'.caps, h'.evs, h'.apart, fun y hy => ?_, h'.below⟩
  rcases List.mem_cons.1 hy with rfl | hy
  · refine ⟨hb, by show b ≠ M; omega, ?_, ?_, ?_, ?_⟩
    · intro e; have := (h.goals.lt _ e).2.1; omega
    · intro e; have := (h.chs.lt _ e).2.1; omega
    · intro e; have := (h.caps.lt _ e).2.1; omega
    · intro e; have := (h.evs.lt _ e).2.1; omega
  · exact h'.foreign y hy
/-- Fewer of another's. -/
theorem SpecAt.fewer (h : SpecAt w0 w F M m gl gi ai gv hv cv ev hs) {F' : List (Nat × Obj)} (hF : ∀ x ∈ F', x ∈ F) : SpecAt w0 w F' M m gl gi ai gv hv cv ev hs :=
  ⟨h.blk, h.base, h.goals, h.kids, h.chs, h.are, h.caps, h.evs, h.apart, fun y hy => h.foreign y (hF y hy), h.below⟩

/-- A write into the matcher's own block. -/
theorem SpecAt.set {cur : Array Value} {k : Nat} {u : Value} (hb : w.heap[M]? = some (.cells cur TS (0, 0))) (he : cur.setIfInBounds k u = sCells gv hv gi ai cv ev) (base : w0.heap.size ≤ M)
    (goals : HasRow w w0.heap.size TQ 9 gv gl.length (sgCells gl)) (kids : ∀ g ∈ gl, KidsIn w0 g.p g.kv) (chs : HasRow w w0.heap.size TD 3 hv m.choices.length hs) (are : SChoicesAre gl m.choices hs)
    (caps : HasRow w w0.heap.size TK 3 cv m.caps.length (capCells m.caps)) (evs : HasRow w w0.heap.size TK 3 ev m.events.length (capCells m.events)) (apart : cv.ownBlock = none ∨ cv.ownBlock ≠ ev.ownBlock)
    (foreign : ∀ x ∈ F, Foreign w x M gv hv cv ev) (below : Below w0.heap.size w0 w) : SpecAt w0 (w.setCell ⟨M, k, none⟩ u) F M m gl gi ai gv hv cv ev hs := by
  have other : ∀ {e : TypeId} {size : Nat} {v : Value} {l : Nat} {xs : List Value}, HasRow w w0.heap.size e size v l xs → e ≠ TS → HasRow (w.setCell ⟨M, k, none⟩ u) w0.heap.size e size v l xs := fun h hne =>
    h.same fun b hbk => by
      obtain ⟨_, _, c, hc⟩ := h.lt b hbk
      exact Below.heap_setCell _ _ _ _ (ne_of_type hc hb hne)
  exact ⟨by rw [heap_set_own hb, he], base, other goals (by decide), kids, other chs (by decide), are, other caps (by decide), other evs (by decide), apart,
    fun y hy => ⟨heap_set_other (foreign y hy).blk (foreign y hy).m, (foreign y hy).m, (foreign y hy).g, (foreign y hy).h, (foreign y hy).c, (foreign y hy).e⟩, below.setCell base u⟩

/-- What a growth of one of the four rows leaves of the rest. -/
theorem grown_row {w w' : World} {r : Option Nat} (hg : w.grownBy w' r) {base : Nat} {e : TypeId} {size : Nat} {v : Value} {n : Nat} {xs : List Value} (h : HasRow w base e size v n xs) (hne : ∀ k, v.ownBlock = some k → r ≠ some k) : HasRow w' base e size v n xs :=
  h.same fun b hb => hg.block b (h.lt b hb).2.1 fun e => hne b hb e.symm
theorem row_ne {w : World} {base base' : Nat} {e e' : TypeId} {size size' : Nat} {v v' : Value} {n n' : Nat} {xs xs' : List Value} (h : HasRow w base e size v n xs) (h' : HasRow w base' e' size' v' n' xs') (hne : e ≠ e') : ∀ k, v.ownBlock = some k → v'.ownBlock ≠ some k := fun k hk hk' => by
  obtain ⟨_, _, c, hc⟩ := h.lt k hk
  obtain ⟨_, _, d, hd⟩ := h'.lt k hk'
  exact ne_of_type hc hd hne rfl
theorem grown_blk {w w' : World} {M : Nat} {o : Obj} {r : Option Nat} (hg : w.grownBy w' r) (hb : w.heap[M]? = some o) (hne : r ≠ some M) : w'.heap[M]? = some o := by
  rw [hg.block M (has_lt hb) (fun e => hne e.symm)]; exact hb
theorem row_ne_blk {w : World} {base M : Nat} {e t : TypeId} {size : Nat} {v : Value} {n : Nat} {xs : List Value} {cs : Array Value} (h : HasRow w base e size v n xs) (hb : w.heap[M]? = some (.cells cs t (0, 0))) (hne : e ≠ t) : v.ownBlock ≠ some M := fun hk => by
  obtain ⟨_, _, c, hc⟩ := h.lt M hk
  exact ne_of_type hc hb hne rfl
theorem new_ne {w : World} {v v' : Value} {b : Nat} {o : Obj} (hv : v'.ownBlock = v.ownBlock ∨ v'.ownBlock = some w.heap.size) (h : v.ownBlock ≠ some b) (hb : w.heap[b]? = some o) : v'.ownBlock ≠ some b := by
  rcases hv with hv | hv
  · rw [hv]; exact h
  · rw [hv]
    intro e
    have := has_lt hb
    have := Option.some.inj e
    omega

/-- The goals have grown. -/
theorem SpecAt.grownG (h : SpecAt w0 w F M m gl gi ai gv hv cv ev hs) {w' : World} {v' : Value} {x : SG} (hrow : HasRow w' w0.heap.size TQ 9 v' (gl.length + 1) (sgCells gl ++ x.cells)) (hg : w.grownBy w' gv.ownBlock) (hvo : v'.ownBlock = gv.ownBlock ∨ v'.ownBlock = some w.heap.size) (hx : KidsIn w0 x.p x.kv) :
    w'.heap[M]? = some (.cells (sCells gv hv gi ai cv ev) TS (0, 0)) ∧ SpecAt w0 (w'.setCell ⟨M, 0, none⟩ v') F M m (gl ++ [x]) gi ai v' hv cv ev hs := by
  have hM := grown_blk hg h.blk (row_ne_blk h.goals h.blk (by decide))
  refine ⟨hM, SpecAt.set hM rfl h.base ?_ ?_ (grown_row hg h.chs (row_ne h.chs h.goals (by decide))) (h.are.more [x] _ _) (grown_row hg h.caps (row_ne h.caps h.goals (by decide))) (grown_row hg h.evs (row_ne h.evs h.goals (by decide))) h.apart ?_ (h.below.grown hg h.below.size (fun k hk => (h.goals.lt k hk).1))⟩
  · simpa [sgCells_append, sgCells] using hrow
  · intro g hgm
    rcases List.mem_append.1 hgm with h1 | h1
    · exact h.kids g h1
    · rw [List.mem_singleton.1 h1]; exact hx
  · intro y hy
    have f := h.foreign y hy
    exact ⟨grown_blk hg f.blk f.g, f.m, new_ne hvo f.g f.blk, f.h, f.c, f.e⟩
/-- The choices have grown. -/
theorem SpecAt.grownH (h : SpecAt w0 w F M m gl gi ai gv hv cv ev hs) {w' : World} {v' : Value} {c : Choice} {vc : List Value} (hrow : HasRow w' w0.heap.size TD 3 v' (m.choices.length + 1) (hs ++ vc)) (hg : w.grownBy w' hv.ownBlock) (hv' : v'.ownBlock = hv.ownBlock ∨ v'.ownBlock = some w.heap.size) (hx : SChoiceIs gl c vc) :
    w'.heap[M]? = some (.cells (sCells gv hv gi ai cv ev) TS (0, 0)) ∧ SpecAt w0 (w'.setCell ⟨M, 1, none⟩ v') F M { m with choices := m.choices ++ [c] } gl gi ai gv v' cv ev (hs ++ vc) := by
  have hM := grown_blk hg h.blk (row_ne_blk h.chs h.blk (by decide))
  refine ⟨hM, SpecAt.set (m := { m with choices := m.choices ++ [c] }) hM rfl h.base (grown_row hg h.goals (row_ne h.goals h.chs (by decide))) h.kids (by simpa using hrow) (SChoicesAre.push hx _ _ h.are) (grown_row hg h.caps (row_ne h.caps h.chs (by decide))) (grown_row hg h.evs (row_ne h.evs h.chs (by decide))) h.apart ?_ (h.below.grown hg h.below.size (fun k hk => (h.chs.lt k hk).1))⟩
  intro y hy
  have f := h.foreign y hy
  exact ⟨grown_blk hg f.blk f.h, f.m, f.g, new_ne hv' f.h f.blk, f.c, f.e⟩
/-- The captures have grown. -/
theorem SpecAt.grownC (h : SpecAt w0 w F M m gl gi ai gv hv cv ev hs) {w' : World} {v' : Value} {c : Cap} (hrow : HasRow w' w0.heap.size TK 3 v' (m.caps.length + 1) (capCells m.caps ++ [.int .i64 c.var, .int .i64 c.fr, .int .i64 c.to])) (hg : w.grownBy w' cv.ownBlock) (hv' : v'.ownBlock = cv.ownBlock ∨ v'.ownBlock = some w.heap.size) :
    w'.heap[M]? = some (.cells (sCells gv hv gi ai cv ev) TS (0, 0)) ∧ SpecAt w0 (w'.setCell ⟨M, 4, none⟩ v') F M (m.cap c) gl gi ai gv hv v' ev hs := by
  have hM := grown_blk hg h.blk (row_ne_blk h.caps h.blk (by decide))
  have hce : ∀ k, ev.ownBlock = some k → cv.ownBlock ≠ some k := fun k hk e => by
    rcases h.apart with h1 | h1
    · rw [h1] at e; cases e
    · exact h1 (e.trans hk.symm)
  refine ⟨hM, SpecAt.set (m := m.cap c) hM rfl h.base (grown_row hg h.goals (row_ne h.goals h.caps (by decide))) h.kids (grown_row hg h.chs (row_ne h.chs h.caps (by decide))) h.are (by simpa [Mst.cap, capCells_append, capCells] using hrow) (grown_row hg h.evs hce) (apart_new' h.evs h.apart hv') ?_ (h.below.grown hg h.below.size (fun k hk => (h.caps.lt k hk).1))⟩
  intro y hy
  have f := h.foreign y hy
  exact ⟨grown_blk hg f.blk f.c, f.m, f.g, f.h, new_ne hv' f.c f.blk, f.e⟩
/-- The events have grown. -/
theorem SpecAt.grownE (h : SpecAt w0 w F M m gl gi ai gv hv cv ev hs) {w' : World} {v' : Value} {c : Cap} (hrow : HasRow w' w0.heap.size TK 3 v' (m.events.length + 1) (capCells m.events ++ [.int .i64 c.var, .int .i64 c.fr, .int .i64 c.to])) (hg : w.grownBy w' ev.ownBlock) (hv' : v'.ownBlock = ev.ownBlock ∨ v'.ownBlock = some w.heap.size) :
    w'.heap[M]? = some (.cells (sCells gv hv gi ai cv ev) TS (0, 0)) ∧ SpecAt w0 (w'.setCell ⟨M, 5, none⟩ v') F M (m.event c) gl gi ai gv hv cv v' hs := by
  have hM := grown_blk hg h.blk (row_ne_blk h.evs h.blk (by decide))
  have hce : ∀ k, cv.ownBlock = some k → ev.ownBlock ≠ some k := fun k hk e => by
    rcases h.apart with h1 | h1
    · rw [h1] at hk; cases hk
    · exact h1 (hk.trans e.symm)
  refine ⟨hM, SpecAt.set (m := m.event c) hM rfl h.base (grown_row hg h.goals (row_ne h.goals h.evs (by decide))) h.kids (grown_row hg h.chs (row_ne h.chs h.evs (by decide))) h.are (grown_row hg h.caps hce) (by simpa [Mst.event, capCells_append, capCells] using hrow) (apart_new h.caps h.apart hv') ?_ (h.below.grown hg h.below.size (fun k hk => (h.evs.lt k hk).1))⟩
  intro y hy
  have f := h.foreign y hy
  exact ⟨grown_blk hg f.blk f.e, f.m, f.g, f.h, f.c, new_ne hv' f.e f.blk⟩
/-- Another goal is at hand. -/
theorem SpecAt.setGoal (h : SpecAt w0 w F M m gl gi ai gv hv cv ev hs) (z : Int) : SpecAt w0 (w.setCell ⟨M, 2, none⟩ (.int .i64 z)) F M m gl z ai gv hv cv ev hs :=
  SpecAt.set h.blk rfl h.base h.goals h.kids h.chs h.are h.caps h.evs h.apart h.foreign h.below
theorem SpecAt.setAt (h : SpecAt w0 w F M m gl gi ai gv hv cv ev hs) (z : Int) : SpecAt w0 (w.setCell ⟨M, 3, none⟩ (.int .i64 z)) F M m gl gi z gv hv cv ev hs :=
  SpecAt.set h.blk rfl h.base h.goals h.kids h.chs h.are h.caps h.evs h.apart h.foreign h.below
/-- What the machine's own offset says does not matter here. -/
theorem SpecAt.with_at (h : SpecAt w0 w F M m gl gi ai gv hv cv ev hs) (z : Nat) : SpecAt w0 w F M { m with at_ := z } gl gi ai gv hv cv ev hs :=
  ⟨h.blk, h.base, h.goals, h.kids, h.chs, h.are, h.caps, h.evs, h.apart, h.foreign, h.below⟩
/-- No choice is left. -/
theorem SpecAt.noChoices (h : SpecAt w0 w F M m gl gi ai gv hv cv ev hs) : SpecAt w0 (w.setCell ⟨M, 1, none⟩ (.slice none 0 0)) F M { m with choices := [] } gl gi ai gv (.slice none 0 0) cv ev [] :=
  SpecAt.set (m := { m with choices := [] }) h.blk rfl h.base h.goals h.kids (HasRow.nil _ _ _ _) rfl h.caps h.evs h.apart
    (fun y hy => ⟨(h.foreign y hy).blk, (h.foreign y hy).m, (h.foreign y hy).g, by simp [Value.ownBlock], (h.foreign y hy).c, (h.foreign y hy).e⟩) h.below
end

theorem cells_s {x : World} {M : Nat} {gv hv cv ev : Value} {gi ai : Int} (h : x.heap[M]? = some (.cells (sCells gv hv gi ai cv ev) TS (0, 0))) :
    x.cell? ⟨M, 0, none⟩ = some gv ∧ x.cell? ⟨M, 1, none⟩ = some hv ∧ x.cell? ⟨M, 2, none⟩ = some (.int .i64 gi) ∧ x.cell? ⟨M, 3, none⟩ = some (.int .i64 ai) ∧ x.cell? ⟨M, 4, none⟩ = some cv ∧ x.cell? ⟨M, 5, none⟩ = some ev :=
  ⟨cell_of_row x M 0 _ _ _ h, cell_of_row x M 1 _ _ _ h, cell_of_row x M 2 _ _ _ h, cell_of_row x M 3 _ _ _ h, cell_of_row x M 4 _ _ _ h, cell_of_row x M 5 _ _ _ h⟩
theorem cells_q {x : World} {b : Nat} {t : TypeId} {v0 v1 v2 v3 v4 v5 v6 v7 v8 : Value} (h : x.heap[b]? = some (.cells #[v0, v1, v2, v3, v4, v5, v6, v7, v8] t (0, 0))) :
    x.cell? ⟨b, 0, none⟩ = some v0 ∧ x.cell? ⟨b, 1, none⟩ = some v1 ∧ x.cell? ⟨b, 2, none⟩ = some v2 ∧ x.cell? ⟨b, 3, none⟩ = some v3 ∧ x.cell? ⟨b, 4, none⟩ = some v4 ∧ x.cell? ⟨b, 5, none⟩ = some v5 ∧ x.cell? ⟨b, 6, none⟩ = some v6 ∧ x.cell? ⟨b, 7, none⟩ = some v7 ∧ x.cell? ⟨b, 8, none⟩ = some v8 :=
  ⟨cell_of_row x b 0 _ _ _ h, cell_of_row x b 1 _ _ _ h, cell_of_row x b 2 _ _ _ h, cell_of_row x b 3 _ _ _ h, cell_of_row x b 4 _ _ _ h, cell_of_row x b 5 _ _ _ h, cell_of_row x b 6 _ _ _ h, cell_of_row x b 7 _ _ _ h, cell_of_row x b 8 _ _ _ h⟩
theorem cells_nine (w : World) (v0 v1 v2 v3 v4 v5 v6 v7 v8 : Value) (t : TypeId) : ∀ j u, [v0, v1, v2, v3, v4, v5, v6, v7, v8][j]? = some u → (w.alloc (.cells #[v0, v1, v2, v3, v4, v5, v6, v7, v8] t)).cell? ((⟨w.heap.size, 0, none⟩ : Addr).add j) = some u := by
  intro j u hj
  match j, hj with
  | 0, hj => simp at hj; subst hj; simp [Addr.add]
  | 1, hj => simp at hj; subst hj; simp [Addr.add]
  | 2, hj => simp at hj; subst hj; simp [Addr.add]
  | 3, hj => simp at hj; subst hj; simp [Addr.add]
  | 4, hj => simp at hj; subst hj; simp [Addr.add]
  | 5, hj => simp at hj; subst hj; simp [Addr.add]
  | 6, hj => simp at hj; subst hj; simp [Addr.add]
  | 7, hj => simp at hj; subst hj; simp [Addr.add]
  | 8, hj => simp at hj; subst hj; simp [Addr.add]
  | j + 9, hj => simp at hj
theorem infoQ : (Try.prog.info? TQ).map (fun i => (i.zero, i.size, i.bytes)) = some (some (.agg #[.int .i64 0, .int .i64 0, .string ⟨#[]⟩, .int .i64 0, .int .i64 0, .int .i64 0, .slice none 0 0, .int .i64 0, .int .i64 0]), 9, 96) := by kernel_rfl
theorem infoD : (Try.prog.info? TD).map (fun i => (i.zero, i.size, i.bytes)) = some (some (.agg #[.int .i64 0, .int .i64 0, .int .i64 0]), 3, 24) := by kernel_rfl

end Go.Proofs.Ytndefbecoahfhaa
