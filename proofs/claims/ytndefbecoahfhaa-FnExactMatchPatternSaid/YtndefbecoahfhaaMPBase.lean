/- What MatchPattern's answer is said with. No walk in sight. -/
import Derived.Test.YtndefbecoahfhaaExec
import Derived.Deep.LoopGhost
namespace Go.Proofs.Ytndefbecoahfhaa
open Go.RowKit

abbrev TR : TypeId := 33
/-- A match's value. -/
abbrev matchV (r : Res) (fr : Int) (cv ev : Value) : Value := .agg #[.bool r.found, .bool r.stopped, .bool r.exhausted, .int .i64 fr, .int .i64 r.at_, .int .i64 r.steps, cv, ev]
/-- The answer: its captures and events lie in memory of the call's own. -/
def MatchIs (w0 : World) (r : Res) (fr : Int) (e : Ending) (w' : World) : Prop :=
  ∃ cv ev, e = .returned (matchV r fr cv ev) ∧ HasRow w' w0.heap.size TK 3 cv r.caps.length (capCells r.caps) ∧ HasRow w' w0.heap.size TK 3 ev r.events.length (capCells r.events) ∧ (cv.ownBlock = none ∨ cv.ownBlock ≠ ev.ownBlock) ∧ Below w0.heap.size w0 w'
def Res.none : Res := ⟨false, false, false, 0, 0, [], []⟩
/-- The machine's start. -/
abbrev Mst.start (at_ : Nat) : Mst := ⟨at_, [], [], []⟩
/-- What MatchPattern answers. -/
def answers (defs : List Pat) (p : Pat) (s : ByteArray) (fr fuel : Int) : Bool := validD defs p && decide (s.size ≤ 120) && decide (0 ≤ fr) && decide (fr ≤ s.size) && decide (0 ≤ fuel) && decide (fuel ≤ 4000)
def matchRes (defs : List Pat) (p : Pat) (s : ByteArray) (fr fuel : Int) : Res := if answers defs p s fr fuel then play defs s fuel.toNat 0 [⟨0, p, 0⟩] (.start fr.toNat) else .none
def matchFrom (r : Res) (fr : Int) : Int := if r.found then fr else 0

/-- The cells of a match that nothing was written to. -/
abbrev zeroM : Array Value := #[.bool false, .bool false, .bool false, .int .i64 0, .int .i64 0, .int .i64 0, .slice none 0 0, .slice none 0 0]

theorem validD_defs {defs : List Pat} {p : Pat} (h : validD defs p = true) (hs : Smalls defs) : DefsOk defs ∧ valid p defs.length = true := by
  simp only [validD, validP, Bool.and_eq_true, List.all_eq_true, decide_eq_true_eq] at h
  exact ⟨⟨h.1.1, fun j hj => (h.2 _ (List.getElem_mem hj)).2, hs⟩, h.1.2.2⟩

theorem ok_start {defs : List Pat} {p : Pat} {s : ByteArray} {at_ : Nat} (h : valid p defs.length = true) (hp : Small p) (ha : at_ ≤ s.size) : Ok defs s 0 [⟨0, p, 0⟩] (.start at_) :=
  ⟨GoalsOk.cons (GoalOk.plain h hp) (fun x hx => (by cases hx)), ha, ⟨fun c hc => (by cases hc), by simp, fun c hc => (by cases hc)⟩, Nat.le_refl _, Nat.le_refl _, Nat.le_refl _⟩

theorem validDefinitions_is (b : Bool) (defs : List Pat) (A : Option Addr) (c : Nat) (p : Pat) (kv : Value) (w : World) (hs : Smalls defs) (hp : Small p) (hd : RowIn w A 0 defs) (hin : KidsIn w p kv) (hdl : defs.length ≤ 1099511627776) (hb : validD defs p = b) :
    Calls Try.prog 37 #[.slice A defs.length c, p.v kv] w fun e w' => e = .returned (.bool b) ∧ Below w.heap.size w w' := by
  subst hb
  exact validDefinitions_any defs A c p kv w hs hp hd hin hdl


/-- What holds at the head of MatchPattern's loop; k rounds at most are to come. -/
def LoopRel (w2 : World) (defs : List Pat) (dA : Option Addr) (dc : Nat) (s : ByteArray) (M fuel : Nat) (RES : Res) (k : Nat) (gv : Value) (wr : World) : Prop :=
  ∃ n gs m cv ev hv hs, n + k = fuel ∧ GoalsAt w2 wr gs gv ∧ ImplAt w2 wr M (.slice dA defs.length dc) s n m cv ev hv hs ∧ Ok defs s n gs m ∧ play defs s k n gs m = RES

theorem GoalsAt.ptr_cons {w0 w : World} {g : Goal} {gs : List Goal} {v : Value} (h : GoalsAt w0 w (g :: gs) v) : ∃ b, v = .pointer (some ⟨b, 0, none⟩) := by
  obtain ⟨b, _, _, h, _⟩ := h
  exact ⟨b, h⟩
theorem HasRow.base_le {w : World} {base base' : Nat} {e : TypeId} {size : Nat} {v : Value} {n : Nat} {xs : List Value} (h : HasRow w base e size v n xs) (hb : base' ≤ base) : HasRow w base' e size v n xs := by
  refine ⟨h.1, ?_⟩
  rcases h.2 with hn | ⟨g, cap, cur, e, h1, rest⟩
  · exact .inl hn
  · exact .inr ⟨g, cap, cur, e, Nat.le_trans hb h1, rest⟩

section
variable {w0 w : World} {M : Nat} {dv : Value} {s : ByteArray} {n : Nat} {m : Mst} {cv ev hv : Value} {hs : List Value}
theorem ImplAt.tick (h : ImplAt w0 w M dv s n m cv ev hv hs) (z : Int) (hz : z = ((n + 1 : Nat) : Int)) : ImplAt w0 (w.setCell ⟨M, 8, none⟩ (.int .i64 z)) M dv s (n + 1) m cv ev hv hs := by
  subst hz
  exact ImplAt.set h.blk rfl h.base h.caps h.evs h.chs h.are h.apart h.below
theorem ImplAt.setAt (h : ImplAt w0 w M dv s n m cv ev hv hs) (z : Nat) : ImplAt w0 (w.setCell ⟨M, 2, none⟩ (.int .i64 z)) M dv s n { m with at_ := z } cv ev hv hs :=
  ImplAt.set (m := { m with at_ := z }) h.blk rfl h.base h.caps h.evs h.chs h.are h.apart h.below
theorem ImplAt.keepSet (h : ImplAt w0 w M dv s n m cv ev hv hs) (k : Nat) (u : Value) : KeepT TG w (w.setCell ⟨M, k, none⟩ u) := KeepT.set (a := ⟨M, k, none⟩) h.blk (by decide) u

/-- The last choice is taken away. -/
theorem ImplAt.pop {cs : List Choice} {c : Choice} {g hc : Nat} (h : ImplAt w0 w M dv s n m cv ev (.slice (some ⟨g, 0, none⟩) (cs.length + 1) hc) hs) (hcs : m.choices = cs ++ [c]) :
    ∃ a b, hs = a ++ b ∧ ChoiceIs w0 w c b ∧ a.length = cs.length * 4 ∧ ImplAt w0 (w.setCell ⟨M, 11, none⟩ (.slice (some ⟨g, 0, none⟩) cs.length hc)) M dv s n { m with choices := cs } cv ev (.slice (some ⟨g, 0, none⟩) cs.length hc) a := by
  have h6 := h.are
  have h5 := h.chs
  rw [hcs] at h6 h5
  obtain ⟨a, b, rfl, h1, h2⟩ := ChoicesAre.pop cs hs h6
  have hla := ChoicesAre.len cs a h1
  refine ⟨a, b, rfl, h2, hla, ImplAt.set (m := { m with choices := cs }) h.blk rfl h.base h.caps h.evs ?_ h1 h.apart h.below⟩
  have hl : (cs ++ [c]).length = cs.length + 1 := by simp
  rw [hl] at h5
  have := h5.cut (k := cs.length) (c := hc) (by omega) (by have := h5.form; obtain ⟨A, cap, e, h7, _⟩ := this; cases e; omega) (Nat.le_refl _)
  simpa [← hla] using this
/-- The captures are cut. -/
theorem ImplAt.cut {g cc k : Nat} (h : ImplAt w0 w M dv s n m (.slice (some ⟨g, 0, none⟩) m.caps.length cc) ev hv hs) (hk : k ≤ m.caps.length) :
    ImplAt w0 (w.setCell ⟨M, 9, none⟩ (.slice (some ⟨g, 0, none⟩) k k)) M dv s n { m with caps := m.caps.take k } (.slice (some ⟨g, 0, none⟩) k k) ev hv hs := by
  have hc : m.caps.length ≤ cc := by obtain ⟨A, cap, e, h7, _⟩ := h.caps.form; cases e; omega
  refine ImplAt.set (m := { m with caps := m.caps.take k }) h.blk rfl h.base ?_ h.evs h.chs h.are h.apart h.below
  have := h.caps.cut hk (Nat.le_refl k) (by omega)
  rw [capCells_take] at this
  simpa [Nat.min_eq_left hk] using this
theorem ImplAt.cut_nil {k : Nat} (h : ImplAt w0 w M dv s n m (.slice none 0 0) ev hv hs) (hl : m.caps.length = 0) (hk : k = 0) :
    ImplAt w0 (w.setCell ⟨M, 9, none⟩ (.slice none 0 0)) M dv s n { m with caps := m.caps.take k } (.slice none 0 0) ev hv hs := by
  subst hk
  exact ImplAt.set (m := { m with caps := m.caps.take 0 }) h.blk rfl h.base (by simpa [capCells] using HasRow.nil w w0.heap.size TK 3) h.evs h.chs h.are h.apart h.below
end

theorem implAt_start {w w2 : World} {dv : Value} {s : ByteArray} {fr : Nat} (hl : Later w w2) (o : Obj) :
    ImplAt w ((w2.alloc (.cells (mCells dv s fr 0 (.slice none 0 0) (.slice none 0 0) (.slice none 0 0)) TM)).alloc o) w2.heap.size dv s 0 (.start fr) (.slice none 0 0) (.slice none 0 0) (.slice none 0 0) [] :=
  ⟨((Later.refl _).alloc o).has (heap_alloc_new w2 _), hl.size, HasRow.nil _ _ _ _, HasRow.nil _ _ _ _, HasRow.nil _ _ _ _, rfl, .inl rfl, (hl.alloc _).alloc _⟩

theorem cells_r {x : World} {b : Nat} {v0 v1 v2 v3 v4 v5 v6 v7 : Value} (h : x.heap[b]? = some (.cells #[v0, v1, v2, v3, v4, v5, v6, v7] TR (0, 0))) :
    x.cell? ⟨b, 0, none⟩ = some v0 ∧ x.cell? ⟨b, 1, none⟩ = some v1 ∧ x.cell? ⟨b, 2, none⟩ = some v2 ∧ x.cell? ⟨b, 3, none⟩ = some v3 ∧ x.cell? ⟨b, 4, none⟩ = some v4 ∧ x.cell? ⟨b, 5, none⟩ = some v5 ∧ x.cell? ⟨b, 6, none⟩ = some v6 ∧ x.cell? ⟨b, 7, none⟩ = some v7 :=
  ⟨cell_of_row x b 0 _ _ _ h, cell_of_row x b 1 _ _ _ h, cell_of_row x b 2 _ _ _ h, cell_of_row x b 3 _ _ _ h, cell_of_row x b 4 _ _ _ h, cell_of_row x b 5 _ _ _ h, cell_of_row x b 6 _ _ _ h, cell_of_row x b 7 _ _ _ h⟩
theorem frozen_r {x : World} {b : Nat} {cs : Array Value} {t : TypeId} (h : x.heap[b]? = some (.cells cs t (0, 0))) :
    x.frozen? ⟨b, 0, none⟩ = false ∧ x.frozen? ⟨b, 1, none⟩ = false ∧ x.frozen? ⟨b, 2, none⟩ = false ∧ x.frozen? ⟨b, 3, none⟩ = false ∧ x.frozen? ⟨b, 4, none⟩ = false ∧ x.frozen? ⟨b, 5, none⟩ = false ∧ x.frozen? ⟨b, 6, none⟩ = false ∧ x.frozen? ⟨b, 7, none⟩ = false :=
  ⟨frozen_of_row x b 0 _ _ h, frozen_of_row x b 1 _ _ h, frozen_of_row x b 2 _ _ h, frozen_of_row x b 3 _ _ h, frozen_of_row x b 4 _ _ h, frozen_of_row x b 5 _ _ h, frozen_of_row x b 6 _ _ h, frozen_of_row x b 7 _ _ h⟩

/-- Only the block b was written to. -/
def OnlyAt (b : Nat) (w x : World) : Prop := Below b w x ∧ ∀ k, k ≠ b → x.heap[k]? = w.heap[k]?
theorem OnlyAt.refl (b : Nat) (w : World) : OnlyAt b w w := ⟨Below.refl _ _, fun _ _ => rfl⟩
theorem OnlyAt.set {b : Nat} {w x : World} (h : OnlyAt b w x) (o : Nat) (u : Value) : OnlyAt b w (x.setCell ⟨b, o, none⟩ u) :=
  ⟨h.1.setCell (Nat.le_refl _) u, fun k hk => by rw [Below.heap_setCell _ _ _ _ hk]; exact h.2 k hk⟩
theorem OnlyAt.row {b : Nat} {w x : World} (h : OnlyAt b w x) {base : Nat} {e : TypeId} {size : Nat} {v : Value} {n : Nat} {xs : List Value} {cs : Array Value} {t : TypeId} (hr : HasRow w base e size v n xs) (hb : w.heap[b]? = some (.cells cs t (0, 0))) (hne : e ≠ t) : HasRow x base e size v n xs :=
  hr.same fun k hk => h.2 k (by obtain ⟨_, _, c, hc⟩ := hr.lt k hk; exact ne_of_type hc hb hne)

theorem matchIs_mk {w w2 w' x : World} {RB : Nat} {r : Res} {fr : Int} {cv ev : Value} (hl : Later w w2) (hc : HasRow w' w2.heap.size TK 3 cv r.caps.length (capCells r.caps)) (he : HasRow w' w2.heap.size TK 3 ev r.events.length (capCells r.events)) (ha : cv.ownBlock = none ∨ cv.ownBlock ≠ ev.ownBlock) (hb : Below w2.heap.size w2 w') (hRB : w'.heap[RB]? = some (.cells zeroM TR (0, 0))) (hlt : w.heap.size ≤ RB) (ho : OnlyAt RB w' x) :
    MatchIs w r fr (.returned (matchV r fr cv ev)) x :=
  ⟨cv, ev, rfl, (ho.row hc hRB (by decide)).base_le hl.size, (ho.row he hRB (by decide)).base_le hl.size, ha, Below.trans (show Below w.heap.size w w' from Later.trans hl hb) (ho.1.mono hlt)⟩

theorem top_cells {j : Nat} {w0 w x : World} {M : Nat} {dv : Value} {s : ByteArray} {n : Nat} {m : Mst} {cv ev : Value} {a : List Value} {k g hc : Nat} {v0 v1 v2 v3 : Value}
    (h : ImplAt w0 w M dv s n m cv ev (.slice (some ⟨g, 0, none⟩) k hc) (a ++ [v0, v1, v2, v3])) (ha : a.length = j * 4) (hl : Later w x) :
    x.cell? ⟨g, j * 4, none⟩ = some v0 ∧ x.cell? ⟨g, j * 4 + 1, none⟩ = some v1 ∧ x.cell? ⟨g, j * 4 + 2, none⟩ = some v2 ∧ x.cell? ⟨g, j * 4 + 3, none⟩ = some v3 := by
  have hc := h.chs.cells (g := g) rfl
  have hg := (h.chs.lt g rfl).2.1
  have at_ : ∀ i u, (a ++ [v0, v1, v2, v3])[j * 4 + i]? = some u → x.cell? ⟨g, j * 4 + i, none⟩ = some u := fun i u hu => (hl.cell _ hg).trans (hc _ u hu)
  refine ⟨at_ 0 v0 ?_, at_ 1 v1 ?_, at_ 2 v2 ?_, at_ 3 v3 ?_⟩ <;> rw [← ha, List.getElem?_append_right (by omega)] <;> simp
theorem cells_c {x : World} {b : Nat} {v0 v1 v2 v3 : Value} (h : x.heap[b]? = some (.cells #[v0, v1, v2, v3] TC (0, 0))) :
    x.cell? ⟨b, 0, none⟩ = some v0 ∧ x.cell? ⟨b, 1, none⟩ = some v1 ∧ x.cell? ⟨b, 2, none⟩ = some v2 ∧ x.cell? ⟨b, 3, none⟩ = some v3 :=
  ⟨cell_of_row x b 0 _ _ _ h, cell_of_row x b 1 _ _ _ h, cell_of_row x b 2 _ _ _ h, cell_of_row x b 3 _ _ _ h⟩
theorem heap_set_other {w : World} {b M k : Nat} {o : Obj} {u : Value} (h : w.heap[b]? = some o) (hne : b ≠ M) : (w.setCell ⟨M, k, none⟩ u).heap[b]? = some o := by
  rw [Below.heap_setCell _ _ _ _ hne]; exact h

end Go.Proofs.Ytndefbecoahfhaa
