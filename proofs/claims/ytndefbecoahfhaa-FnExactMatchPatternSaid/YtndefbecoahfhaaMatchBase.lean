/- What impl's match and execute are said with. No walk in sight. -/
import Derived.Test.YtndefbecoahfhaaChoose
namespace Go.Proofs.Ytndefbecoahfhaa
open Go.RowKit

abbrev TP : TypeId := 28

/-- What became of one goal. -/
def Did (w0 : World) (M : Nat) (dv : Value) (s : ByteArray) (n : Nat) (m : Mst) (o : Out) (e : Ending) (w' : World) : Prop :=
  match o with
  | .go gs' m' => ∃ gv cv ev hv hs, e = .returned (.tuple #[gv, .bool true, .bool false]) ∧ GoalsAt w0 w' gs' gv ∧ ImplAt w0 w' M dv s n m' cv ev hv hs
  | .fail => ∃ p cv ev hv hs, e = .returned (.tuple #[.pointer p, .bool false, .bool false]) ∧ ImplAt w0 w' M dv s n m cv ev hv hs
  | .stop => ∃ cv ev hv hs, e = .returned (.tuple #[.pointer none, .bool false, .bool true]) ∧ ImplAt w0 w' M dv s n m cv ev hv hs

theorem cells_m {x : World} {M : Nat} {dv cv ev hv : Value} {s : ByteArray} {a n : Nat} (h : x.heap[M]? = some (.cells (mCells dv s a n cv ev hv) TM (0, 0))) :
    x.cell? ⟨M, 0, none⟩ = some dv ∧ x.cell? ⟨M, 1, none⟩ = some (.string s) ∧ x.cell? ⟨M, 2, none⟩ = some (.int .i64 a) ∧ x.cell? ⟨M, 8, none⟩ = some (.int .i64 n) ∧ x.cell? ⟨M, 9, none⟩ = some cv ∧ x.cell? ⟨M, 10, none⟩ = some ev ∧ x.cell? ⟨M, 11, none⟩ = some hv :=
  ⟨cell_of_row x M 0 _ _ _ h, cell_of_row x M 1 _ _ _ h, cell_of_row x M 2 _ _ _ h, cell_of_row x M 8 _ _ _ h, cell_of_row x M 9 _ _ _ h, cell_of_row x M 10 _ _ _ h, cell_of_row x M 11 _ _ _ h⟩
theorem cells_g {x : World} {b : Nat} {v0 v1 v2 v3 v4 v5 v6 v7 v8 : Value} (h : x.heap[b]? = some (.cells #[v0, v1, v2, v3, v4, v5, v6, v7, v8] TG (0, 0))) :
    x.cell? ⟨b, 0, none⟩ = some v0 ∧ x.cell? ⟨b, 1, none⟩ = some v1 ∧ x.cell? ⟨b, 2, none⟩ = some v2 ∧ x.cell? ⟨b, 3, none⟩ = some v3 ∧ x.cell? ⟨b, 4, none⟩ = some v4 ∧ x.cell? ⟨b, 5, none⟩ = some v5 ∧ x.cell? ⟨b, 6, none⟩ = some v6 ∧ x.cell? ⟨b, 7, none⟩ = some v7 ∧ x.cell? ⟨b, 8, none⟩ = some v8 :=
  ⟨cell_of_row x b 0 _ _ _ h, cell_of_row x b 1 _ _ _ h, cell_of_row x b 2 _ _ _ h, cell_of_row x b 3 _ _ _ h, cell_of_row x b 4 _ _ _ h, cell_of_row x b 5 _ _ _ h, cell_of_row x b 6 _ _ _ h, cell_of_row x b 7 _ _ _ h, cell_of_row x b 8 _ _ _ h⟩
theorem cells_p {x : World} {b : Nat} {t : TypeId} {v0 v1 v2 v3 v4 v5 : Value} (h : x.heap[b]? = some (.cells #[v0, v1, v2, v3, v4, v5] t (0, 0))) :
    x.cell? ⟨b, 0, none⟩ = some v0 ∧ x.cell? ⟨b, 1, none⟩ = some v1 ∧ x.cell? ⟨b, 2, none⟩ = some v2 ∧ x.cell? ⟨b, 3, none⟩ = some v3 ∧ x.cell? ⟨b, 4, none⟩ = some v4 ∧ x.cell? ⟨b, 5, none⟩ = some v5 :=
  ⟨cell_of_row x b 0 _ _ _ h, cell_of_row x b 1 _ _ _ h, cell_of_row x b 2 _ _ _ h, cell_of_row x b 3 _ _ _ h, cell_of_row x b 4 _ _ _ h, cell_of_row x b 5 _ _ _ h⟩

theorem drew_alloc {w w1 : World} {o : Obj} (h : w1 = (w.alloc o).drew) : Later w w1 ∧ w1.heap[w.heap.size]? = some o := by
  subst h
  exact ⟨((Later.refl w).alloc o).drew, heap_alloc_new w o⟩
theorem drew_later {w w1 : World} (h : w1 = w.drew) : Later w w1 := by
  subst h
  exact (Later.refl w).drew
theorem Later.has {w x : World} (h : Later w x) {b : Nat} {o : Obj} (hb : w.heap[b]? = some o) : x.heap[b]? = some o :=
  (h.block b (Array.getElem?_eq_some_iff.1 hb).1).trans hb
theorem has_lt {w : World} {b : Nat} {o : Obj} (hb : w.heap[b]? = some o) : b < w.heap.size := (Array.getElem?_eq_some_iff.1 hb).1

theorem GoalsAt.later {w0 w x : World} {gs : List Goal} {v : Value} (h : GoalsAt w0 w gs v) (hl : Later w x) : GoalsAt w0 x gs v := h.keep (KeepT.later hl)
theorem GoalsAt.push {w0 w : World} {gs : List Goal} {nv : Value} (h : GoalsAt w0 w gs nv) (g : Goal) {kv : Value} (hk : KidsIn w0 g.p kv) : GoalsAt w0 (w.alloc (.cells (goalCells g kv nv) TG)) (g :: gs) (.pointer (some ⟨w.heap.size, 0, none⟩)) :=
  ⟨w.heap.size, kv, nv, rfl, heap_alloc_new w _, hk, h.later ((Later.refl w).alloc _)⟩
theorem GoalsAt.pushAt {w0 w : World} {gs : List Goal} {nv : Value} (h : GoalsAt w0 w gs nv) (g : Goal) {kv : Value} (hk : KidsIn w0 g.p kv) (B : Nat) (hB : B = w.heap.size) : GoalsAt w0 (w.alloc (.cells (goalCells g kv nv) TG)) (g :: gs) (.pointer (some ⟨B, 0, none⟩)) := by
  subst hB
  exact h.push g hk
/-- The same, the goal found in memory. -/
theorem GoalsAt.here {w0 w : World} {gs : List Goal} {nv : Value} (h : GoalsAt w0 w gs nv) (g : Goal) {kv : Value} (hk : KidsIn w0 g.p kv) {b : Nat} (hb : w.heap[b]? = some (.cells (goalCells g kv nv) TG (0, 0))) : GoalsAt w0 w (g :: gs) (.pointer (some ⟨b, 0, none⟩)) :=
  ⟨b, kv, nv, rfl, hb, hk, h⟩

/-- A kid's six cells. -/
theorem kid_cells {w0 x : World} {kids : List Pat} {A : Option Addr} (h : RowIn w0 A 0 kids) {j : Nat} (hj : j < kids.length) (hb : Below w0.heap.size w0 x) :
    ∃ g kA kc, A = some ⟨g, 0, none⟩ ∧ KidsIn w0 kids[j] (.slice kA kids[j].kids.length kc) ∧ ElemAt x g j kids[j] (.slice kA kids[j].kids.length kc) := by
  obtain ⟨g, kv, e, hg, he, hk⟩ := rowOf w0 kids h hj
  obtain ⟨kA, kc, rfl, _, _⟩ := hk.form
  exact ⟨g, kA, kc, e, hk, he.later hg hb⟩
theorem ElemAt.below {w x : World} {g j : Nat} {p : Pat} {kv : Value} (h : ElemAt w g j p kv) (hl : Later w x) : ElemAt x g j p kv := by
  refine h.later ?_ hl
  have h1 := h.1
  rcases Nat.lt_or_ge g w.heap.size with h2 | h2
  · exact h2
  · exfalso
    have : w.heap[g]? = none := Array.getElem?_eq_none h2
    simp [World.cell?, this] at h1

theorem did_go {w0 w' : World} {M : Nat} {dv : Value} {s : ByteArray} {n : Nat} {m : Mst} {gs' : List Goal} {m' : Mst} {gv cv ev hv : Value} {hs : List Value} (hg : GoalsAt w0 w' gs' gv) (hi : ImplAt w0 w' M dv s n m' cv ev hv hs) :
    Did w0 M dv s n m (.go gs' m') (.returned (.tuple #[gv, .bool true, .bool false])) w' := ⟨gv, cv, ev, hv, hs, rfl, hg, hi⟩
theorem did_fail {w0 w' : World} {M : Nat} {dv : Value} {s : ByteArray} {n : Nat} {m : Mst} {p : Option Addr} {cv ev hv : Value} {hs : List Value} (hi : ImplAt w0 w' M dv s n m cv ev hv hs) :
    Did w0 M dv s n m .fail (.returned (.tuple #[.pointer p, .bool false, .bool false])) w' := ⟨p, cv, ev, hv, hs, rfl, hi⟩
theorem did_stop {w0 w' : World} {M : Nat} {dv : Value} {s : ByteArray} {n : Nat} {m : Mst} {cv ev hv : Value} {hs : List Value} (hi : ImplAt w0 w' M dv s n m cv ev hv hs) :
    Did w0 M dv s n m .stop (.returned (.tuple #[.pointer none, .bool false, .bool true])) w' := ⟨cv, ev, hv, hs, rfl, hi⟩


theorem kids_row {w0 : World} {o : Int} {t : ByteArray} {nu lo hi : Int} {ks : List Pat} {A : Option Addr} {k c : Nat} (h : KidsIn w0 (.mk o t nu lo hi ks) (.slice A k c)) : RowIn w0 A 0 ks := by
  obtain ⟨A', c', e, _, hr⟩ := h.form
  cases e
  exact hr

theorem choose_at {w0 w : World} {M : Nat} {dv : Value} {s : ByteArray} {n : Nat} {m : Mst} {cv ev hv : Value} {hs : List Value} {gs : List Goal} {gv : Value} (at_ : Nat)
    (h : ImplAt w0 w M dv s n m cv ev hv hs) (hg : GoalsAt w0 w gs gv) (hn : m.choices.length ≤ 5000) (z : Int) (hz : z = (at_ : Int)) :
    Calls Try.prog 91 #[.pointer (some ⟨M, 0, none⟩), gv, .int .i64 z] w fun e w' => e = .returned (.tuple #[]) ∧ ∃ hv' hs', ImplAt w0 w' M dv s n (m.choose gs at_) cv ev hv' hs' ∧ KeepT TG w w' := by
  subst hz
  exact (choose_any w0 w M dv s n m cv ev hv hs gs gv at_ h hg hn).mono fun e w' ⟨he, hv', hs', h1, h2⟩ => ⟨he, hv', hs', h1, h2 TG (by decide) (by decide)⟩
theorem choose_at2 {w0 w : World} {M : Nat} {dv : Value} {s : ByteArray} {n : Nat} {m : Mst} {cv ev hv : Value} {hs : List Value} {gs : List Goal} {gv : Value} (at_ : Nat)
    (h : ImplAt w0 w M dv s n m cv ev hv hs) (hg : GoalsAt w0 w gs gv) (hn : m.choices.length ≤ 5000) (z : Int) (hz : z = (at_ : Int)) :
    Calls Try.prog 91 #[.pointer (some ⟨M, 0, none⟩), gv, .int .i64 z] w fun e w' => e = .returned (.tuple #[]) ∧ ∃ hv' hs', ImplAt w0 w' M dv s n (m.choose gs at_) cv ev hv' hs' ∧ KeepT TG w w' ∧ KeepT TP w w' := by
  subst hz
  exact (choose_any w0 w M dv s n m cv ev hv hs gs gv at_ h hg hn).mono fun e w' ⟨he, hv', hs', h1, h2⟩ => ⟨he, hv', hs', h1, h2 TG (by decide) (by decide), h2 TP (by decide) (by decide)⟩

section
variable {text : ByteArray} {num lo hi : Int} {A : Option Addr} {l c : Nat} {s : ByteArray} {p : Nat} {w : World} {op : Int}
theorem simple_some {z : Nat} (h : isSimple op) (hok : okWords op text num) (hs : s.size ≤ 120) (hp : p ≤ s.size) (hz : oneEnd op text num lo hi s p = some z) :
    Calls Try.prog 78 #[patV op text num lo hi (.slice A l c), .string s, .int .i64 p] w fun e w' => e = .returned (.tuple #[.int .i64 z, .bool true, .bool true]) ∧ Below w.heap.size w w' :=
  (simpleEnding_any text num lo hi A l c s p w op h hok hs hp).mono fun e w' ⟨x, he, hx, hb⟩ => ⟨by rw [he, hz, hx z hz]; rfl, hb⟩
theorem simple_none (h : isSimple op) (hok : okWords op text num) (hs : s.size ≤ 120) (hp : p ≤ s.size) (hz : oneEnd op text num lo hi s p = none) :
    Calls Try.prog 78 #[patV op text num lo hi (.slice A l c), .string s, .int .i64 p] w fun e w' => ∃ x, e = .returned (.tuple #[.int .i64 x, .bool false, .bool true]) ∧ Below w.heap.size w w' :=
  (simpleEnding_any text num lo hi A l c s p w op h hok hs hp).mono fun e w' ⟨x, he, _, hb⟩ => ⟨x, by rw [he, hz]; rfl, hb⟩
end

theorem cells_three (w : World) (a b c : Value) (t : TypeId) : ∀ j u, [a, b, c][j]? = some u → (w.alloc (.cells #[a, b, c] t)).cell? ((⟨w.heap.size, 0, none⟩ : Addr).add j) = some u := by
  intro j u hj
  match j, hj with
  | 0, hj => simp at hj; subst hj; simp [Addr.add]
  | 1, hj => simp at hj; subst hj; simp [Addr.add]
  | 2, hj => simp at hj; subst hj; simp [Addr.add]
  | j + 3, hj => simp at hj
theorem infoK : (Try.prog.info? TK).map (fun i => (i.zero, i.size, i.bytes)) = some (some (.agg #[.int .i64 0, .int .i64 0, .int .i64 0]), 3, 24) := by kernel_rfl

/-- A row that was grown is apart from one that stayed. -/
theorem apart_new {w : World} {base : Nat} {e : TypeId} {size k : Nat} {cv ev v' : Value} {xs : List Value} (hc : HasRow w base e size cv k xs) (h : cv.ownBlock = none ∨ cv.ownBlock ≠ ev.ownBlock) (hv : v'.ownBlock = ev.ownBlock ∨ v'.ownBlock = some w.heap.size) : cv.ownBlock = none ∨ cv.ownBlock ≠ v'.ownBlock := by
  rcases h with h | h
  · exact .inl h
  · refine .inr ?_
    rcases hv with hv | hv
    · rw [hv]; exact h
    · intro e
      rw [hv] at e
      have := (hc.lt _ e).2.1
      omega
/-- The same for the events, where the captures were grown. -/
theorem apart_new' {w : World} {base : Nat} {e : TypeId} {size k : Nat} {cv ev v' : Value} {xs : List Value} (hc : HasRow w base e size ev k xs) (h : cv.ownBlock = none ∨ cv.ownBlock ≠ ev.ownBlock) (hv : v'.ownBlock = cv.ownBlock ∨ v'.ownBlock = some w.heap.size) : v'.ownBlock = none ∨ v'.ownBlock ≠ ev.ownBlock := by
  rcases hv with hv | hv
  · rw [hv]; exact h
  · refine .inr fun e => ?_
    rw [hv] at e
    have := (hc.lt _ e.symm).2.1
    omega

end Go.Proofs.Ytndefbecoahfhaa
