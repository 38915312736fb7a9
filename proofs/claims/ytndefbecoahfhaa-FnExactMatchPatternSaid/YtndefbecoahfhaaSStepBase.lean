/- What spec's l20Step is said with. No walk in sight. -/
import Derived.Test.YtndefbecoahfhaaSPush
namespace Go.Proofs.Ytndefbecoahfhaa
open Go.RowKit

/-- What became of one goal; k: how many goals there were. -/
def SDid (w0 : World) (M : Nat) (m : Mst) (k : Nat) (o : Out) (e : Ending) (w' : World) : Prop :=
  match o with
  | .go gs' m' => ∃ gl gi gv hv cv ev hs, e = .returned (.bool true) ∧ SpecAt w0 w' [] M m' gl gi m'.at_ gv hv cv ev hs ∧ Chain gl gi gs' ∧ gl.length ≤ k + 2
  | .fail => ∃ gl gi ai gv hv cv ev hs, e = .returned (.bool false) ∧ SpecAt w0 w' [] M m gl gi ai gv hv cv ev hs ∧ gl.length ≤ k + 2
  | .stop => ∃ gl gi ai gv hv cv ev hs, e = .returned (.bool false) ∧ SpecAt w0 w' [] M { m with choices := [⟨true, [], m.at_, m.caps.length⟩] } gl gi ai gv hv cv ev hs ∧ gl.length ≤ k + 2

abbrev ogOf (x : SG) : Obj := .cells x.cells.toArray TQ (0, 0)
abbrev opOf (p : Pat) (kv : Value) : Obj := .cells #[.int .i64 p.op, .string p.text, .int .i64 p.num, .int .i64 p.lo, .int .i64 p.hi, kv] TP (0, 0)

section
variable {w0 w : World} {F : List (Nat × Obj)} {M : Nat} {m : Mst} {gl : List SG} {gi ai : Int} {gv hv cv ev : Value} {hs : List Value}
theorem SpecAt.enter (h : SpecAt w0 w F M m gl gi ai gv hv cv ev hs) (o1 o2 : Obj) (nx : Int) : SpecAt w0 (((w.setCell ⟨M, 2, none⟩ (.int .i64 nx)).alloc o1).alloc o2) [(w.heap.size + 1, o2), (w.heap.size, o1)] M m gl nx ai gv hv cv ev hs := by
  have hz : (w.setCell ⟨M, 2, none⟩ (.int .i64 nx)).heap.size = w.heap.size := by simp
  have h1 := (h.fewer (F' := []) (fun x hx => (by cases hx))).setGoal nx
  have h2 := h1.make (b := w.heap.size) ((Later.refl _).alloc o1) (by rw [← hz]; exact heap_alloc_new _ o1) (by omega)
  exact h2.make (b := w.heap.size + 1) ((Later.refl _).alloc o2) (by rw [show w.heap.size + 1 = ((w.setCell ⟨M, 2, none⟩ (.int .i64 nx)).alloc o1).heap.size by simp]; exact heap_alloc_new _ o2) (by simp)
theorem SpecAt.none (h : SpecAt w0 w F M m gl gi ai gv hv cv ev hs) : SpecAt w0 w [] M m gl gi ai gv hv cv ev hs := h.fewer (fun x hx => (by cases hx))

theorem goal_row (h : SpecAt w0 w F M m gl gi ai gv hv cv ev hs) {j : Nat} {x : SG} (hj : gl[j]? = some x) : ∃ g gc, gv = .slice (some ⟨g, 0, none⟩) gl.length gc := by
  have := (List.getElem?_eq_some_iff.1 hj).1
  obtain ⟨g, cap, e, _⟩ := h.goals.block_ (by omega)
  exact ⟨g, cap, e⟩
theorem goal_cells {g gc : Nat} (h : SpecAt w0 w F M m gl gi ai (.slice (some ⟨g, 0, none⟩) gl.length gc) hv cv ev hs) {j : Nat} {x : SG} (hj : gl[j]? = some x) :
    w.cell? ⟨g, j * 9, none⟩ = some (.int .i64 x.kind) ∧ w.cell? ⟨g, j * 9 + 1, none⟩ = some (.int .i64 x.p.op) ∧ w.cell? ⟨g, j * 9 + 2, none⟩ = some (.string x.p.text) ∧ w.cell? ⟨g, j * 9 + 3, none⟩ = some (.int .i64 x.p.num) ∧
      w.cell? ⟨g, j * 9 + 4, none⟩ = some (.int .i64 x.p.lo) ∧ w.cell? ⟨g, j * 9 + 5, none⟩ = some (.int .i64 x.p.hi) ∧ w.cell? ⟨g, j * 9 + 6, none⟩ = some x.kv ∧ w.cell? ⟨g, j * 9 + 7, none⟩ = some (.int .i64 x.next) ∧ w.cell? ⟨g, j * 9 + 8, none⟩ = some (.int .i64 x.fr) := by
  have hc := h.goals.cells (g := g) rfl
  have at_ : ∀ i u, x.cells[i]? = some u → w.cell? ⟨g, j * 9 + i, none⟩ = some u := fun i u hu => hc _ u (sgCells_at gl j x hj i u hu)
  exact ⟨at_ 0 _ rfl, at_ 1 _ rfl, at_ 2 _ rfl, at_ 3 _ rfl, at_ 4 _ rfl, at_ 5 _ rfl, at_ 6 _ rfl, at_ 7 _ rfl, at_ 8 _ rfl⟩

theorem push_at (h : SpecAt w0 w F M m gl gi ai gv hv cv ev hs) (kind : Nat) (p : Pat) (kA : Option Addr) (kc : Nat) (next fr : Int) (hk : KidsIn w0 p (.slice kA p.kids.length kc)) (hn : gl.length ≤ 100000) (z : Int) (hz : z = (kind : Int)) :
    Calls Try.prog 70 #[.pointer (some ⟨M, 0, none⟩), .agg #[.int .i64 z, .int .i64 p.op, .string p.text, .int .i64 p.num, .int .i64 p.lo, .int .i64 p.hi, .slice kA p.kids.length kc, .int .i64 next, .int .i64 fr]] w
      fun e w' => e = .returned (.int .i64 gl.length) ∧ ∃ gv', SpecAt w0 w' F M m (gl ++ [⟨kind, p, .slice kA p.kids.length kc, next, fr⟩]) gi ai gv' hv cv ev hs := by
  subst hz
  exact push_any h kind p kA kc next fr hk hn
end

section
variable {w0 w' : World} {M : Nat} {m m' : Mst} {k : Nat} {gs' : List Goal} {F : List (Nat × Obj)} {gl : List SG} {gi ai : Int} {gv hv cv ev : Value} {hs : List Value}
theorem sdid_go (h : SpecAt w0 w' F M m' gl gi m'.at_ gv hv cv ev hs) (hc : Chain gl gi gs') (hl : gl.length ≤ k + 2) : SDid w0 M m k (.go gs' m') (.returned (.bool true)) w' := ⟨gl, gi, gv, hv, cv, ev, hs, rfl, h.none, hc, hl⟩
theorem sdid_fail (h : SpecAt w0 w' F M m gl gi ai gv hv cv ev hs) (hl : gl.length ≤ k + 2) : SDid w0 M m k .fail (.returned (.bool false)) w' := ⟨gl, gi, ai, gv, hv, cv, ev, hs, rfl, h.none, hl⟩
theorem sdid_stop (h : SpecAt w0 w' F M { m with choices := [⟨true, [], m.at_, m.caps.length⟩] } gl gi ai gv hv cv ev hs) (hl : gl.length ≤ k + 2) : SDid w0 M m k .stop (.returned (.bool false)) w' := ⟨gl, gi, ai, gv, hv, cv, ev, hs, rfl, h.none, hl⟩
end

section
variable {text : ByteArray} {num lo hi : Int} {A : Option Addr} {l c : Nat} {s : ByteArray} {p : Nat} {w : World} {op : Int}
theorem one_some {z : Nat} (h : isSimple op) (hok : okWords op text num) (hs : s.size ≤ 120) (hp : p ≤ s.size) (hz : oneEnd op text num lo hi s p = some z) :
    Calls Try.prog 82 #[patV op text num lo hi (.slice A l c), .string s, .int .i64 p] w fun e w' => e = .returned (.int .i64 z) ∧ Below w.heap.size w w' :=
  (l19One_any text num lo hi A l c s p w op h hok hs hp).mono fun e w' ⟨he, hb⟩ => ⟨by rw [he, hz]; rfl, hb⟩
theorem one_none (h : isSimple op) (hok : okWords op text num) (hs : s.size ≤ 120) (hp : p ≤ s.size) (hz : oneEnd op text num lo hi s p = none) :
    Calls Try.prog 82 #[patV op text num lo hi (.slice A l c), .string s, .int .i64 p] w fun e w' => e = .returned (.int .i64 (-1)) ∧ Below w.heap.size w w' :=
  (l19One_any text num lo hi A l c s p w op h hok hs hp).mono fun e w' ⟨he, hb⟩ => ⟨by rw [he, hz]; rfl, hb⟩
end
end Go.Proofs.Ytndefbecoahfhaa
