/- How impl's matcher lies in memory. No walk in sight. -/
import Derived.Test.YtndefbecoahfhaaMem
namespace Go.Proofs.Ytndefbecoahfhaa
open Go.RowKit

abbrev TG : TypeId := 74
abbrev TM : TypeId := 71
abbrev TC : TypeId := 78
abbrev TK : TypeId := 81

/-- A goal's nine cells. -/
abbrev goalCells (g : Goal) (kv nv : Value) : Array Value := #[.int .i64 g.kind, .int .i64 g.p.op, .string g.p.text, .int .i64 g.p.num, .int .i64 g.p.lo, .int .i64 g.p.hi, kv, .int .i64 g.fr, nv]
/-- A chain of goals; the patterns' kids lie where they lay in w0. -/
def GoalsAt (w0 w : World) : List Goal → Value → Prop
  | [], v => v = .pointer none
  | g :: gs, v => ∃ b kv nv, v = .pointer (some ⟨b, 0, none⟩) ∧ w.heap[b]? = some (.cells (goalCells g kv nv) TG (0, 0)) ∧ KidsIn w0 g.p kv ∧ GoalsAt w0 w gs nv
theorem GoalsAt.keep {w0 w x : World} (hk : KeepT TG w x) : ∀ (gs : List Goal) (v : Value), GoalsAt w0 w gs v → GoalsAt w0 x gs v
  | [], _, h => h
  | _ :: gs, _, h => by
    simp only [GoalsAt] at h ⊢
    obtain ⟨b, kv, nv, e, hb, hkid, hr⟩ := h
    exact ⟨b, kv, nv, e, hk b _ hb, hkid, GoalsAt.keep hk gs nv hr⟩

/-- A choice's four cells. -/
def ChoiceIs (w0 w : World) (c : Choice) (vs : List Value) : Prop :=
  (c.stop = true ∧ vs = [.bool true, .pointer none, .int .i64 0, .int .i64 0]) ∨
  (c.stop = false ∧ ∃ gv, vs = [.bool false, gv, .int .i64 c.at_, .int .i64 c.ncap] ∧ GoalsAt w0 w c.goals gv)
def ChoicesAre (w0 w : World) : List Choice → List Value → Prop
  | [], vs => vs = []
  | c :: cs, vs => ∃ a b, vs = a ++ b ∧ ChoiceIs w0 w c a ∧ ChoicesAre w0 w cs b
theorem ChoiceIs.keep {w0 w x : World} (hk : KeepT TG w x) {c : Choice} {vs : List Value} (h : ChoiceIs w0 w c vs) : ChoiceIs w0 x c vs := by
  rcases h with h | ⟨h1, gv, h2, h3⟩
  · exact .inl h
  · exact .inr ⟨h1, gv, h2, h3.keep hk⟩
theorem ChoicesAre.keep {w0 w x : World} (hk : KeepT TG w x) : ∀ (cs : List Choice) (vs : List Value), ChoicesAre w0 w cs vs → ChoicesAre w0 x cs vs
  | [], _, h => h
  | _ :: cs, _, h => by
    simp only [ChoicesAre] at h ⊢
    obtain ⟨a, b, e, h1, h2⟩ := h
    exact ⟨a, b, e, h1.keep hk, ChoicesAre.keep hk cs b h2⟩
theorem ChoiceIs.len {w0 w : World} {c : Choice} {vs : List Value} (h : ChoiceIs w0 w c vs) : vs.length = 4 := by
  rcases h with ⟨_, rfl⟩ | ⟨_, gv, rfl, _⟩ <;> rfl
theorem ChoicesAre.len {w0 w : World} : ∀ (cs : List Choice) (vs : List Value), ChoicesAre w0 w cs vs → vs.length = cs.length * 4
  | [], _, h => by simp only [ChoicesAre] at h; subst h; rfl
  | c :: cs, _, h => by
    simp only [ChoicesAre] at h
    obtain ⟨a, b, rfl, h1, h2⟩ := h
    rw [List.length_append, h1.len, ChoicesAre.len cs b h2, List.length_cons]
    omega
theorem ChoicesAre.push {w0 w : World} {c : Choice} {vc : List Value} (hc : ChoiceIs w0 w c vc) : ∀ (cs : List Choice) (vs : List Value), ChoicesAre w0 w cs vs → ChoicesAre w0 w (cs ++ [c]) (vs ++ vc)
  | [], _, h => by
    simp only [ChoicesAre] at h
    subst h
    exact ⟨vc, [], by simp, hc, rfl⟩
  | _ :: cs, _, h => by
    simp only [ChoicesAre, List.cons_append] at h ⊢
    obtain ⟨a, b, rfl, h1, h2⟩ := h
    exact ⟨a, b ++ vc, by simp, h1, ChoicesAre.push hc cs b h2⟩
theorem ChoicesAre.pop {w0 w : World} {c : Choice} : ∀ (cs : List Choice) (vs : List Value), ChoicesAre w0 w (cs ++ [c]) vs → ∃ a b, vs = a ++ b ∧ ChoicesAre w0 w cs a ∧ ChoiceIs w0 w c b
  | [], vs, h => by
    simp only [List.nil_append, ChoicesAre] at h
    obtain ⟨a, b, rfl, h1, rfl⟩ := h
    exact ⟨[], a, by simp, rfl, h1⟩
  | d :: cs, vs, h => by
    simp only [List.cons_append, ChoicesAre] at h
    obtain ⟨a, b, rfl, h1, h2⟩ := h
    obtain ⟨a', b', rfl, h3, h4⟩ := ChoicesAre.pop cs b h2
    exact ⟨a ++ a', b', by simp, ⟨a, a', rfl, h1, h3⟩, h4⟩

/-- The cells of captures. -/
def capCells : List Cap → List Value
  | [] => []
  | c :: cs => [.int .i64 c.var, .int .i64 c.fr, .int .i64 c.to] ++ capCells cs
theorem capCells_append : ∀ (a b : List Cap), capCells (a ++ b) = capCells a ++ capCells b
  | [], b => rfl
  | c :: a, b => by simp only [List.cons_append, capCells, capCells_append a b, List.append_assoc]
theorem capCells_len : ∀ (a : List Cap), (capCells a).length = a.length * 3
  | [] => rfl
  | c :: a => by simp only [capCells, List.length_append, capCells_len a, List.length_cons, List.length_nil]; omega
theorem capCells_take (a : List Cap) (k : Nat) : (capCells a).take (k * 3) = capCells (a.take k) := by
  induction a generalizing k with
  | nil => simp [capCells]
  | cons c a ih =>
    cases k with
    | zero => simp [capCells]
    | succ k =>
      rw [show (k + 1) * 3 = k * 3 + 3 by omega]
      simp only [capCells, List.cons_append, List.nil_append, List.take_succ_cons, ih]

/-- The matcher's twelve cells. -/
abbrev mCells (dv : Value) (s : ByteArray) (at_ n : Nat) (cv ev hv : Value) : Array Value :=
  #[dv, .string s, .int .i64 at_, .bool false, .bool false, .bool false, .int .i64 0, .int .i64 0, .int .i64 n, cv, ev, hv]
/-- The matcher at block M, n steps in. -/
structure ImplAt (w0 w : World) (M : Nat) (dv : Value) (s : ByteArray) (n : Nat) (m : Mst) (cv ev hv : Value) (hs : List Value) : Prop where
  blk : w.heap[M]? = some (.cells (mCells dv s m.at_ n cv ev hv) TM (0, 0))
  base : w0.heap.size ≤ M
  caps : HasRow w w0.heap.size TK 3 cv m.caps.length (capCells m.caps)
  evs : HasRow w w0.heap.size TK 3 ev m.events.length (capCells m.events)
  chs : HasRow w w0.heap.size TC 4 hv m.choices.length hs
  are : ChoicesAre w0 w m.choices hs
  apart : cv.ownBlock = none ∨ cv.ownBlock ≠ ev.ownBlock
  below : Below w0.heap.size w0 w

theorem ImplAt.later {w0 w x : World} {M : Nat} {dv : Value} {s : ByteArray} {n : Nat} {m : Mst} {cv ev hv : Value} {hs : List Value} (h : ImplAt w0 w M dv s n m cv ev hv hs) (hl : Later w x) : ImplAt w0 x M dv s n m cv ev hv hs := by
  obtain ⟨h1, h2, h3, h4, h5, h6, h7, h8⟩ := h
  have hM := (Array.getElem?_eq_some_iff.1 h1).1
  exact ⟨(hl.block M hM).trans h1, h2, h3.same fun k hk => hl.block k (h3.lt k hk).2.1, h4.same fun k hk => hl.block k (h4.lt k hk).2.1, h5.same fun k hk => hl.block k (h5.lt k hk).2.1,
    h6.keep (KeepT.later hl) _ _, h7, h8.trans (Below.mono hl h8.size)⟩

end Go.Proofs.Ytndefbecoahfhaa
