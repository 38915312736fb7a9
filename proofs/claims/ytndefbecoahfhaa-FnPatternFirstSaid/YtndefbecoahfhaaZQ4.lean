/- Part of the walks that the claim stands on. -/
import Derived.Test.YtndefbecoahfhaaZQ3

/- What impl's match and execute are said with. No walk in sight. -/
namespace Go.Proofs.Ytndefbecoahfhaa
open Go.RowKit

abbrev TP : TypeId := 28

/-- What became of one goal. -/
def Did (w0 : World) (M : Nat) (dv : Value) (s : ByteArray) (n : Nat) (m : Mst) (o : Out) (e : Ending) (w' : World) : Prop :=
  match o with
  | .go gs' m' => ∃ gv cv ev hv hs, e = .returned (.tuple #[gv, .bool true, .bool false]) ∧ GoalsAt w0 w' gs' gv ∧ ImplAt w0 w' M dv s n m' cv ev hv hs
  | .fail => ∃ p cv ev hv hs, e = .returned (.tuple #[.pointer p, .bool false, .bool false]) ∧ ImplAt w0 w' M dv s n m cv ev hv hs
  | .stop => ∃ cv ev hv hs, e = .returned (.tuple #[.pointer none, .bool false, .bool true]) ∧ ImplAt w0 w' M dv s n m cv ev hv hs

theorem cells_m {x : World} {M : Nat} {dv cv ev hv : Value} {s : ByteArray} {a n : Nat} (h : x.heap[M]? = some (.cells (mCells dv s a n cv ev hv) TM (0, 0))) :
    x.cell? ⟨M, 0, none⟩ = some dv ∧ x.cell? ⟨M, 1, none⟩ = some (.string s) ∧ x.cell? ⟨M, 2, none⟩ = some (.int .i64 a) ∧ x.cell? ⟨M, 8, none⟩ = some (.int .i64 n) ∧ x.cell? ⟨M, 9, none⟩ = some cv ∧ x.cell? ⟨M, 10, none⟩ = some ev ∧ x.cell? ⟨M, 11, none⟩ = some hv :=
  ⟨cell_of_row x M 0 _ _ _ h, cell_of_row x M 1 _ _ _ h, cell_of_row x M 2 _ _ _ h, cell_of_row x M 8 _ _ _ h, cell_of_row x M 9 _ _ _ h, cell_of_row x M 10 _ _ _ h, cell_of_row x M 11 _ _ _ h⟩
theorem cells_g {x : World} {b : Nat} {v0 v1 v2 v3 v4 v5 v6 v7 v8 : Value} (h : x.heap[b]? = some (.cells #[v0, v1, v2, v3, v4, v5, v6, v7, v8] TG (0, 0))) :
    x.cell? ⟨b, 0, none⟩ = some v0 ∧ x.cell? ⟨b, 1, none⟩ = some v1 ∧ x.cell? ⟨b, 2, none⟩ = some v2 ∧ x.cell? ⟨b, 3, none⟩ = some v3 ∧ x.cell? ⟨b, 4, none⟩ = some v4 ∧ x.cell? ⟨b, 5, none⟩ = some v5 ∧ x.cell? ⟨b, 6, none⟩ = some v6 ∧ x.cell? ⟨b, 7, none⟩ = some v7 ∧ x.cell? ⟨b, 8, none⟩ = some v8 :=
  ⟨cell_of_row x b 0 _ _ _ h, cell_of_row x b 1 _ _ _ h, cell_of_row x b 2 _ _ _ h, cell_of_row x b 3 _ _ _ h, cell_of_row x b 4 _ _ _ h, cell_of_row x b 5 _ _ _ h, cell_of_row x b 6 _ _ _ h, cell_of_row x b 7 _ _ _ h, cell_of_row x b 8 _ _ _ h⟩
theorem cells_p {x : World} {b : Nat} {t : TypeId} {v0 v1 v2 v3 v4 v5 : Value} (h : x.heap[b]? = some (.cells #[v0, v1, v2, v3, v4, v5] t (0, 0))) :
    x.cell? ⟨b, 0, none⟩ = some v0 ∧ x.cell? ⟨b, 1, none⟩ = some v1 ∧ x.cell? ⟨b, 2, none⟩ = some v2 ∧ x.cell? ⟨b, 3, none⟩ = some v3 ∧ x.cell? ⟨b, 4, none⟩ = some v4 ∧ x.cell? ⟨b, 5, none⟩ = some v5 :=
  ⟨cell_of_row x b 0 _ _ _ h, cell_of_row x b 1 _ _ _ h, cell_of_row x b 2 _ _ _ h, cell_of_row x b 3 _ _ _ h, cell_of_row x b 4 _ _ _ h, cell_of_row x b 5 _ _ _ h⟩

theorem drew_alloc {w w1 : World} {o : Obj} (h : w1 = (w.alloc o).drew) : Later w w1 ∧ w1.heap[w.heap.size]? = some o := by
  subst h
  exact ⟨((Later.refl w).alloc o).drew, heap_alloc_new w o⟩
theorem drew_later {w w1 : World} (h : w1 = w.drew) : Later w w1 := by
  subst h
  exact (Later.refl w).drew
theorem Later.has {w x : World} (h : Later w x) {b : Nat} {o : Obj} (hb : w.heap[b]? = some o) : x.heap[b]? = some o :=
  (h.block b (Array.getElem?_eq_some_iff.1 hb).1).trans hb
theorem has_lt {w : World} {b : Nat} {o : Obj} (hb : w.heap[b]? = some o) : b < w.heap.size := (Array.getElem?_eq_some_iff.1 hb).1

theorem GoalsAt.later {w0 w x : World} {gs : List Goal} {v : Value} (h : GoalsAt w0 w gs v) (hl : Later w x) : GoalsAt w0 x gs v := h.keep (KeepT.later hl)
theorem GoalsAt.push {w0 w : World} {gs : List Goal} {nv : Value} (h : GoalsAt w0 w gs nv) (g : Goal) {kv : Value} (hk : KidsIn w0 g.p kv) : GoalsAt w0 (w.alloc (.cells (goalCells g kv nv) TG)) (g :: gs) (.pointer (some ⟨w.heap.size, 0, none⟩)) :=
  ⟨w.heap.size, kv, nv, rfl, heap_alloc_new w _, hk, h.later ((Later.refl w).alloc _)⟩
theorem GoalsAt.pushAt {w0 w : World} {gs : List Goal} {nv : Value} (h : GoalsAt w0 w gs nv) (g : Goal) {kv : Value} (hk : KidsIn w0 g.p kv) (B : Nat) (hB : B = w.heap.size) : GoalsAt w0 (w.alloc (.cells (goalCells g kv nv) TG)) (g :: gs) (.pointer (some ⟨B, 0, none⟩)) := by
  subst hB
  exact h.push g hk
/-- The same, the goal found in memory. -/
theorem GoalsAt.here {w0 w : World} {gs : List Goal} {nv : Value} (h : GoalsAt w0 w gs nv) (g : Goal) {kv : Value} (hk : KidsIn w0 g.p kv) {b : Nat} (hb : w.heap[b]? = some (.cells (goalCells g kv nv) TG (0, 0))) : GoalsAt w0 w (g :: gs) (.pointer (some ⟨b, 0, none⟩)) :=
  ⟨b, kv, nv, rfl, hb, hk, h⟩

/-- A kid's six cells. -/
theorem kid_cells {w0 x : World} {kids : List Pat} {A : Option Addr} (h : RowIn w0 A 0 kids) {j : Nat} (hj : j < kids.length) (hb : Below w0.heap.size w0 x) :
    ∃ g kA kc, A = some ⟨g, 0, none⟩ ∧ KidsIn w0 kids[j] (.slice kA kids[j].kids.length kc) ∧ ElemAt x g j kids[j] (.slice kA kids[j].kids.length kc) := by
  obtain ⟨g, kv, e, hg, he, hk⟩ := rowOf w0 kids h hj
  obtain ⟨kA, kc, rfl, _, _⟩ := hk.form
  exact ⟨g, kA, kc, e, hk, he.later hg hb⟩
theorem ElemAt.below {w x : World} {g j : Nat} {p : Pat} {kv : Value} (h : ElemAt w g j p kv) (hl : Later w x) : ElemAt x g j p kv := by
  refine h.later ?_ hl
  have h1 := h.1
  rcases Nat.lt_or_ge g w.heap.size with h2 | h2
  · exact h2
  · exfalso
    have : w.heap[g]? = none := Array.getElem?_eq_none h2
    simp [World.cell?, this] at h1

theorem did_go {w0 w' : World} {M : Nat} {dv : Value} {s : ByteArray} {n : Nat} {m : Mst} {gs' : List Goal} {m' : Mst} {gv cv ev hv : Value} {hs : List Value} (hg : GoalsAt w0 w' gs' gv) (hi : ImplAt w0 w' M dv s n m' cv ev hv hs) :
    Did w0 M dv s n m (.go gs' m') (.returned (.tuple #[gv, .bool true, .bool false])) w' := ⟨gv, cv, ev, hv, hs, rfl, hg, hi⟩
theorem did_fail {w0 w' : World} {M : Nat} {dv : Value} {s : ByteArray} {n : Nat} {m : Mst} {p : Option Addr} {cv ev hv : Value} {hs : List Value} (hi : ImplAt w0 w' M dv s n m cv ev hv hs) :
    Did w0 M dv s n m .fail (.returned (.tuple #[.pointer p, .bool false, .bool false])) w' := ⟨p, cv, ev, hv, hs, rfl, hi⟩
theorem did_stop {w0 w' : World} {M : Nat} {dv : Value} {s : ByteArray} {n : Nat} {m : Mst} {cv ev hv : Value} {hs : List Value} (hi : ImplAt w0 w' M dv s n m cv ev hv hs) :
    Did w0 M dv s n m .stop (.returned (.tuple #[.pointer none, .bool false, .bool true])) w' := ⟨cv, ev, hv, hs, rfl, hi⟩


theorem kids_row {w0 : World} {o : Int} {t : ByteArray} {nu lo hi : Int} {ks : List Pat} {A : Option Addr} {k c : Nat} (h : KidsIn w0 (.mk o t nu lo hi ks) (.slice A k c)) : RowIn w0 A 0 ks := by
  obtain ⟨A', c', e, _, hr⟩ := h.form
  cases e
  exact hr

theorem choose_at {w0 w : World} {M : Nat} {dv : Value} {s : ByteArray} {n : Nat} {m : Mst} {cv ev hv : Value} {hs : List Value} {gs : List Goal} {gv : Value} (at_ : Nat)
    (h : ImplAt w0 w M dv s n m cv ev hv hs) (hg : GoalsAt w0 w gs gv) (hn : m.choices.length ≤ 5000) (z : Int) (hz : z = (at_ : Int)) :
    Calls Try.prog 91 #[.pointer (some ⟨M, 0, none⟩), gv, .int .i64 z] w fun e w' => e = .returned (.tuple #[]) ∧ ∃ hv' hs', ImplAt w0 w' M dv s n (m.choose gs at_) cv ev hv' hs' ∧ KeepT TG w w' := by
  subst hz
  exact (choose_any w0 w M dv s n m cv ev hv hs gs gv at_ h hg hn).mono fun e w' ⟨he, hv', hs', h1, h2⟩ => ⟨he, hv', hs', h1, h2 TG (by decide) (by decide)⟩
theorem choose_at2 {w0 w : World} {M : Nat} {dv : Value} {s : ByteArray} {n : Nat} {m : Mst} {cv ev hv : Value} {hs : List Value} {gs : List Goal} {gv : Value} (at_ : Nat)
    (h : ImplAt w0 w M dv s n m cv ev hv hs) (hg : GoalsAt w0 w gs gv) (hn : m.choices.length ≤ 5000) (z : Int) (hz : z = (at_ : Int)) :
    Calls Try.prog 91 #[.pointer (some ⟨M, 0, none⟩), gv, .int .i64 z] w fun e w' => e = .returned (.tuple #[]) ∧ ∃ hv' hs', ImplAt w0 w' M dv s n (m.choose gs at_) cv ev hv' hs' ∧ KeepT TG w w' ∧ KeepT TP w w' := by
  subst hz
  exact (choose_any w0 w M dv s n m cv ev hv hs gs gv at_ h hg hn).mono fun e w' ⟨he, hv', hs', h1, h2⟩ => ⟨he, hv', hs', h1, h2 TG (by decide) (by decide), h2 TP (by decide) (by decide)⟩

section
variable {text : ByteArray} {num lo hi : Int} {A : Option Addr} {l c : Nat} {s : ByteArray} {p : Nat} {w : World} {op : Int}
theorem simple_some {z : Nat} (h : isSimple op) (hok : okWords op text num) (hs : s.size ≤ 120) (hp : p ≤ s.size) (hz : oneEnd op text num lo hi s p = some z) :
    Calls Try.prog 78 #[patV op text num lo hi (.slice A l c), .string s, .int .i64 p] w fun e w' => e = .returned (.tuple #[.int .i64 z, .bool true, .bool true]) ∧ Below w.heap.size w w' :=
  (simpleEnding_any text num lo hi A l c s p w op h hok hs hp).mono fun e w' ⟨x, he, hx, hb⟩ => ⟨by rw [he, hz, hx z hz]; rfl, hb⟩
theorem simple_none (h : isSimple op) (hok : okWords op text num) (hs : s.size ≤ 120) (hp : p ≤ s.size) (hz : oneEnd op text num lo hi s p = none) :
    Calls Try.prog 78 #[patV op text num lo hi (.slice A l c), .string s, .int .i64 p] w fun e w' => ∃ x, e = .returned (.tuple #[.int .i64 x, .bool false, .bool true]) ∧ Below w.heap.size w w' :=
  (simpleEnding_any text num lo hi A l c s p w op h hok hs hp).mono fun e w' ⟨x, he, _, hb⟩ => ⟨x, by rw [he, hz]; rfl, hb⟩
end

theorem cells_three (w : World) (a b c : Value) (t : TypeId) : ∀ j u, [a, b, c][j]? = some u → (w.alloc (.cells #[a, b, c] t)).cell? ((⟨w.heap.size, 0, none⟩ : Addr).add j) = some u := by
  intro j u hj
  match j, hj with
  | 0, hj => simp at hj; subst hj; simp [Addr.add]
  | 1, hj => simp at hj; subst hj; simp [Addr.add]
  | 2, hj => simp at hj; subst hj; simp [Addr.add]
  | j + 3, hj => simp at hj
theorem infoK : (Try.prog.info? TK).map (fun i => (i.zero, i.size, i.bytes)) = some (some (.agg #[.int .i64 0, .int .i64 0, .int .i64 0]), 3, 24) := by kernel_rfl

/-- A row that was grown is apart from one that stayed. -/
theorem apart_new {w : World} {base : Nat} {e : TypeId} {size k : Nat} {cv ev v' : Value} {xs : List Value} (hc : HasRow w base e size cv k xs) (h : cv.ownBlock = none ∨ cv.ownBlock ≠ ev.ownBlock) (hv : v'.ownBlock = ev.ownBlock ∨ v'.ownBlock = some w.heap.size) : cv.ownBlock = none ∨ cv.ownBlock ≠ v'.ownBlock := by
  rcases h with h | h
  · exact .inl h
  · refine .inr ?_
    rcases hv with hv | hv
    · rw [hv]; exact h
    · intro e
      rw [hv] at e
      have := (hc.lt _ e).2.1
      omega
/-- The same for the events, where the captures were grown. -/
theorem apart_new' {w : World} {base : Nat} {e : TypeId} {size k : Nat} {cv ev v' : Value} {xs : List Value} (hc : HasRow w base e size ev k xs) (h : cv.ownBlock = none ∨ cv.ownBlock ≠ ev.ownBlock) (hv : v'.ownBlock = cv.ownBlock ∨ v'.ownBlock = some w.heap.size) : v'.ownBlock = none ∨ v'.ownBlock ≠ ev.ownBlock := by
  rcases hv with hv | hv
  · rw [hv]; exact h
  · refine .inr fun e => ?_
    rw [hv] at e
    have := (hc.lt _ e.symm).2.1
    omega

end Go.Proofs.Ytndefbecoahfhaa

/- impl's match. Printed by gen_match.py. -/
namespace Go.Proofs.Ytndefbecoahfhaa
open Go.RowKit

set_option maxRecDepth 100000 in
set_option maxHeartbeats 1000000 in
theorem match_cat {w0 w : World} {M : Nat} {dv : Value} {s : ByteArray} {n : Nat} {m : Mst} {cv ev hv : Value} {hs : List Value} {text : ByteArray} {num lo hi : Int} {k0 k1 : Pat} {A : Option Addr} {c : Nat} {fr : Int} {nv : Value} {gs : List Goal} {b : Nat} 
    (h : ImplAt w0 w M dv s n m cv ev hv hs) (hb : w.heap[b]? = some (.cells #[.int .i64 0, .int .i64 14, .string text, .int .i64 num, .int .i64 lo, .int .i64 hi, .slice A 2 c, .int .i64 fr, nv] TG (0, 0)))
    (hkid : KidsIn w0 (.mk 14 text num lo hi [k0, k1]) (.slice A 2 c)) (hnv : GoalsAt w0 w gs nv) :
    Calls Try.prog 68 #[.pointer (some ⟨M, 0, none⟩), .pointer (some ⟨b, 0, none⟩)] w (Did w0 M dv s n m (.go (⟨0, k0, 0⟩ :: ⟨0, k1, 0⟩ :: gs) m)) := by
  have hblk := h.blk
  obtain ⟨np, rfl⟩ := hnv.ptr
  obtain ⟨cA, cc, rfl, _, _⟩ := h.caps.form
  obtain ⟨eA, ec, rfl, _, _⟩ := h.evs.form
  obtain ⟨hA, hc, rfl, _, _⟩ := h.chs.form
  obtain ⟨b0, b1, b2, b3, b4, b5, b6, b7, b8⟩ := cells_g hb
  have HI := Lib.hid h
  have HN := Lib.hid hnv
  have HB := Lib.hid hb
  have HR := Lib.hid (kids_row hkid)
  have HKID := Lib.hid hkid
  have hbel := h.below.size
  have hMb : ¬ M = b := ne_of_type hblk hb (by decide)
  have hbM : ¬ b = M := fun e => hMb e.symm
  clear h hnv hb hkid
  go_enter Try.func68, Try.ntmps68
  go_wp2_with fail
  clear b0 b1 b2 b3 b4 b5 b6 b7 b8
  -- region 2: 17 operations, the last []
  refine wpU_begin [] [] (by kernel_rfl) (fun w1 hw1 => ?_)
  obtain ⟨hl1, hp1⟩ := drew_alloc hw1
  have HP1 := Lib.hid hp1
  have HM1 := Lib.hid (hl1.has hblk)
  have HL1 := Lib.hid hl1
  clear hw1 hl1 hp1 hblk
  refine wpU_take 0 (some 16) (v := ?_) rfl rfl (by kernel_rfl) (fun _ _ _ h => h) rfl (fun x hx => ?_) ?_
  rotate_left 1
  · obtain ⟨m0, m1, m2, m8, m9, m10, m11⟩ := cells_m (hx.has HM1.out); obtain ⟨p0, p1, p2, p3, p4, p5⟩ := cells_p (hx.has HP1.out); go_simp; first | done | with_reducible rfl | rw [if_neg (by omega)] | rw [if_pos (by omega)]
  simp only [Act.put, nA, nB, nC]
  refine wpU_take 1 (some 17) (v := ?_) rfl rfl (by kernel_rfl) (fun _ _ _ h => h) rfl (fun x hx => ?_) ?_
  rotate_left 1
  · go_simp; first | done | with_reducible rfl | rw [if_neg (by omega)] | rw [if_pos (by omega)]
  simp only [Act.put, nA, nB, nC]
  refine wpU_take 2 (some 18) (v := ?_) rfl rfl (by kernel_rfl) (fun _ _ _ h => h) rfl (fun x hx => ?_) ?_
  rotate_left 1
  · go_simp; first | done | with_reducible rfl | rw [if_neg (by omega)] | rw [if_pos (by omega)]
  simp only [Act.put, nA, nB, nC]
  refine wpU_take 3 (some 19) (v := ?_) rfl rfl (by kernel_rfl) (fun _ _ _ h => h) rfl (fun x hx => ?_) ?_
  rotate_left 1
  · go_simp; first | done | with_reducible rfl | rw [if_neg (by omega)] | rw [if_pos (by omega)]
  simp only [Act.put, nA, nB, nC]
  refine wpU_take 4 (some 20) (v := ?_) rfl rfl (by kernel_rfl) (fun _ _ _ h => h) rfl (fun x hx => ?_) ?_
  rotate_left 1
  · obtain ⟨m0, m1, m2, m8, m9, m10, m11⟩ := cells_m (hx.has HM1.out); obtain ⟨p0, p1, p2, p3, p4, p5⟩ := cells_p (hx.has HP1.out); go_simp; first | done | with_reducible rfl | rw [if_neg (by omega)] | rw [if_pos (by omega)]
  simp only [Act.put, nA, nB, nC]
  refine wpU_take 5 (some 21) (v := ?_) rfl rfl (by kernel_rfl) (fun _ _ _ h => h) rfl (fun x hx => ?_) ?_
  rotate_left 1
  · go_simp; first | done | with_reducible rfl | rw [if_neg (by omega)] | rw [if_pos (by omega)]
  simp only [Act.put, nA, nB, nC]
  refine wpU_take 6 (some 22) (v := ?_) rfl rfl (by kernel_rfl) (fun _ _ _ h => h) rfl (fun x hx => ?_) ?_
  rotate_left 1
  · go_simp; first | done | with_reducible rfl | rw [if_neg (by omega)] | rw [if_pos (by omega)]
  simp only [Act.put, nA, nB, nC]
  refine wpU_take 7 (some 23) (v := ?_) rfl rfl (by kernel_rfl) (fun _ _ _ h => h) rfl (fun x hx => ?_) ?_
  rotate_left 1
  · go_simp; first | done | with_reducible rfl | rw [if_neg (by omega)] | rw [if_pos (by omega)]
  simp only [Act.put, nA, nB, nC]
  refine wpU_take 8 (some 24) (v := ?_) rfl rfl (by kernel_rfl) (fun _ _ _ h => h) rfl (fun x hx => ?_) ?_
  rotate_left 1
  · obtain ⟨m0, m1, m2, m8, m9, m10, m11⟩ := cells_m (hx.has HM1.out); obtain ⟨p0, p1, p2, p3, p4, p5⟩ := cells_p (hx.has HP1.out); go_simp; first | done | with_reducible rfl | rw [if_neg (by omega)] | rw [if_pos (by omega)]
  simp only [Act.put, nA, nB, nC]
  refine wpU_step 9 (by kernel_rfl) rfl rfl ?_  -- call value (Go.Operand.func 78)
  go_wp2_with fail
  refine (simple_else text num lo hi A 2 c s m.at_ _ 14 (by omega)).mono ?_
  rintro e w2 ⟨rfl, hb2⟩
  go_wp2_with fail
  refine ⟨hb2, ?_⟩
  have HI2 := Lib.hid (HI.out.later (HL1.out.trans hb2))
  have HN2 := Lib.hid (HN.out.later (HL1.out.trans hb2))
  have HB2 := Lib.hid ((HL1.out.trans hb2).has HB.out)
  have HP2 := Lib.hid (Later.has hb2 HP1.out)
  clear HP1 HM1 HI HN HB HL1 hb2
  refine wpU_take 10 (some 15) (v := ?_) rfl rfl (by kernel_rfl) (fun _ _ _ h => h) rfl (fun x hx => ?_) ?_
  rotate_left 1
  · go_simp; first | done | with_reducible rfl | rw [if_neg (by omega)] | rw [if_pos (by omega)]
  simp only [Act.put, nA, nB, nC]
  refine wpU_take 11 (some 26) (v := ?_) rfl rfl (by kernel_rfl) (fun _ _ _ h => h) rfl (fun x hx => ?_) ?_
  rotate_left 1
  · go_simp; first | done | with_reducible rfl | rw [if_neg (by omega)] | rw [if_pos (by omega)]
  simp only [Act.put, nA, nB, nC]
  refine wpU_take 12 (some 27) (v := ?_) rfl rfl (by kernel_rfl) (fun _ _ _ h => h) rfl (fun x hx => ?_) ?_
  rotate_left 1
  · go_simp; first | done | with_reducible rfl | rw [if_neg (by omega)] | rw [if_pos (by omega)]
  simp only [Act.put, nA, nB, nC]
  refine wpU_take 13 (some 28) (v := ?_) rfl rfl (by kernel_rfl) (fun _ _ _ h => h) rfl (fun x hx => ?_) ?_
  rotate_left 1
  · go_simp; first | done | with_reducible rfl | rw [if_neg (by omega)] | rw [if_pos (by omega)]
  simp only [Act.put, nA, nB, nC]
  refine wpU_take 14 (some 8) (v := ?_) rfl rfl (by kernel_rfl) (fun _ _ _ h => h) rfl (fun x hx => ?_) ?_
  rotate_left 1
  · go_simp; first | done | with_reducible rfl | rw [if_neg (by omega)] | rw [if_pos (by omega)]
  simp only [Act.put, nA, nB, nC]
  refine wpU_take 15 (some 9) (v := ?_) rfl rfl (by kernel_rfl) (fun _ _ _ h => h) rfl (fun x hx => ?_) ?_
  rotate_left 1
  · go_simp; first | done | with_reducible rfl | rw [if_neg (by omega)] | rw [if_pos (by omega)]
  simp only [Act.put, nA, nB, nC]
  refine wpU_take 16 (some 10) (v := ?_) rfl rfl (by kernel_rfl) (fun _ _ _ h => h) rfl (fun x hx => ?_) ?_
  rotate_left 1
  · go_simp; first | done | with_reducible rfl | rw [if_neg (by omega)] | rw [if_pos (by omega)]
  simp only [Act.put, nA, nB, nC]
  refine wpU_last [] (by kernel_rfl) rfl rfl ?_
  obtain ⟨m0, m1, m2, m8, m9, m10, m11⟩ := cells_m HI2.out.blk
  obtain ⟨p0, p1, p2, p3, p4, p5⟩ := cells_p HP2.out
  obtain ⟨b0, b1, b2, b3, b4, b5, b6, b7, b8⟩ := cells_g HB2.out
  go_wp2_with fail
  clear m0 m1 m2 m8 m9 m10 m11 p0 p1 p2 p3 p4 p5 b0 b1 b2 b3 b4 b5 b6 b7 b8
  -- region 16: 19 operations, the last []
  refine wpU_begin [] [] (by kernel_rfl) (fun w3 hw3 => ?_)
  have hl3 := drew_later hw3
  have HI3 := Lib.hid (HI2.out.later hl3)
  have HN3 := Lib.hid (HN2.out.later hl3)
  have HB3 := Lib.hid (hl3.has HB2.out)
  have HP3 := Lib.hid (hl3.has HP2.out)
  clear hw3 hl3 HI2 HN2 HB2 HP2
  obtain ⟨g0, kA0, kc0, hA0, hk0, he0⟩ := kid_cells HR.out (j := 0) (by simp) HI3.out.below
  simp only [List.getElem_cons_zero] at hk0 he0
  have HK0 := Lib.hid hk0
  have HE0 := Lib.hid he0
  clear hk0 he0
  subst hA0
  obtain ⟨g1, kA1, kc1, hA1, hk1, he1⟩ := kid_cells HR.out (j := 1) (by simp) HI3.out.below
  simp only [List.getElem_cons_succ, List.getElem_cons_zero] at hk1 he1
  have HK1 := Lib.hid hk1
  have HE1 := Lib.hid he1
  clear hk1 he1
  obtain rfl : g0 = g1 := by cases hA1; rfl
  clear hA1
  refine wpU_take 0 (some 87) (v := ?_) rfl rfl (by kernel_rfl) (fun _ _ _ h => h) rfl (fun x hx => ?_) ?_
  rotate_left 1
  · go_simp; first | done | with_reducible rfl | rw [if_neg (by omega)] | rw [if_pos (by omega)]
  simp only [Act.put, nA, nB, nC]
  refine wpU_take 1 (some 88) (v := ?_) rfl rfl (by kernel_rfl) (fun _ _ _ h => h) rfl (fun x hx => ?_) ?_
  rotate_left 1
  · obtain ⟨m0, m1, m2, m8, m9, m10, m11⟩ := cells_m (hx.has HI3.out.blk); obtain ⟨p0, p1, p2, p3, p4, p5⟩ := cells_p (hx.has HP3.out); obtain ⟨b0, b1, b2, b3, b4, b5, b6, b7, b8⟩ := cells_g (hx.has HB3.out); obtain ⟨e00, e01, e02, e03, e04, e05⟩ := HE0.out.below hx; simp only [Nat.zero_mul, Nat.zero_add] at e00 e01 e02 e03 e04 e05; obtain ⟨e10, e11, e12, e13, e14, e15⟩ := HE1.out.below hx; simp only [Nat.one_mul, Nat.reduceAdd] at e10 e11 e12 e13 e14 e15; go_simp; first | done | with_reducible rfl | rw [if_neg (by omega)] | rw [if_pos (by omega)]
  simp only [Act.put, nA, nB, nC]
  refine wpU_take 2 (some 89) (v := ?_) rfl rfl (by kernel_rfl) (fun _ _ _ h => h) rfl (fun x hx => ?_) ?_
  rotate_left 1
  · go_simp; first | done | with_reducible rfl | rw [if_neg (by omega)] | rw [if_pos (by omega)]
  simp only [Act.put, nA, nB, nC]
  refine wpU_take 3 (some 90) (v := ?_) rfl rfl (by kernel_rfl) (fun _ _ _ h => h) rfl (fun x hx => ?_) ?_
  rotate_left 1
  · obtain ⟨m0, m1, m2, m8, m9, m10, m11⟩ := cells_m (hx.has HI3.out.blk); obtain ⟨p0, p1, p2, p3, p4, p5⟩ := cells_p (hx.has HP3.out); obtain ⟨b0, b1, b2, b3, b4, b5, b6, b7, b8⟩ := cells_g (hx.has HB3.out); obtain ⟨e00, e01, e02, e03, e04, e05⟩ := HE0.out.below hx; simp only [Nat.zero_mul, Nat.zero_add] at e00 e01 e02 e03 e04 e05; obtain ⟨e10, e11, e12, e13, e14, e15⟩ := HE1.out.below hx; simp only [Nat.one_mul, Nat.reduceAdd] at e10 e11 e12 e13 e14 e15; go_simp; first | done | with_reducible rfl | rw [if_neg (by omega)] | rw [if_pos (by omega)]
  simp only [Act.put, nA, nB, nC]
  refine wpU_take 4 (some 91) (v := ?_) rfl rfl (by kernel_rfl) (fun _ _ _ h => h) rfl (fun x hx => ?_) ?_
  rotate_left 1
  · go_simp; first | done | with_reducible rfl | rw [if_neg (by omega)] | rw [if_pos (by omega)]
  simp only [Act.put, nA, nB, nC]
  refine wpU_take 5 (some 92) (v := ?_) rfl rfl (by kernel_rfl) (fun _ _ _ h => h) rfl (fun x hx => ?_) ?_
  rotate_left 1
  · obtain ⟨m0, m1, m2, m8, m9, m10, m11⟩ := cells_m (hx.has HI3.out.blk); obtain ⟨p0, p1, p2, p3, p4, p5⟩ := cells_p (hx.has HP3.out); obtain ⟨b0, b1, b2, b3, b4, b5, b6, b7, b8⟩ := cells_g (hx.has HB3.out); obtain ⟨e00, e01, e02, e03, e04, e05⟩ := HE0.out.below hx; simp only [Nat.zero_mul, Nat.zero_add] at e00 e01 e02 e03 e04 e05; obtain ⟨e10, e11, e12, e13, e14, e15⟩ := HE1.out.below hx; simp only [Nat.one_mul, Nat.reduceAdd] at e10 e11 e12 e13 e14 e15; go_simp; first | done | with_reducible rfl | rw [if_neg (by omega)] | rw [if_pos (by omega)]
  simp only [Act.put, nA, nB, nC]
  refine wpU_take 6 (some 93) (v := ?_) rfl rfl (by kernel_rfl) (fun _ _ _ h => h) rfl (fun x hx => ?_) ?_
  rotate_left 1
  · go_simp; first | done | with_reducible rfl | rw [if_neg (by omega)] | rw [if_pos (by omega)]
  simp only [Act.put, nA, nB, nC]
  refine wpU_take 7 (some 94) (v := ?_) rfl rfl (by kernel_rfl) (fun _ _ _ h => h) rfl (fun x hx => ?_) ?_
  rotate_left 1
  · obtain ⟨m0, m1, m2, m8, m9, m10, m11⟩ := cells_m (hx.has HI3.out.blk); obtain ⟨p0, p1, p2, p3, p4, p5⟩ := cells_p (hx.has HP3.out); obtain ⟨b0, b1, b2, b3, b4, b5, b6, b7, b8⟩ := cells_g (hx.has HB3.out); obtain ⟨e00, e01, e02, e03, e04, e05⟩ := HE0.out.below hx; simp only [Nat.zero_mul, Nat.zero_add] at e00 e01 e02 e03 e04 e05; obtain ⟨e10, e11, e12, e13, e14, e15⟩ := HE1.out.below hx; simp only [Nat.one_mul, Nat.reduceAdd] at e10 e11 e12 e13 e14 e15; go_simp; first | done | with_reducible rfl | rw [if_neg (by omega)] | rw [if_pos (by omega)]
  simp only [Act.put, nA, nB, nC]
  refine wpU_take 8 (some 95) (v := ?_) rfl rfl (by kernel_rfl) (fun _ _ _ h => h) rfl (fun x hx => ?_) ?_
  rotate_left 1
  · go_simp; first | done | with_reducible rfl | rw [if_neg (by omega)] | rw [if_pos (by omega)]
  simp only [Act.put, nA, nB, nC]
  refine wpU_take 9 (some 96) (v := ?_) rfl rfl (by kernel_rfl) (fun _ _ _ h => h) rfl (fun x hx => ?_) ?_
  rotate_left 1
  · go_simp; first | done | with_reducible rfl | rw [if_neg (by omega)] | rw [if_pos (by omega)]
  simp only [Act.put, nA, nB, nC]
  refine wpU_take 10 (some 97) (v := ?_) rfl rfl (by kernel_rfl) (fun _ _ _ h => h) rfl (fun x hx => ?_) ?_
  rotate_left 1
  · go_simp; first | done | with_reducible rfl | rw [if_neg (by omega)] | rw [if_pos (by omega)]
  simp only [Act.put, nA, nB, nC]
  refine wpU_take 11 (some 98) (v := ?_) rfl rfl (by kernel_rfl) (fun _ _ _ h => h) rfl (fun x hx => ?_) ?_
  rotate_left 1
  · obtain ⟨m0, m1, m2, m8, m9, m10, m11⟩ := cells_m (hx.has HI3.out.blk); obtain ⟨p0, p1, p2, p3, p4, p5⟩ := cells_p (hx.has HP3.out); obtain ⟨b0, b1, b2, b3, b4, b5, b6, b7, b8⟩ := cells_g (hx.has HB3.out); obtain ⟨e00, e01, e02, e03, e04, e05⟩ := HE0.out.below hx; simp only [Nat.zero_mul, Nat.zero_add] at e00 e01 e02 e03 e04 e05; obtain ⟨e10, e11, e12, e13, e14, e15⟩ := HE1.out.below hx; simp only [Nat.one_mul, Nat.reduceAdd] at e10 e11 e12 e13 e14 e15; go_simp; first | done | with_reducible rfl | rw [if_neg (by omega)] | rw [if_pos (by omega)]
  simp only [Act.put, nA, nB, nC]
  refine wpU_take 12 (some 99) (v := ?_) rfl rfl (by kernel_rfl) (fun _ _ _ h => h) rfl (fun x hx => ?_) ?_
  rotate_left 1
  · go_simp; first | done | with_reducible rfl | rw [if_neg (by omega)] | rw [if_pos (by omega)]
  simp only [Act.put, nA, nB, nC]
  refine wpU_step 13 (by kernel_rfl) rfl rfl ?_  -- box 
  go_wp2_with fail
  refine ⟨(Later.refl _).alloc _, ?_⟩
  refine wpU_take 14 (some 101) (v := ?_) rfl rfl (by kernel_rfl) (fun _ _ _ h => h) rfl (fun x hx => ?_) ?_
  rotate_left 1
  · go_simp; first | done | with_reducible rfl | rw [if_neg (by omega)] | rw [if_pos (by omega)]
  simp only [Act.put, nA, nB, nC]
  refine wpU_step 15 (by kernel_rfl) rfl rfl ?_  -- box 
  go_wp2_with fail
  refine ⟨(Later.refl _).alloc _, ?_⟩
  refine wpU_take 16 (some 4) (v := ?_) rfl rfl (by kernel_rfl) (fun _ _ _ h => h) rfl (fun x hx => ?_) ?_
  rotate_left 1
  · go_simp; first | done | with_reducible rfl | rw [if_neg (by omega)] | rw [if_pos (by omega)]
  simp only [Act.put, nA, nB, nC]
  refine wpU_take 17 (some 5) (v := ?_) rfl rfl (by kernel_rfl) (fun _ _ _ h => h) rfl (fun x hx => ?_) ?_
  rotate_left 1
  · go_simp; first | done | with_reducible rfl | rw [if_neg (by omega)] | rw [if_pos (by omega)]
  simp only [Act.put, nA, nB, nC]
  refine wpU_take 18 (some 6) (v := ?_) rfl rfl (by kernel_rfl) (fun _ _ _ h => h) rfl (fun x hx => ?_) ?_
  rotate_left 1
  · go_simp; first | done | with_reducible rfl | rw [if_neg (by omega)] | rw [if_pos (by omega)]
  simp only [Act.put, nA, nB, nC]
  refine wpU_last [] (by kernel_rfl) rfl rfl ?_
  go_wp2_with fail
  go_ret3
  exact did_go (gv := .pointer (some ⟨w3.heap.size + 1, 0, none⟩)) ((HN3.out.push ⟨0, k1, 0⟩ HK1.out).pushAt ⟨0, k0, 0⟩ HK0.out _ (by simp)) (HI3.out.later (((Later.refl _).alloc _).alloc _))

set_option maxRecDepth 100000 in
set_option maxHeartbeats 1000000 in
theorem match_assign {w0 w : World} {M : Nat} {dv : Value} {s : ByteArray} {n : Nat} {m : Mst} {cv ev hv : Value} {hs : List Value} {text : ByteArray} {num lo hi : Int} {k0 : Pat} {A : Option Addr} {c : Nat} {fr : Int} {nv : Value} {gs : List Goal} {b : Nat} 
    (h : ImplAt w0 w M dv s n m cv ev hv hs) (hb : w.heap[b]? = some (.cells #[.int .i64 0, .int .i64 16, .string text, .int .i64 num, .int .i64 lo, .int .i64 hi, .slice A 1 c, .int .i64 fr, nv] TG (0, 0)))
    (hkid : KidsIn w0 (.mk 16 text num lo hi [k0]) (.slice A 1 c)) (hnv : GoalsAt w0 w gs nv) :
    Calls Try.prog 68 #[.pointer (some ⟨M, 0, none⟩), .pointer (some ⟨b, 0, none⟩)] w (Did w0 M dv s n m (.go (⟨0, k0, 0⟩ :: ⟨1, .mk 16 text num lo hi [k0], m.at_⟩ :: gs) m)) := by
  have hblk := h.blk
  obtain ⟨np, rfl⟩ := hnv.ptr
  obtain ⟨cA, cc, rfl, _, _⟩ := h.caps.form
  obtain ⟨eA, ec, rfl, _, _⟩ := h.evs.form
  obtain ⟨hA, hc, rfl, _, _⟩ := h.chs.form
  obtain ⟨b0, b1, b2, b3, b4, b5, b6, b7, b8⟩ := cells_g hb
  have HI := Lib.hid h
  have HN := Lib.hid hnv
  have HB := Lib.hid hb
  have HR := Lib.hid (kids_row hkid)
  have HKID := Lib.hid hkid
  have hbel := h.below.size
  have hMb : ¬ M = b := ne_of_type hblk hb (by decide)
  have hbM : ¬ b = M := fun e => hMb e.symm
  clear h hnv hb hkid
  go_enter Try.func68, Try.ntmps68
  go_wp2_with fail
  clear b0 b1 b2 b3 b4 b5 b6 b7 b8
  -- region 2: 17 operations, the last []
  refine wpU_begin [] [] (by kernel_rfl) (fun w1 hw1 => ?_)
  obtain ⟨hl1, hp1⟩ := drew_alloc hw1
  have HP1 := Lib.hid hp1
  have HM1 := Lib.hid (hl1.has hblk)
  have HL1 := Lib.hid hl1
  clear hw1 hl1 hp1 hblk
  refine wpU_take 0 (some 16) (v := ?_) rfl rfl (by kernel_rfl) (fun _ _ _ h => h) rfl (fun x hx => ?_) ?_
  rotate_left 1
  · obtain ⟨m0, m1, m2, m8, m9, m10, m11⟩ := cells_m (hx.has HM1.out); obtain ⟨p0, p1, p2, p3, p4, p5⟩ := cells_p (hx.has HP1.out); go_simp; first | done | with_reducible rfl | rw [if_neg (by omega)] | rw [if_pos (by omega)]
  simp only [Act.put, nA, nB, nC]
  refine wpU_take 1 (some 17) (v := ?_) rfl rfl (by kernel_rfl) (fun _ _ _ h => h) rfl (fun x hx => ?_) ?_
  rotate_left 1
  · go_simp; first | done | with_reducible rfl | rw [if_neg (by omega)] | rw [if_pos (by omega)]
  simp only [Act.put, nA, nB, nC]
  refine wpU_take 2 (some 18) (v := ?_) rfl rfl (by kernel_rfl) (fun _ _ _ h => h) rfl (fun x hx => ?_) ?_
  rotate_left 1
  · go_simp; first | done | with_reducible rfl | rw [if_neg (by omega)] | rw [if_pos (by omega)]
  simp only [Act.put, nA, nB, nC]
  refine wpU_take 3 (some 19) (v := ?_) rfl rfl (by kernel_rfl) (fun _ _ _ h => h) rfl (fun x hx => ?_) ?_
  rotate_left 1
  · go_simp; first | done | with_reducible rfl | rw [if_neg (by omega)] | rw [if_pos (by omega)]
  simp only [Act.put, nA, nB, nC]
  refine wpU_take 4 (some 20) (v := ?_) rfl rfl (by kernel_rfl) (fun _ _ _ h => h) rfl (fun x hx => ?_) ?_
  rotate_left 1
  · obtain ⟨m0, m1, m2, m8, m9, m10, m11⟩ := cells_m (hx.has HM1.out); obtain ⟨p0, p1, p2, p3, p4, p5⟩ := cells_p (hx.has HP1.out); go_simp; first | done | with_reducible rfl | rw [if_neg (by omega)] | rw [if_pos (by omega)]
  simp only [Act.put, nA, nB, nC]
  refine wpU_take 5 (some 21) (v := ?_) rfl rfl (by kernel_rfl) (fun _ _ _ h => h) rfl (fun x hx => ?_) ?_
  rotate_left 1
  · go_simp; first | done | with_reducible rfl | rw [if_neg (by omega)] | rw [if_pos (by omega)]
  simp only [Act.put, nA, nB, nC]
  refine wpU_take 6 (some 22) (v := ?_) rfl rfl (by kernel_rfl) (fun _ _ _ h => h) rfl (fun x hx => ?_) ?_
  rotate_left 1
  · go_simp; first | done | with_reducible rfl | rw [if_neg (by omega)] | rw [if_pos (by omega)]
  simp only [Act.put, nA, nB, nC]
  refine wpU_take 7 (some 23) (v := ?_) rfl rfl (by kernel_rfl) (fun _ _ _ h => h) rfl (fun x hx => ?_) ?_
  rotate_left 1
  · go_simp; first | done | with_reducible rfl | rw [if_neg (by omega)] | rw [if_pos (by omega)]
  simp only [Act.put, nA, nB, nC]
  refine wpU_take 8 (some 24) (v := ?_) rfl rfl (by kernel_rfl) (fun _ _ _ h => h) rfl (fun x hx => ?_) ?_
  rotate_left 1
  · obtain ⟨m0, m1, m2, m8, m9, m10, m11⟩ := cells_m (hx.has HM1.out); obtain ⟨p0, p1, p2, p3, p4, p5⟩ := cells_p (hx.has HP1.out); go_simp; first | done | with_reducible rfl | rw [if_neg (by omega)] | rw [if_pos (by omega)]
  simp only [Act.put, nA, nB, nC]
  refine wpU_step 9 (by kernel_rfl) rfl rfl ?_  -- call value (Go.Operand.func 78)
  go_wp2_with fail
  refine (simple_else text num lo hi A 1 c s m.at_ _ 16 (by omega)).mono ?_
  rintro e w2 ⟨rfl, hb2⟩
  go_wp2_with fail
  refine ⟨hb2, ?_⟩
  have HI2 := Lib.hid (HI.out.later (HL1.out.trans hb2))
  have HN2 := Lib.hid (HN.out.later (HL1.out.trans hb2))
  have HB2 := Lib.hid ((HL1.out.trans hb2).has HB.out)
  have HP2 := Lib.hid (Later.has hb2 HP1.out)
  clear HP1 HM1 HI HN HB HL1 hb2
  refine wpU_take 10 (some 15) (v := ?_) rfl rfl (by kernel_rfl) (fun _ _ _ h => h) rfl (fun x hx => ?_) ?_
  rotate_left 1
  · go_simp; first | done | with_reducible rfl | rw [if_neg (by omega)] | rw [if_pos (by omega)]
  simp only [Act.put, nA, nB, nC]
  refine wpU_take 11 (some 26) (v := ?_) rfl rfl (by kernel_rfl) (fun _ _ _ h => h) rfl (fun x hx => ?_) ?_
  rotate_left 1
  · go_simp; first | done | with_reducible rfl | rw [if_neg (by omega)] | rw [if_pos (by omega)]
  simp only [Act.put, nA, nB, nC]
  refine wpU_take 12 (some 27) (v := ?_) rfl rfl (by kernel_rfl) (fun _ _ _ h => h) rfl (fun x hx => ?_) ?_
  rotate_left 1
  · go_simp; first | done | with_reducible rfl | rw [if_neg (by omega)] | rw [if_pos (by omega)]
  simp only [Act.put, nA, nB, nC]
  refine wpU_take 13 (some 28) (v := ?_) rfl rfl (by kernel_rfl) (fun _ _ _ h => h) rfl (fun x hx => ?_) ?_
  rotate_left 1
  · go_simp; first | done | with_reducible rfl | rw [if_neg (by omega)] | rw [if_pos (by omega)]
  simp only [Act.put, nA, nB, nC]
  refine wpU_take 14 (some 8) (v := ?_) rfl rfl (by kernel_rfl) (fun _ _ _ h => h) rfl (fun x hx => ?_) ?_
  rotate_left 1
  · go_simp; first | done | with_reducible rfl | rw [if_neg (by omega)] | rw [if_pos (by omega)]
  simp only [Act.put, nA, nB, nC]
  refine wpU_take 15 (some 9) (v := ?_) rfl rfl (by kernel_rfl) (fun _ _ _ h => h) rfl (fun x hx => ?_) ?_
  rotate_left 1
  · go_simp; first | done | with_reducible rfl | rw [if_neg (by omega)] | rw [if_pos (by omega)]
  simp only [Act.put, nA, nB, nC]
  refine wpU_take 16 (some 10) (v := ?_) rfl rfl (by kernel_rfl) (fun _ _ _ h => h) rfl (fun x hx => ?_) ?_
  rotate_left 1
  · go_simp; first | done | with_reducible rfl | rw [if_neg (by omega)] | rw [if_pos (by omega)]
  simp only [Act.put, nA, nB, nC]
  refine wpU_last [] (by kernel_rfl) rfl rfl ?_
  obtain ⟨m0, m1, m2, m8, m9, m10, m11⟩ := cells_m HI2.out.blk
  obtain ⟨p0, p1, p2, p3, p4, p5⟩ := cells_p HP2.out
  obtain ⟨b0, b1, b2, b3, b4, b5, b6, b7, b8⟩ := cells_g HB2.out
  go_wp2_with fail
  clear m0 m1 m2 m8 m9 m10 m11 p0 p1 p2 p3 p4 p5 b0 b1 b2 b3 b4 b5 b6 b7 b8
  -- region 21: 20 operations, the last []
  refine wpU_begin [] [] (by kernel_rfl) (fun w3 hw3 => ?_)
  have hl3 := drew_later hw3
  have HI3 := Lib.hid (HI2.out.later hl3)
  have HN3 := Lib.hid (HN2.out.later hl3)
  have HB3 := Lib.hid (hl3.has HB2.out)
  have HP3 := Lib.hid (hl3.has HP2.out)
  clear hw3 hl3 HI2 HN2 HB2 HP2
  obtain ⟨g0, kA0, kc0, hA0, hk0, he0⟩ := kid_cells HR.out (j := 0) (by simp) HI3.out.below
  simp only [List.getElem_cons_zero] at hk0 he0
  have HK0 := Lib.hid hk0
  have HE0 := Lib.hid he0
  clear hk0 he0
  subst hA0
  refine wpU_take 0 (some 133) (v := ?_) rfl rfl (by kernel_rfl) (fun _ _ _ h => h) rfl (fun x hx => ?_) ?_
  rotate_left 1
  · go_simp; first | done | with_reducible rfl | rw [if_neg (by omega)] | rw [if_pos (by omega)]
  simp only [Act.put, nA, nB, nC]
  refine wpU_take 1 (some 134) (v := ?_) rfl rfl (by kernel_rfl) (fun _ _ _ h => h) rfl (fun x hx => ?_) ?_
  rotate_left 1
  · obtain ⟨m0, m1, m2, m8, m9, m10, m11⟩ := cells_m (hx.has HI3.out.blk); obtain ⟨p0, p1, p2, p3, p4, p5⟩ := cells_p (hx.has HP3.out); obtain ⟨b0, b1, b2, b3, b4, b5, b6, b7, b8⟩ := cells_g (hx.has HB3.out); obtain ⟨e00, e01, e02, e03, e04, e05⟩ := HE0.out.below hx; simp only [Nat.zero_mul, Nat.zero_add] at e00 e01 e02 e03 e04 e05; go_simp; first | done | with_reducible rfl | rw [if_neg (by omega)] | rw [if_pos (by omega)]
  simp only [Act.put, nA, nB, nC]
  refine wpU_take 2 (some 135) (v := ?_) rfl rfl (by kernel_rfl) (fun _ _ _ h => h) rfl (fun x hx => ?_) ?_
  rotate_left 1
  · go_simp; first | done | with_reducible rfl | rw [if_neg (by omega)] | rw [if_pos (by omega)]
  simp only [Act.put, nA, nB, nC]
  refine wpU_take 3 (some 136) (v := ?_) rfl rfl (by kernel_rfl) (fun _ _ _ h => h) rfl (fun x hx => ?_) ?_
  rotate_left 1
  · obtain ⟨m0, m1, m2, m8, m9, m10, m11⟩ := cells_m (hx.has HI3.out.blk); obtain ⟨p0, p1, p2, p3, p4, p5⟩ := cells_p (hx.has HP3.out); obtain ⟨b0, b1, b2, b3, b4, b5, b6, b7, b8⟩ := cells_g (hx.has HB3.out); obtain ⟨e00, e01, e02, e03, e04, e05⟩ := HE0.out.below hx; simp only [Nat.zero_mul, Nat.zero_add] at e00 e01 e02 e03 e04 e05; go_simp; first | done | with_reducible rfl | rw [if_neg (by omega)] | rw [if_pos (by omega)]
  simp only [Act.put, nA, nB, nC]
  refine wpU_take 4 (some 137) (v := ?_) rfl rfl (by kernel_rfl) (fun _ _ _ h => h) rfl (fun x hx => ?_) ?_
  rotate_left 1
  · obtain ⟨m0, m1, m2, m8, m9, m10, m11⟩ := cells_m (hx.has HI3.out.blk); obtain ⟨p0, p1, p2, p3, p4, p5⟩ := cells_p (hx.has HP3.out); obtain ⟨b0, b1, b2, b3, b4, b5, b6, b7, b8⟩ := cells_g (hx.has HB3.out); obtain ⟨e00, e01, e02, e03, e04, e05⟩ := HE0.out.below hx; simp only [Nat.zero_mul, Nat.zero_add] at e00 e01 e02 e03 e04 e05; go_simp; first | done | with_reducible rfl | rw [if_neg (by omega)] | rw [if_pos (by omega)]
  simp only [Act.put, nA, nB, nC]
  refine wpU_take 5 (some 138) (v := ?_) rfl rfl (by kernel_rfl) (fun _ _ _ h => h) rfl (fun x hx => ?_) ?_
  rotate_left 1
  · go_simp; first | done | with_reducible rfl | rw [if_neg (by omega)] | rw [if_pos (by omega)]
  simp only [Act.put, nA, nB, nC]
  refine wpU_take 6 (some 139) (v := ?_) rfl rfl (by kernel_rfl) (fun _ _ _ h => h) rfl (fun x hx => ?_) ?_
  rotate_left 1
  · go_simp; first | done | with_reducible rfl | rw [if_neg (by omega)] | rw [if_pos (by omega)]
  simp only [Act.put, nA, nB, nC]
  refine wpU_take 7 (some 140) (v := ?_) rfl rfl (by kernel_rfl) (fun _ _ _ h => h) rfl (fun x hx => ?_) ?_
  rotate_left 1
  · go_simp; first | done | with_reducible rfl | rw [if_neg (by omega)] | rw [if_pos (by omega)]
  simp only [Act.put, nA, nB, nC]
  refine wpU_take 8 (some 141) (v := ?_) rfl rfl (by kernel_rfl) (fun _ _ _ h => h) rfl (fun x hx => ?_) ?_
  rotate_left 1
  · obtain ⟨m0, m1, m2, m8, m9, m10, m11⟩ := cells_m (hx.has HI3.out.blk); obtain ⟨p0, p1, p2, p3, p4, p5⟩ := cells_p (hx.has HP3.out); obtain ⟨b0, b1, b2, b3, b4, b5, b6, b7, b8⟩ := cells_g (hx.has HB3.out); obtain ⟨e00, e01, e02, e03, e04, e05⟩ := HE0.out.below hx; simp only [Nat.zero_mul, Nat.zero_add] at e00 e01 e02 e03 e04 e05; go_simp; first | done | with_reducible rfl | rw [if_neg (by omega)] | rw [if_pos (by omega)]
  simp only [Act.put, nA, nB, nC]
  refine wpU_take 9 (some 142) (v := ?_) rfl rfl (by kernel_rfl) (fun _ _ _ h => h) rfl (fun x hx => ?_) ?_
  rotate_left 1
  · go_simp; first | done | with_reducible rfl | rw [if_neg (by omega)] | rw [if_pos (by omega)]
  simp only [Act.put, nA, nB, nC]
  refine wpU_take 10 (some 143) (v := ?_) rfl rfl (by kernel_rfl) (fun _ _ _ h => h) rfl (fun x hx => ?_) ?_
  rotate_left 1
  · go_simp; first | done | with_reducible rfl | rw [if_neg (by omega)] | rw [if_pos (by omega)]
  simp only [Act.put, nA, nB, nC]
  refine wpU_take 11 (some 144) (v := ?_) rfl rfl (by kernel_rfl) (fun _ _ _ h => h) rfl (fun x hx => ?_) ?_
  rotate_left 1
  · go_simp; first | done | with_reducible rfl | rw [if_neg (by omega)] | rw [if_pos (by omega)]
  simp only [Act.put, nA, nB, nC]
  refine wpU_take 12 (some 145) (v := ?_) rfl rfl (by kernel_rfl) (fun _ _ _ h => h) rfl (fun x hx => ?_) ?_
  rotate_left 1
  · obtain ⟨m0, m1, m2, m8, m9, m10, m11⟩ := cells_m (hx.has HI3.out.blk); obtain ⟨p0, p1, p2, p3, p4, p5⟩ := cells_p (hx.has HP3.out); obtain ⟨b0, b1, b2, b3, b4, b5, b6, b7, b8⟩ := cells_g (hx.has HB3.out); obtain ⟨e00, e01, e02, e03, e04, e05⟩ := HE0.out.below hx; simp only [Nat.zero_mul, Nat.zero_add] at e00 e01 e02 e03 e04 e05; go_simp; first | done | with_reducible rfl | rw [if_neg (by omega)] | rw [if_pos (by omega)]
  simp only [Act.put, nA, nB, nC]
  refine wpU_take 13 (some 146) (v := ?_) rfl rfl (by kernel_rfl) (fun _ _ _ h => h) rfl (fun x hx => ?_) ?_
  rotate_left 1
  · go_simp; first | done | with_reducible rfl | rw [if_neg (by omega)] | rw [if_pos (by omega)]
  simp only [Act.put, nA, nB, nC]
  refine wpU_step 14 (by kernel_rfl) rfl rfl ?_  -- box 
  go_wp2_with fail
  refine ⟨(Later.refl _).alloc _, ?_⟩
  refine wpU_take 15 (some 148) (v := ?_) rfl rfl (by kernel_rfl) (fun _ _ _ h => h) rfl (fun x hx => ?_) ?_
  rotate_left 1
  · go_simp; first | done | with_reducible rfl | rw [if_neg (by omega)] | rw [if_pos (by omega)]
  simp only [Act.put, nA, nB, nC]
  refine wpU_step 16 (by kernel_rfl) rfl rfl ?_  -- box 
  go_wp2_with fail
  refine ⟨(Later.refl _).alloc _, ?_⟩
  refine wpU_take 17 (some 4) (v := ?_) rfl rfl (by kernel_rfl) (fun _ _ _ h => h) rfl (fun x hx => ?_) ?_
  rotate_left 1
  · go_simp; first | done | with_reducible rfl | rw [if_neg (by omega)] | rw [if_pos (by omega)]
  simp only [Act.put, nA, nB, nC]
  refine wpU_take 18 (some 5) (v := ?_) rfl rfl (by kernel_rfl) (fun _ _ _ h => h) rfl (fun x hx => ?_) ?_
  rotate_left 1
  · go_simp; first | done | with_reducible rfl | rw [if_neg (by omega)] | rw [if_pos (by omega)]
  simp only [Act.put, nA, nB, nC]
  refine wpU_take 19 (some 6) (v := ?_) rfl rfl (by kernel_rfl) (fun _ _ _ h => h) rfl (fun x hx => ?_) ?_
  rotate_left 1
  · go_simp; first | done | with_reducible rfl | rw [if_neg (by omega)] | rw [if_pos (by omega)]
  simp only [Act.put, nA, nB, nC]
  refine wpU_last [] (by kernel_rfl) rfl rfl ?_
  go_wp2_with fail
  go_ret3
  exact did_go (gv := .pointer (some ⟨w3.heap.size + 1, 0, none⟩)) ((HN3.out.push ⟨1, .mk 16 text num lo hi [k0], m.at_⟩ HKID.out).pushAt ⟨0, k0, 0⟩ HK0.out _ (by simp)) (HI3.out.later (((Later.refl _).alloc _).alloc _))

set_option maxRecDepth 100000 in
set_option maxHeartbeats 1000000 in
theorem match_immediate {w0 w : World} {M : Nat} {dv : Value} {s : ByteArray} {n : Nat} {m : Mst} {cv ev hv : Value} {hs : List Value} {text : ByteArray} {num lo hi : Int} {k0 : Pat} {A : Option Addr} {c : Nat} {fr : Int} {nv : Value} {gs : List Goal} {b : Nat} 
    (h : ImplAt w0 w M dv s n m cv ev hv hs) (hb : w.heap[b]? = some (.cells #[.int .i64 0, .int .i64 17, .string text, .int .i64 num, .int .i64 lo, .int .i64 hi, .slice A 1 c, .int .i64 fr, nv] TG (0, 0)))
    (hkid : KidsIn w0 (.mk 17 text num lo hi [k0]) (.slice A 1 c)) (hnv : GoalsAt w0 w gs nv) :
    Calls Try.prog 68 #[.pointer (some ⟨M, 0, none⟩), .pointer (some ⟨b, 0, none⟩)] w (Did w0 M dv s n m (.go (⟨0, k0, 0⟩ :: ⟨2, .mk 17 text num lo hi [k0], m.at_⟩ :: gs) m)) := by
  have hblk := h.blk
  obtain ⟨np, rfl⟩ := hnv.ptr
  obtain ⟨cA, cc, rfl, _, _⟩ := h.caps.form
  obtain ⟨eA, ec, rfl, _, _⟩ := h.evs.form
  obtain ⟨hA, hc, rfl, _, _⟩ := h.chs.form
  obtain ⟨b0, b1, b2, b3, b4, b5, b6, b7, b8⟩ := cells_g hb
  have HI := Lib.hid h
  have HN := Lib.hid hnv
  have HB := Lib.hid hb
  have HR := Lib.hid (kids_row hkid)
  have HKID := Lib.hid hkid
  have hbel := h.below.size
  have hMb : ¬ M = b := ne_of_type hblk hb (by decide)
  have hbM : ¬ b = M := fun e => hMb e.symm
  clear h hnv hb hkid
  go_enter Try.func68, Try.ntmps68
  go_wp2_with fail
  clear b0 b1 b2 b3 b4 b5 b6 b7 b8
  -- region 2: 17 operations, the last []
  refine wpU_begin [] [] (by kernel_rfl) (fun w1 hw1 => ?_)
  obtain ⟨hl1, hp1⟩ := drew_alloc hw1
  have HP1 := Lib.hid hp1
  have HM1 := Lib.hid (hl1.has hblk)
  have HL1 := Lib.hid hl1
  clear hw1 hl1 hp1 hblk
  refine wpU_take 0 (some 16) (v := ?_) rfl rfl (by kernel_rfl) (fun _ _ _ h => h) rfl (fun x hx => ?_) ?_
  rotate_left 1
  · obtain ⟨m0, m1, m2, m8, m9, m10, m11⟩ := cells_m (hx.has HM1.out); obtain ⟨p0, p1, p2, p3, p4, p5⟩ := cells_p (hx.has HP1.out); go_simp; first | done | with_reducible rfl | rw [if_neg (by omega)] | rw [if_pos (by omega)]
  simp only [Act.put, nA, nB, nC]
  refine wpU_take 1 (some 17) (v := ?_) rfl rfl (by kernel_rfl) (fun _ _ _ h => h) rfl (fun x hx => ?_) ?_
  rotate_left 1
  · go_simp; first | done | with_reducible rfl | rw [if_neg (by omega)] | rw [if_pos (by omega)]
  simp only [Act.put, nA, nB, nC]
  refine wpU_take 2 (some 18) (v := ?_) rfl rfl (by kernel_rfl) (fun _ _ _ h => h) rfl (fun x hx => ?_) ?_
  rotate_left 1
  · go_simp; first | done | with_reducible rfl | rw [if_neg (by omega)] | rw [if_pos (by omega)]
  simp only [Act.put, nA, nB, nC]
  refine wpU_take 3 (some 19) (v := ?_) rfl rfl (by kernel_rfl) (fun _ _ _ h => h) rfl (fun x hx => ?_) ?_
  rotate_left 1
  · go_simp; first | done | with_reducible rfl | rw [if_neg (by omega)] | rw [if_pos (by omega)]
  simp only [Act.put, nA, nB, nC]
  refine wpU_take 4 (some 20) (v := ?_) rfl rfl (by kernel_rfl) (fun _ _ _ h => h) rfl (fun x hx => ?_) ?_
  rotate_left 1
  · obtain ⟨m0, m1, m2, m8, m9, m10, m11⟩ := cells_m (hx.has HM1.out); obtain ⟨p0, p1, p2, p3, p4, p5⟩ := cells_p (hx.has HP1.out); go_simp; first | done | with_reducible rfl | rw [if_neg (by omega)] | rw [if_pos (by omega)]
  simp only [Act.put, nA, nB, nC]
  refine wpU_take 5 (some 21) (v := ?_) rfl rfl (by kernel_rfl) (fun _ _ _ h => h) rfl (fun x hx => ?_) ?_
  rotate_left 1
  · go_simp; first | done | with_reducible rfl | rw [if_neg (by omega)] | rw [if_pos (by omega)]
  simp only [Act.put, nA, nB, nC]
  refine wpU_take 6 (some 22) (v := ?_) rfl rfl (by kernel_rfl) (fun _ _ _ h => h) rfl (fun x hx => ?_) ?_
  rotate_left 1
  · go_simp; first | done | with_reducible rfl | rw [if_neg (by omega)] | rw [if_pos (by omega)]
  simp only [Act.put, nA, nB, nC]
  refine wpU_take 7 (some 23) (v := ?_) rfl rfl (by kernel_rfl) (fun _ _ _ h => h) rfl (fun x hx => ?_) ?_
  rotate_left 1
  · go_simp; first | done | with_reducible rfl | rw [if_neg (by omega)] | rw [if_pos (by omega)]
  simp only [Act.put, nA, nB, nC]
  refine wpU_take 8 (some 24) (v := ?_) rfl rfl (by kernel_rfl) (fun _ _ _ h => h) rfl (fun x hx => ?_) ?_
  rotate_left 1
  · obtain ⟨m0, m1, m2, m8, m9, m10, m11⟩ := cells_m (hx.has HM1.out); obtain ⟨p0, p1, p2, p3, p4, p5⟩ := cells_p (hx.has HP1.out); go_simp; first | done | with_reducible rfl | rw [if_neg (by omega)] | rw [if_pos (by omega)]
  simp only [Act.put, nA, nB, nC]
  refine wpU_step 9 (by kernel_rfl) rfl rfl ?_  -- call value (Go.Operand.func 78)
  go_wp2_with fail
  refine (simple_else text num lo hi A 1 c s m.at_ _ 17 (by omega)).mono ?_
  rintro e w2 ⟨rfl, hb2⟩
  go_wp2_with fail
  refine ⟨hb2, ?_⟩
  have HI2 := Lib.hid (HI.out.later (HL1.out.trans hb2))
  have HN2 := Lib.hid (HN.out.later (HL1.out.trans hb2))
  have HB2 := Lib.hid ((HL1.out.trans hb2).has HB.out)
  have HP2 := Lib.hid (Later.has hb2 HP1.out)
  clear HP1 HM1 HI HN HB HL1 hb2
  refine wpU_take 10 (some 15) (v := ?_) rfl rfl (by kernel_rfl) (fun _ _ _ h => h) rfl (fun x hx => ?_) ?_
  rotate_left 1
  · go_simp; first | done | with_reducible rfl | rw [if_neg (by omega)] | rw [if_pos (by omega)]
  simp only [Act.put, nA, nB, nC]
  refine wpU_take 11 (some 26) (v := ?_) rfl rfl (by kernel_rfl) (fun _ _ _ h => h) rfl (fun x hx => ?_) ?_
  rotate_left 1
  · go_simp; first | done | with_reducible rfl | rw [if_neg (by omega)] | rw [if_pos (by omega)]
  simp only [Act.put, nA, nB, nC]
  refine wpU_take 12 (some 27) (v := ?_) rfl rfl (by kernel_rfl) (fun _ _ _ h => h) rfl (fun x hx => ?_) ?_
  rotate_left 1
  · go_simp; first | done | with_reducible rfl | rw [if_neg (by omega)] | rw [if_pos (by omega)]
  simp only [Act.put, nA, nB, nC]
  refine wpU_take 13 (some 28) (v := ?_) rfl rfl (by kernel_rfl) (fun _ _ _ h => h) rfl (fun x hx => ?_) ?_
  rotate_left 1
  · go_simp; first | done | with_reducible rfl | rw [if_neg (by omega)] | rw [if_pos (by omega)]
  simp only [Act.put, nA, nB, nC]
  refine wpU_take 14 (some 8) (v := ?_) rfl rfl (by kernel_rfl) (fun _ _ _ h => h) rfl (fun x hx => ?_) ?_
  rotate_left 1
  · go_simp; first | done | with_reducible rfl | rw [if_neg (by omega)] | rw [if_pos (by omega)]
  simp only [Act.put, nA, nB, nC]
  refine wpU_take 15 (some 9) (v := ?_) rfl rfl (by kernel_rfl) (fun _ _ _ h => h) rfl (fun x hx => ?_) ?_
  rotate_left 1
  · go_simp; first | done | with_reducible rfl | rw [if_neg (by omega)] | rw [if_pos (by omega)]
  simp only [Act.put, nA, nB, nC]
  refine wpU_take 16 (some 10) (v := ?_) rfl rfl (by kernel_rfl) (fun _ _ _ h => h) rfl (fun x hx => ?_) ?_
  rotate_left 1
  · go_simp; first | done | with_reducible rfl | rw [if_neg (by omega)] | rw [if_pos (by omega)]
  simp only [Act.put, nA, nB, nC]
  refine wpU_last [] (by kernel_rfl) rfl rfl ?_
  obtain ⟨m0, m1, m2, m8, m9, m10, m11⟩ := cells_m HI2.out.blk
  obtain ⟨p0, p1, p2, p3, p4, p5⟩ := cells_p HP2.out
  obtain ⟨b0, b1, b2, b3, b4, b5, b6, b7, b8⟩ := cells_g HB2.out
  go_wp2_with fail
  clear m0 m1 m2 m8 m9 m10 m11 p0 p1 p2 p3 p4 p5 b0 b1 b2 b3 b4 b5 b6 b7 b8
  -- region 23: 20 operations, the last []
  refine wpU_begin [] [] (by kernel_rfl) (fun w3 hw3 => ?_)
  have hl3 := drew_later hw3
  have HI3 := Lib.hid (HI2.out.later hl3)
  have HN3 := Lib.hid (HN2.out.later hl3)
  have HB3 := Lib.hid (hl3.has HB2.out)
  have HP3 := Lib.hid (hl3.has HP2.out)
  clear hw3 hl3 HI2 HN2 HB2 HP2
  obtain ⟨g0, kA0, kc0, hA0, hk0, he0⟩ := kid_cells HR.out (j := 0) (by simp) HI3.out.below
  simp only [List.getElem_cons_zero] at hk0 he0
  have HK0 := Lib.hid hk0
  have HE0 := Lib.hid he0
  clear hk0 he0
  subst hA0
  refine wpU_take 0 (some 152) (v := ?_) rfl rfl (by kernel_rfl) (fun _ _ _ h => h) rfl (fun x hx => ?_) ?_
  rotate_left 1
  · go_simp; first | done | with_reducible rfl | rw [if_neg (by omega)] | rw [if_pos (by omega)]
  simp only [Act.put, nA, nB, nC]
  refine wpU_take 1 (some 153) (v := ?_) rfl rfl (by kernel_rfl) (fun _ _ _ h => h) rfl (fun x hx => ?_) ?_
  rotate_left 1
  · obtain ⟨m0, m1, m2, m8, m9, m10, m11⟩ := cells_m (hx.has HI3.out.blk); obtain ⟨p0, p1, p2, p3, p4, p5⟩ := cells_p (hx.has HP3.out); obtain ⟨b0, b1, b2, b3, b4, b5, b6, b7, b8⟩ := cells_g (hx.has HB3.out); obtain ⟨e00, e01, e02, e03, e04, e05⟩ := HE0.out.below hx; simp only [Nat.zero_mul, Nat.zero_add] at e00 e01 e02 e03 e04 e05; go_simp; first | done | with_reducible rfl | rw [if_neg (by omega)] | rw [if_pos (by omega)]
  simp only [Act.put, nA, nB, nC]
  refine wpU_take 2 (some 154) (v := ?_) rfl rfl (by kernel_rfl) (fun _ _ _ h => h) rfl (fun x hx => ?_) ?_
  rotate_left 1
  · go_simp; first | done | with_reducible rfl | rw [if_neg (by omega)] | rw [if_pos (by omega)]
  simp only [Act.put, nA, nB, nC]
  refine wpU_take 3 (some 155) (v := ?_) rfl rfl (by kernel_rfl) (fun _ _ _ h => h) rfl (fun x hx => ?_) ?_
  rotate_left 1
  · obtain ⟨m0, m1, m2, m8, m9, m10, m11⟩ := cells_m (hx.has HI3.out.blk); obtain ⟨p0, p1, p2, p3, p4, p5⟩ := cells_p (hx.has HP3.out); obtain ⟨b0, b1, b2, b3, b4, b5, b6, b7, b8⟩ := cells_g (hx.has HB3.out); obtain ⟨e00, e01, e02, e03, e04, e05⟩ := HE0.out.below hx; simp only [Nat.zero_mul, Nat.zero_add] at e00 e01 e02 e03 e04 e05; go_simp; first | done | with_reducible rfl | rw [if_neg (by omega)] | rw [if_pos (by omega)]
  simp only [Act.put, nA, nB, nC]
  refine wpU_take 4 (some 156) (v := ?_) rfl rfl (by kernel_rfl) (fun _ _ _ h => h) rfl (fun x hx => ?_) ?_
  rotate_left 1
  · obtain ⟨m0, m1, m2, m8, m9, m10, m11⟩ := cells_m (hx.has HI3.out.blk); obtain ⟨p0, p1, p2, p3, p4, p5⟩ := cells_p (hx.has HP3.out); obtain ⟨b0, b1, b2, b3, b4, b5, b6, b7, b8⟩ := cells_g (hx.has HB3.out); obtain ⟨e00, e01, e02, e03, e04, e05⟩ := HE0.out.below hx; simp only [Nat.zero_mul, Nat.zero_add] at e00 e01 e02 e03 e04 e05; go_simp; first | done | with_reducible rfl | rw [if_neg (by omega)] | rw [if_pos (by omega)]
  simp only [Act.put, nA, nB, nC]
  refine wpU_take 5 (some 157) (v := ?_) rfl rfl (by kernel_rfl) (fun _ _ _ h => h) rfl (fun x hx => ?_) ?_
  rotate_left 1
  · go_simp; first | done | with_reducible rfl | rw [if_neg (by omega)] | rw [if_pos (by omega)]
  simp only [Act.put, nA, nB, nC]
  refine wpU_take 6 (some 158) (v := ?_) rfl rfl (by kernel_rfl) (fun _ _ _ h => h) rfl (fun x hx => ?_) ?_
  rotate_left 1
  · go_simp; first | done | with_reducible rfl | rw [if_neg (by omega)] | rw [if_pos (by omega)]
  simp only [Act.put, nA, nB, nC]
  refine wpU_take 7 (some 159) (v := ?_) rfl rfl (by kernel_rfl) (fun _ _ _ h => h) rfl (fun x hx => ?_) ?_
  rotate_left 1
  · go_simp; first | done | with_reducible rfl | rw [if_neg (by omega)] | rw [if_pos (by omega)]
  simp only [Act.put, nA, nB, nC]
  refine wpU_take 8 (some 160) (v := ?_) rfl rfl (by kernel_rfl) (fun _ _ _ h => h) rfl (fun x hx => ?_) ?_
  rotate_left 1
  · obtain ⟨m0, m1, m2, m8, m9, m10, m11⟩ := cells_m (hx.has HI3.out.blk); obtain ⟨p0, p1, p2, p3, p4, p5⟩ := cells_p (hx.has HP3.out); obtain ⟨b0, b1, b2, b3, b4, b5, b6, b7, b8⟩ := cells_g (hx.has HB3.out); obtain ⟨e00, e01, e02, e03, e04, e05⟩ := HE0.out.below hx; simp only [Nat.zero_mul, Nat.zero_add] at e00 e01 e02 e03 e04 e05; go_simp; first | done | with_reducible rfl | rw [if_neg (by omega)] | rw [if_pos (by omega)]
  simp only [Act.put, nA, nB, nC]
  refine wpU_take 9 (some 161) (v := ?_) rfl rfl (by kernel_rfl) (fun _ _ _ h => h) rfl (fun x hx => ?_) ?_
  rotate_left 1
  · go_simp; first | done | with_reducible rfl | rw [if_neg (by omega)] | rw [if_pos (by omega)]
  simp only [Act.put, nA, nB, nC]
  refine wpU_take 10 (some 162) (v := ?_) rfl rfl (by kernel_rfl) (fun _ _ _ h => h) rfl (fun x hx => ?_) ?_
  rotate_left 1
  · go_simp; first | done | with_reducible rfl | rw [if_neg (by omega)] | rw [if_pos (by omega)]
  simp only [Act.put, nA, nB, nC]
  refine wpU_take 11 (some 163) (v := ?_) rfl rfl (by kernel_rfl) (fun _ _ _ h => h) rfl (fun x hx => ?_) ?_
  rotate_left 1
  · go_simp; first | done | with_reducible rfl | rw [if_neg (by omega)] | rw [if_pos (by omega)]
  simp only [Act.put, nA, nB, nC]
  refine wpU_take 12 (some 164) (v := ?_) rfl rfl (by kernel_rfl) (fun _ _ _ h => h) rfl (fun x hx => ?_) ?_
  rotate_left 1
  · obtain ⟨m0, m1, m2, m8, m9, m10, m11⟩ := cells_m (hx.has HI3.out.blk); obtain ⟨p0, p1, p2, p3, p4, p5⟩ := cells_p (hx.has HP3.out); obtain ⟨b0, b1, b2, b3, b4, b5, b6, b7, b8⟩ := cells_g (hx.has HB3.out); obtain ⟨e00, e01, e02, e03, e04, e05⟩ := HE0.out.below hx; simp only [Nat.zero_mul, Nat.zero_add] at e00 e01 e02 e03 e04 e05; go_simp; first | done | with_reducible rfl | rw [if_neg (by omega)] | rw [if_pos (by omega)]
  simp only [Act.put, nA, nB, nC]
  refine wpU_take 13 (some 165) (v := ?_) rfl rfl (by kernel_rfl) (fun _ _ _ h => h) rfl (fun x hx => ?_) ?_
  rotate_left 1
  · go_simp; first | done | with_reducible rfl | rw [if_neg (by omega)] | rw [if_pos (by omega)]
  simp only [Act.put, nA, nB, nC]
  refine wpU_step 14 (by kernel_rfl) rfl rfl ?_  -- box 
  go_wp2_with fail
  refine ⟨(Later.refl _).alloc _, ?_⟩
  refine wpU_take 15 (some 167) (v := ?_) rfl rfl (by kernel_rfl) (fun _ _ _ h => h) rfl (fun x hx => ?_) ?_
  rotate_left 1
  · go_simp; first | done | with_reducible rfl | rw [if_neg (by omega)] | rw [if_pos (by omega)]
  simp only [Act.put, nA, nB, nC]
  refine wpU_step 16 (by kernel_rfl) rfl rfl ?_  -- box 
  go_wp2_with fail
  refine ⟨(Later.refl _).alloc _, ?_⟩
  refine wpU_take 17 (some 4) (v := ?_) rfl rfl (by kernel_rfl) (fun _ _ _ h => h) rfl (fun x hx => ?_) ?_
  rotate_left 1
  · go_simp; first | done | with_reducible rfl | rw [if_neg (by omega)] | rw [if_pos (by omega)]
  simp only [Act.put, nA, nB, nC]
  refine wpU_take 18 (some 5) (v := ?_) rfl rfl (by kernel_rfl) (fun _ _ _ h => h) rfl (fun x hx => ?_) ?_
  rotate_left 1
  · go_simp; first | done | with_reducible rfl | rw [if_neg (by omega)] | rw [if_pos (by omega)]
  simp only [Act.put, nA, nB, nC]
  refine wpU_take 19 (some 6) (v := ?_) rfl rfl (by kernel_rfl) (fun _ _ _ h => h) rfl (fun x hx => ?_) ?_
  rotate_left 1
  · go_simp; first | done | with_reducible rfl | rw [if_neg (by omega)] | rw [if_pos (by omega)]
  simp only [Act.put, nA, nB, nC]
  refine wpU_last [] (by kernel_rfl) rfl rfl ?_
  go_wp2_with fail
  go_ret3
  exact did_go (gv := .pointer (some ⟨w3.heap.size + 1, 0, none⟩)) ((HN3.out.push ⟨2, .mk 17 text num lo hi [k0], m.at_⟩ HKID.out).pushAt ⟨0, k0, 0⟩ HK0.out _ (by simp)) (HI3.out.later (((Later.refl _).alloc _).alloc _))

end Go.Proofs.Ytndefbecoahfhaa

/- impl's match. Printed by gen_match.py. -/
namespace Go.Proofs.Ytndefbecoahfhaa
open Go.RowKit

set_option maxRecDepth 100000 in
set_option maxHeartbeats 1000000 in
theorem match_some {w0 w : World} {M : Nat} {dv : Value} {s : ByteArray} {n : Nat} {m : Mst} {cv ev hv : Value} {hs : List Value} {text : ByteArray} {num lo hi : Int} {l : Nat} {A : Option Addr} {c : Nat} {fr : Int} {nv : Value} {gs : List Goal} {b : Nat} {op : Int} {z : Nat}
    (h : ImplAt w0 w M dv s n m cv ev hv hs) (hb : w.heap[b]? = some (.cells #[.int .i64 0, .int .i64 op, .string text, .int .i64 num, .int .i64 lo, .int .i64 hi, .slice A l c, .int .i64 fr, nv] TG (0, 0)))
    (hnv : GoalsAt w0 w gs nv) (hsi : isSimple op) (hok : okWords op text num) (hss : s.size ≤ 120) (hat : m.at_ ≤ s.size) (hz : oneEnd op text num lo hi s m.at_ = some z) :
    Calls Try.prog 68 #[.pointer (some ⟨M, 0, none⟩), .pointer (some ⟨b, 0, none⟩)] w (Did w0 M dv s n m (.go gs { m with at_ := z })) := by
  have hblk := h.blk
  obtain ⟨np, rfl⟩ := hnv.ptr
  obtain ⟨cA, cc, rfl, _, _⟩ := h.caps.form
  obtain ⟨eA, ec, rfl, _, _⟩ := h.evs.form
  obtain ⟨hA, hc, rfl, _, _⟩ := h.chs.form
  obtain ⟨b0, b1, b2, b3, b4, b5, b6, b7, b8⟩ := cells_g hb
  have HI := Lib.hid h
  have HN := Lib.hid hnv
  have HB := Lib.hid hb
  skip
  have hbel := h.below.size
  have hMb : ¬ M = b := ne_of_type hblk hb (by decide)
  have hbM : ¬ b = M := fun e => hMb e.symm
  have HSI := Lib.hid hsi
  have HOK := Lib.hid hok
  have HZ := Lib.hid hz
  clear hsi hok hz
  clear h hnv hb
  go_enter Try.func68, Try.ntmps68
  go_wp2_with fail
  clear b0 b1 b2 b3 b4 b5 b6 b7 b8
  -- region 2: 17 operations, the last []
  refine wpU_begin [] [] (by kernel_rfl) (fun w1 hw1 => ?_)
  obtain ⟨hl1, hp1⟩ := drew_alloc hw1
  have HP1 := Lib.hid hp1
  have HM1 := Lib.hid (hl1.has hblk)
  have HL1 := Lib.hid hl1
  clear hw1 hl1 hp1 hblk
  refine wpU_take 0 (some 16) (v := ?_) rfl rfl (by kernel_rfl) (fun _ _ _ h => h) rfl (fun x hx => ?_) ?_
  rotate_left 1
  · obtain ⟨m0, m1, m2, m8, m9, m10, m11⟩ := cells_m (hx.has HM1.out); obtain ⟨p0, p1, p2, p3, p4, p5⟩ := cells_p (hx.has HP1.out); go_simp; first | done | with_reducible rfl | rw [if_neg (by omega)] | rw [if_pos (by omega)]
  simp only [Act.put, nA, nB, nC]
  refine wpU_take 1 (some 17) (v := ?_) rfl rfl (by kernel_rfl) (fun _ _ _ h => h) rfl (fun x hx => ?_) ?_
  rotate_left 1
  · go_simp; first | done | with_reducible rfl | rw [if_neg (by omega)] | rw [if_pos (by omega)]
  simp only [Act.put, nA, nB, nC]
  refine wpU_take 2 (some 18) (v := ?_) rfl rfl (by kernel_rfl) (fun _ _ _ h => h) rfl (fun x hx => ?_) ?_
  rotate_left 1
  · go_simp; first | done | with_reducible rfl | rw [if_neg (by omega)] | rw [if_pos (by omega)]
  simp only [Act.put, nA, nB, nC]
  refine wpU_take 3 (some 19) (v := ?_) rfl rfl (by kernel_rfl) (fun _ _ _ h => h) rfl (fun x hx => ?_) ?_
  rotate_left 1
  · go_simp; first | done | with_reducible rfl | rw [if_neg (by omega)] | rw [if_pos (by omega)]
  simp only [Act.put, nA, nB, nC]
  refine wpU_take 4 (some 20) (v := ?_) rfl rfl (by kernel_rfl) (fun _ _ _ h => h) rfl (fun x hx => ?_) ?_
  rotate_left 1
  · obtain ⟨m0, m1, m2, m8, m9, m10, m11⟩ := cells_m (hx.has HM1.out); obtain ⟨p0, p1, p2, p3, p4, p5⟩ := cells_p (hx.has HP1.out); go_simp; first | done | with_reducible rfl | rw [if_neg (by omega)] | rw [if_pos (by omega)]
  simp only [Act.put, nA, nB, nC]
  refine wpU_take 5 (some 21) (v := ?_) rfl rfl (by kernel_rfl) (fun _ _ _ h => h) rfl (fun x hx => ?_) ?_
  rotate_left 1
  · go_simp; first | done | with_reducible rfl | rw [if_neg (by omega)] | rw [if_pos (by omega)]
  simp only [Act.put, nA, nB, nC]
  refine wpU_take 6 (some 22) (v := ?_) rfl rfl (by kernel_rfl) (fun _ _ _ h => h) rfl (fun x hx => ?_) ?_
  rotate_left 1
  · go_simp; first | done | with_reducible rfl | rw [if_neg (by omega)] | rw [if_pos (by omega)]
  simp only [Act.put, nA, nB, nC]
  refine wpU_take 7 (some 23) (v := ?_) rfl rfl (by kernel_rfl) (fun _ _ _ h => h) rfl (fun x hx => ?_) ?_
  rotate_left 1
  · go_simp; first | done | with_reducible rfl | rw [if_neg (by omega)] | rw [if_pos (by omega)]
  simp only [Act.put, nA, nB, nC]
  refine wpU_take 8 (some 24) (v := ?_) rfl rfl (by kernel_rfl) (fun _ _ _ h => h) rfl (fun x hx => ?_) ?_
  rotate_left 1
  · obtain ⟨m0, m1, m2, m8, m9, m10, m11⟩ := cells_m (hx.has HM1.out); obtain ⟨p0, p1, p2, p3, p4, p5⟩ := cells_p (hx.has HP1.out); go_simp; first | done | with_reducible rfl | rw [if_neg (by omega)] | rw [if_pos (by omega)]
  simp only [Act.put, nA, nB, nC]
  refine wpU_step 9 (by kernel_rfl) rfl rfl ?_  -- call value (Go.Operand.func 78)
  go_wp2_with fail
  refine (simple_some HSI.out HOK.out hss hat HZ.out).mono ?_
  rintro e w2 ⟨rfl, hb2⟩
  go_wp2_with fail
  refine ⟨hb2, ?_⟩
  have HI2 := Lib.hid (HI.out.later (HL1.out.trans hb2))
  have HN2 := Lib.hid (HN.out.later (HL1.out.trans hb2))
  have HB2 := Lib.hid ((HL1.out.trans hb2).has HB.out)
  have HP2 := Lib.hid (Later.has hb2 HP1.out)
  clear HP1 HM1 HI HN HB HL1 hb2
  refine wpU_take 10 (some 15) (v := ?_) rfl rfl (by kernel_rfl) (fun _ _ _ h => h) rfl (fun x hx => ?_) ?_
  rotate_left 1
  · go_simp; first | done | with_reducible rfl | rw [if_neg (by omega)] | rw [if_pos (by omega)]
  simp only [Act.put, nA, nB, nC]
  refine wpU_take 11 (some 26) (v := ?_) rfl rfl (by kernel_rfl) (fun _ _ _ h => h) rfl (fun x hx => ?_) ?_
  rotate_left 1
  · go_simp; first | done | with_reducible rfl | rw [if_neg (by omega)] | rw [if_pos (by omega)]
  simp only [Act.put, nA, nB, nC]
  refine wpU_take 12 (some 27) (v := ?_) rfl rfl (by kernel_rfl) (fun _ _ _ h => h) rfl (fun x hx => ?_) ?_
  rotate_left 1
  · go_simp; first | done | with_reducible rfl | rw [if_neg (by omega)] | rw [if_pos (by omega)]
  simp only [Act.put, nA, nB, nC]
  refine wpU_take 13 (some 28) (v := ?_) rfl rfl (by kernel_rfl) (fun _ _ _ h => h) rfl (fun x hx => ?_) ?_
  rotate_left 1
  · go_simp; first | done | with_reducible rfl | rw [if_neg (by omega)] | rw [if_pos (by omega)]
  simp only [Act.put, nA, nB, nC]
  refine wpU_take 14 (some 8) (v := ?_) rfl rfl (by kernel_rfl) (fun _ _ _ h => h) rfl (fun x hx => ?_) ?_
  rotate_left 1
  · go_simp; first | done | with_reducible rfl | rw [if_neg (by omega)] | rw [if_pos (by omega)]
  simp only [Act.put, nA, nB, nC]
  refine wpU_take 15 (some 9) (v := ?_) rfl rfl (by kernel_rfl) (fun _ _ _ h => h) rfl (fun x hx => ?_) ?_
  rotate_left 1
  · go_simp; first | done | with_reducible rfl | rw [if_neg (by omega)] | rw [if_pos (by omega)]
  simp only [Act.put, nA, nB, nC]
  refine wpU_take 16 (some 10) (v := ?_) rfl rfl (by kernel_rfl) (fun _ _ _ h => h) rfl (fun x hx => ?_) ?_
  rotate_left 1
  · go_simp; first | done | with_reducible rfl | rw [if_neg (by omega)] | rw [if_pos (by omega)]
  simp only [Act.put, nA, nB, nC]
  refine wpU_last [] (by kernel_rfl) rfl rfl ?_
  obtain ⟨m0, m1, m2, m8, m9, m10, m11⟩ := cells_m HI2.out.blk
  obtain ⟨p0, p1, p2, p3, p4, p5⟩ := cells_p HP2.out
  obtain ⟨b0, b1, b2, b3, b4, b5, b6, b7, b8⟩ := cells_g HB2.out
  have hf2 := frozen_of_row w2 M 2 _ _ HI2.out.blk
  go_wp2_with fail
  go_ret3
  exact did_go (HN2.out.keep (KeepT.set (a := ⟨M, 2, none⟩) HI2.out.blk (by decide) _) _ _) (ImplAt.set (m := { m with at_ := z }) HI2.out.blk rfl HI2.out.base HI2.out.caps HI2.out.evs HI2.out.chs HI2.out.are HI2.out.apart HI2.out.below)

set_option maxRecDepth 100000 in
set_option maxHeartbeats 1000000 in
theorem match_none {w0 w : World} {M : Nat} {dv : Value} {s : ByteArray} {n : Nat} {m : Mst} {cv ev hv : Value} {hs : List Value} {text : ByteArray} {num lo hi : Int} {l : Nat} {A : Option Addr} {c : Nat} {fr : Int} {nv : Value} {gs : List Goal} {b : Nat} {op : Int}
    (h : ImplAt w0 w M dv s n m cv ev hv hs) (hb : w.heap[b]? = some (.cells #[.int .i64 0, .int .i64 op, .string text, .int .i64 num, .int .i64 lo, .int .i64 hi, .slice A l c, .int .i64 fr, nv] TG (0, 0)))
    (hnv : GoalsAt w0 w gs nv) (hsi : isSimple op) (hok : okWords op text num) (hss : s.size ≤ 120) (hat : m.at_ ≤ s.size) (hz : oneEnd op text num lo hi s m.at_ = none) :
    Calls Try.prog 68 #[.pointer (some ⟨M, 0, none⟩), .pointer (some ⟨b, 0, none⟩)] w (Did w0 M dv s n m (.fail)) := by
  have hblk := h.blk
  obtain ⟨np, rfl⟩ := hnv.ptr
  obtain ⟨cA, cc, rfl, _, _⟩ := h.caps.form
  obtain ⟨eA, ec, rfl, _, _⟩ := h.evs.form
  obtain ⟨hA, hc, rfl, _, _⟩ := h.chs.form
  obtain ⟨b0, b1, b2, b3, b4, b5, b6, b7, b8⟩ := cells_g hb
  have HI := Lib.hid h
  have HN := Lib.hid hnv
  have HB := Lib.hid hb
  skip
  have hbel := h.below.size
  have hMb : ¬ M = b := ne_of_type hblk hb (by decide)
  have hbM : ¬ b = M := fun e => hMb e.symm
  have HSI := Lib.hid hsi
  have HOK := Lib.hid hok
  have HZ := Lib.hid hz
  clear hsi hok hz
  clear h hnv hb
  go_enter Try.func68, Try.ntmps68
  go_wp2_with fail
  clear b0 b1 b2 b3 b4 b5 b6 b7 b8
  -- region 2: 17 operations, the last []
  refine wpU_begin [] [] (by kernel_rfl) (fun w1 hw1 => ?_)
  obtain ⟨hl1, hp1⟩ := drew_alloc hw1
  have HP1 := Lib.hid hp1
  have HM1 := Lib.hid (hl1.has hblk)
  have HL1 := Lib.hid hl1
  clear hw1 hl1 hp1 hblk
  refine wpU_take 0 (some 16) (v := ?_) rfl rfl (by kernel_rfl) (fun _ _ _ h => h) rfl (fun x hx => ?_) ?_
  rotate_left 1
  · obtain ⟨m0, m1, m2, m8, m9, m10, m11⟩ := cells_m (hx.has HM1.out); obtain ⟨p0, p1, p2, p3, p4, p5⟩ := cells_p (hx.has HP1.out); go_simp; first | done | with_reducible rfl | rw [if_neg (by omega)] | rw [if_pos (by omega)]
  simp only [Act.put, nA, nB, nC]
  refine wpU_take 1 (some 17) (v := ?_) rfl rfl (by kernel_rfl) (fun _ _ _ h => h) rfl (fun x hx => ?_) ?_
  rotate_left 1
  · go_simp; first | done | with_reducible rfl | rw [if_neg (by omega)] | rw [if_pos (by omega)]
  simp only [Act.put, nA, nB, nC]
  refine wpU_take 2 (some 18) (v := ?_) rfl rfl (by kernel_rfl) (fun _ _ _ h => h) rfl (fun x hx => ?_) ?_
  rotate_left 1
  · go_simp; first | done | with_reducible rfl | rw [if_neg (by omega)] | rw [if_pos (by omega)]
  simp only [Act.put, nA, nB, nC]
  refine wpU_take 3 (some 19) (v := ?_) rfl rfl (by kernel_rfl) (fun _ _ _ h => h) rfl (fun x hx => ?_) ?_
  rotate_left 1
  · go_simp; first | done | with_reducible rfl | rw [if_neg (by omega)] | rw [if_pos (by omega)]
  simp only [Act.put, nA, nB, nC]
  refine wpU_take 4 (some 20) (v := ?_) rfl rfl (by kernel_rfl) (fun _ _ _ h => h) rfl (fun x hx => ?_) ?_
  rotate_left 1
  · obtain ⟨m0, m1, m2, m8, m9, m10, m11⟩ := cells_m (hx.has HM1.out); obtain ⟨p0, p1, p2, p3, p4, p5⟩ := cells_p (hx.has HP1.out); go_simp; first | done | with_reducible rfl | rw [if_neg (by omega)] | rw [if_pos (by omega)]
  simp only [Act.put, nA, nB, nC]
  refine wpU_take 5 (some 21) (v := ?_) rfl rfl (by kernel_rfl) (fun _ _ _ h => h) rfl (fun x hx => ?_) ?_
  rotate_left 1
  · go_simp; first | done | with_reducible rfl | rw [if_neg (by omega)] | rw [if_pos (by omega)]
  simp only [Act.put, nA, nB, nC]
  refine wpU_take 6 (some 22) (v := ?_) rfl rfl (by kernel_rfl) (fun _ _ _ h => h) rfl (fun x hx => ?_) ?_
  rotate_left 1
  · go_simp; first | done | with_reducible rfl | rw [if_neg (by omega)] | rw [if_pos (by omega)]
  simp only [Act.put, nA, nB, nC]
  refine wpU_take 7 (some 23) (v := ?_) rfl rfl (by kernel_rfl) (fun _ _ _ h => h) rfl (fun x hx => ?_) ?_
  rotate_left 1
  · go_simp; first | done | with_reducible rfl | rw [if_neg (by omega)] | rw [if_pos (by omega)]
  simp only [Act.put, nA, nB, nC]
  refine wpU_take 8 (some 24) (v := ?_) rfl rfl (by kernel_rfl) (fun _ _ _ h => h) rfl (fun x hx => ?_) ?_
  rotate_left 1
  · obtain ⟨m0, m1, m2, m8, m9, m10, m11⟩ := cells_m (hx.has HM1.out); obtain ⟨p0, p1, p2, p3, p4, p5⟩ := cells_p (hx.has HP1.out); go_simp; first | done | with_reducible rfl | rw [if_neg (by omega)] | rw [if_pos (by omega)]
  simp only [Act.put, nA, nB, nC]
  refine wpU_step 9 (by kernel_rfl) rfl rfl ?_  -- call value (Go.Operand.func 78)
  go_wp2_with fail
  refine (simple_none HSI.out HOK.out hss hat HZ.out).mono ?_
  rintro e w2 ⟨y, rfl, hb2⟩
  go_wp2_with fail
  refine ⟨hb2, ?_⟩
  have HI2 := Lib.hid (HI.out.later (HL1.out.trans hb2))
  have HN2 := Lib.hid (HN.out.later (HL1.out.trans hb2))
  have HB2 := Lib.hid ((HL1.out.trans hb2).has HB.out)
  have HP2 := Lib.hid (Later.has hb2 HP1.out)
  clear HP1 HM1 HI HN HB HL1 hb2
  refine wpU_take 10 (some 15) (v := ?_) rfl rfl (by kernel_rfl) (fun _ _ _ h => h) rfl (fun x hx => ?_) ?_
  rotate_left 1
  · go_simp; first | done | with_reducible rfl | rw [if_neg (by omega)] | rw [if_pos (by omega)]
  simp only [Act.put, nA, nB, nC]
  refine wpU_take 11 (some 26) (v := ?_) rfl rfl (by kernel_rfl) (fun _ _ _ h => h) rfl (fun x hx => ?_) ?_
  rotate_left 1
  · go_simp; first | done | with_reducible rfl | rw [if_neg (by omega)] | rw [if_pos (by omega)]
  simp only [Act.put, nA, nB, nC]
  refine wpU_take 12 (some 27) (v := ?_) rfl rfl (by kernel_rfl) (fun _ _ _ h => h) rfl (fun x hx => ?_) ?_
  rotate_left 1
  · go_simp; first | done | with_reducible rfl | rw [if_neg (by omega)] | rw [if_pos (by omega)]
  simp only [Act.put, nA, nB, nC]
  refine wpU_take 13 (some 28) (v := ?_) rfl rfl (by kernel_rfl) (fun _ _ _ h => h) rfl (fun x hx => ?_) ?_
  rotate_left 1
  · go_simp; first | done | with_reducible rfl | rw [if_neg (by omega)] | rw [if_pos (by omega)]
  simp only [Act.put, nA, nB, nC]
  refine wpU_take 14 (some 8) (v := ?_) rfl rfl (by kernel_rfl) (fun _ _ _ h => h) rfl (fun x hx => ?_) ?_
  rotate_left 1
  · go_simp; first | done | with_reducible rfl | rw [if_neg (by omega)] | rw [if_pos (by omega)]
  simp only [Act.put, nA, nB, nC]
  refine wpU_take 15 (some 9) (v := ?_) rfl rfl (by kernel_rfl) (fun _ _ _ h => h) rfl (fun x hx => ?_) ?_
  rotate_left 1
  · go_simp; first | done | with_reducible rfl | rw [if_neg (by omega)] | rw [if_pos (by omega)]
  simp only [Act.put, nA, nB, nC]
  refine wpU_take 16 (some 10) (v := ?_) rfl rfl (by kernel_rfl) (fun _ _ _ h => h) rfl (fun x hx => ?_) ?_
  rotate_left 1
  · go_simp; first | done | with_reducible rfl | rw [if_neg (by omega)] | rw [if_pos (by omega)]
  simp only [Act.put, nA, nB, nC]
  refine wpU_last [] (by kernel_rfl) rfl rfl ?_
  obtain ⟨m0, m1, m2, m8, m9, m10, m11⟩ := cells_m HI2.out.blk
  obtain ⟨p0, p1, p2, p3, p4, p5⟩ := cells_p HP2.out
  obtain ⟨b0, b1, b2, b3, b4, b5, b6, b7, b8⟩ := cells_g HB2.out
  go_wp2_with fail
  go_ret3
  exact did_fail HI2.out

set_option maxRecDepth 100000 in
set_option maxHeartbeats 1000000 in
theorem match_abort {w0 w : World} {M : Nat} {dv : Value} {s : ByteArray} {n : Nat} {m : Mst} {cv ev hv : Value} {hs : List Value} {text : ByteArray} {num lo hi : Int} {l : Nat} {A : Option Addr} {c : Nat} {fr : Int} {nv : Value} {gs : List Goal} {b : Nat} 
    (h : ImplAt w0 w M dv s n m cv ev hv hs) (hb : w.heap[b]? = some (.cells #[.int .i64 0, .int .i64 21, .string text, .int .i64 num, .int .i64 lo, .int .i64 hi, .slice A l c, .int .i64 fr, nv] TG (0, 0)))
    (hnv : GoalsAt w0 w gs nv) :
    Calls Try.prog 68 #[.pointer (some ⟨M, 0, none⟩), .pointer (some ⟨b, 0, none⟩)] w (Did w0 M dv s n m (.stop)) := by
  have hblk := h.blk
  obtain ⟨np, rfl⟩ := hnv.ptr
  obtain ⟨cA, cc, rfl, _, _⟩ := h.caps.form
  obtain ⟨eA, ec, rfl, _, _⟩ := h.evs.form
  obtain ⟨hA, hc, rfl, _, _⟩ := h.chs.form
  obtain ⟨b0, b1, b2, b3, b4, b5, b6, b7, b8⟩ := cells_g hb
  have HI := Lib.hid h
  have HN := Lib.hid hnv
  have HB := Lib.hid hb
  skip
  have hbel := h.below.size
  have hMb : ¬ M = b := ne_of_type hblk hb (by decide)
  have hbM : ¬ b = M := fun e => hMb e.symm
  clear h hnv hb
  go_enter Try.func68, Try.ntmps68
  go_wp2_with fail
  clear b0 b1 b2 b3 b4 b5 b6 b7 b8
  -- region 2: 17 operations, the last []
  refine wpU_begin [] [] (by kernel_rfl) (fun w1 hw1 => ?_)
  obtain ⟨hl1, hp1⟩ := drew_alloc hw1
  have HP1 := Lib.hid hp1
  have HM1 := Lib.hid (hl1.has hblk)
  have HL1 := Lib.hid hl1
  clear hw1 hl1 hp1 hblk
  refine wpU_take 0 (some 16) (v := ?_) rfl rfl (by kernel_rfl) (fun _ _ _ h => h) rfl (fun x hx => ?_) ?_
  rotate_left 1
  · obtain ⟨m0, m1, m2, m8, m9, m10, m11⟩ := cells_m (hx.has HM1.out); obtain ⟨p0, p1, p2, p3, p4, p5⟩ := cells_p (hx.has HP1.out); go_simp; first | done | with_reducible rfl | rw [if_neg (by omega)] | rw [if_pos (by omega)]
  simp only [Act.put, nA, nB, nC]
  refine wpU_take 1 (some 17) (v := ?_) rfl rfl (by kernel_rfl) (fun _ _ _ h => h) rfl (fun x hx => ?_) ?_
  rotate_left 1
  · go_simp; first | done | with_reducible rfl | rw [if_neg (by omega)] | rw [if_pos (by omega)]
  simp only [Act.put, nA, nB, nC]
  refine wpU_take 2 (some 18) (v := ?_) rfl rfl (by kernel_rfl) (fun _ _ _ h => h) rfl (fun x hx => ?_) ?_
  rotate_left 1
  · go_simp; first | done | with_reducible rfl | rw [if_neg (by omega)] | rw [if_pos (by omega)]
  simp only [Act.put, nA, nB, nC]
  refine wpU_take 3 (some 19) (v := ?_) rfl rfl (by kernel_rfl) (fun _ _ _ h => h) rfl (fun x hx => ?_) ?_
  rotate_left 1
  · go_simp; first | done | with_reducible rfl | rw [if_neg (by omega)] | rw [if_pos (by omega)]
  simp only [Act.put, nA, nB, nC]
  refine wpU_take 4 (some 20) (v := ?_) rfl rfl (by kernel_rfl) (fun _ _ _ h => h) rfl (fun x hx => ?_) ?_
  rotate_left 1
  · obtain ⟨m0, m1, m2, m8, m9, m10, m11⟩ := cells_m (hx.has HM1.out); obtain ⟨p0, p1, p2, p3, p4, p5⟩ := cells_p (hx.has HP1.out); go_simp; first | done | with_reducible rfl | rw [if_neg (by omega)] | rw [if_pos (by omega)]
  simp only [Act.put, nA, nB, nC]
  refine wpU_take 5 (some 21) (v := ?_) rfl rfl (by kernel_rfl) (fun _ _ _ h => h) rfl (fun x hx => ?_) ?_
  rotate_left 1
  · go_simp; first | done | with_reducible rfl | rw [if_neg (by omega)] | rw [if_pos (by omega)]
  simp only [Act.put, nA, nB, nC]
  refine wpU_take 6 (some 22) (v := ?_) rfl rfl (by kernel_rfl) (fun _ _ _ h => h) rfl (fun x hx => ?_) ?_
  rotate_left 1
  · go_simp; first | done | with_reducible rfl | rw [if_neg (by omega)] | rw [if_pos (by omega)]
  simp only [Act.put, nA, nB, nC]
  refine wpU_take 7 (some 23) (v := ?_) rfl rfl (by kernel_rfl) (fun _ _ _ h => h) rfl (fun x hx => ?_) ?_
  rotate_left 1
  · go_simp; first | done | with_reducible rfl | rw [if_neg (by omega)] | rw [if_pos (by omega)]
  simp only [Act.put, nA, nB, nC]
  refine wpU_take 8 (some 24) (v := ?_) rfl rfl (by kernel_rfl) (fun _ _ _ h => h) rfl (fun x hx => ?_) ?_
  rotate_left 1
  · obtain ⟨m0, m1, m2, m8, m9, m10, m11⟩ := cells_m (hx.has HM1.out); obtain ⟨p0, p1, p2, p3, p4, p5⟩ := cells_p (hx.has HP1.out); go_simp; first | done | with_reducible rfl | rw [if_neg (by omega)] | rw [if_pos (by omega)]
  simp only [Act.put, nA, nB, nC]
  refine wpU_step 9 (by kernel_rfl) rfl rfl ?_  -- call value (Go.Operand.func 78)
  go_wp2_with fail
  refine (simple_else text num lo hi A l c s m.at_ _ 21 (by omega)).mono ?_
  rintro e w2 ⟨rfl, hb2⟩
  go_wp2_with fail
  refine ⟨hb2, ?_⟩
  have HI2 := Lib.hid (HI.out.later (HL1.out.trans hb2))
  have HN2 := Lib.hid (HN.out.later (HL1.out.trans hb2))
  have HB2 := Lib.hid ((HL1.out.trans hb2).has HB.out)
  have HP2 := Lib.hid (Later.has hb2 HP1.out)
  clear HP1 HM1 HI HN HB HL1 hb2
  refine wpU_take 10 (some 15) (v := ?_) rfl rfl (by kernel_rfl) (fun _ _ _ h => h) rfl (fun x hx => ?_) ?_
  rotate_left 1
  · go_simp; first | done | with_reducible rfl | rw [if_neg (by omega)] | rw [if_pos (by omega)]
  simp only [Act.put, nA, nB, nC]
  refine wpU_take 11 (some 26) (v := ?_) rfl rfl (by kernel_rfl) (fun _ _ _ h => h) rfl (fun x hx => ?_) ?_
  rotate_left 1
  · go_simp; first | done | with_reducible rfl | rw [if_neg (by omega)] | rw [if_pos (by omega)]
  simp only [Act.put, nA, nB, nC]
  refine wpU_take 12 (some 27) (v := ?_) rfl rfl (by kernel_rfl) (fun _ _ _ h => h) rfl (fun x hx => ?_) ?_
  rotate_left 1
  · go_simp; first | done | with_reducible rfl | rw [if_neg (by omega)] | rw [if_pos (by omega)]
  simp only [Act.put, nA, nB, nC]
  refine wpU_take 13 (some 28) (v := ?_) rfl rfl (by kernel_rfl) (fun _ _ _ h => h) rfl (fun x hx => ?_) ?_
  rotate_left 1
  · go_simp; first | done | with_reducible rfl | rw [if_neg (by omega)] | rw [if_pos (by omega)]
  simp only [Act.put, nA, nB, nC]
  refine wpU_take 14 (some 8) (v := ?_) rfl rfl (by kernel_rfl) (fun _ _ _ h => h) rfl (fun x hx => ?_) ?_
  rotate_left 1
  · go_simp; first | done | with_reducible rfl | rw [if_neg (by omega)] | rw [if_pos (by omega)]
  simp only [Act.put, nA, nB, nC]
  refine wpU_take 15 (some 9) (v := ?_) rfl rfl (by kernel_rfl) (fun _ _ _ h => h) rfl (fun x hx => ?_) ?_
  rotate_left 1
  · go_simp; first | done | with_reducible rfl | rw [if_neg (by omega)] | rw [if_pos (by omega)]
  simp only [Act.put, nA, nB, nC]
  refine wpU_take 16 (some 10) (v := ?_) rfl rfl (by kernel_rfl) (fun _ _ _ h => h) rfl (fun x hx => ?_) ?_
  rotate_left 1
  · go_simp; first | done | with_reducible rfl | rw [if_neg (by omega)] | rw [if_pos (by omega)]
  simp only [Act.put, nA, nB, nC]
  refine wpU_last [] (by kernel_rfl) rfl rfl ?_
  obtain ⟨m0, m1, m2, m8, m9, m10, m11⟩ := cells_m HI2.out.blk
  obtain ⟨p0, p1, p2, p3, p4, p5⟩ := cells_p HP2.out
  obtain ⟨b0, b1, b2, b3, b4, b5, b6, b7, b8⟩ := cells_g HB2.out
  go_wp2_with fail
  go_ret3
  exact did_stop HI2.out

end Go.Proofs.Ytndefbecoahfhaa

/- impl's match. Printed by gen_match.py. -/
namespace Go.Proofs.Ytndefbecoahfhaa
open Go.RowKit

set_option maxRecDepth 100000 in
set_option maxHeartbeats 1000000 in
theorem match_arb_yes {w0 w : World} {M : Nat} {dv : Value} {s : ByteArray} {n : Nat} {m : Mst} {cv ev hv : Value} {hs : List Value} {text : ByteArray} {num lo hi : Int} {l : Nat} {kids : List Pat} {A : Option Addr} {c : Nat} {fr : Int} {nv : Value} {gs : List Goal} {b : Nat} 
    (h : ImplAt w0 w M dv s n m cv ev hv hs) (hb : w.heap[b]? = some (.cells #[.int .i64 0, .int .i64 11, .string text, .int .i64 num, .int .i64 lo, .int .i64 hi, .slice A l c, .int .i64 fr, nv] TG (0, 0)))
    (hkid : KidsIn w0 (.mk 11 text num lo hi kids) (.slice A l c)) (hnv : GoalsAt w0 w gs nv) (hlt : m.at_ < s.size) (hch : m.choices.length ≤ 5000) (hss : s.size ≤ 120) (hfr : fr = 0) :
    Calls Try.prog 68 #[.pointer (some ⟨M, 0, none⟩), .pointer (some ⟨b, 0, none⟩)] w (Did w0 M dv s n m (.go gs (m.choose (⟨0, .mk 11 text num lo hi kids, 0⟩ :: gs) (m.at_ + 1)))) := by
  have hblk := h.blk
  obtain ⟨np, rfl⟩ := hnv.ptr
  obtain ⟨cA, cc, rfl, _, _⟩ := h.caps.form
  obtain ⟨eA, ec, rfl, _, _⟩ := h.evs.form
  obtain ⟨hA, hc, rfl, _, _⟩ := h.chs.form
  obtain ⟨b0, b1, b2, b3, b4, b5, b6, b7, b8⟩ := cells_g hb
  have HI := Lib.hid h
  have HN := Lib.hid hnv
  have HB := Lib.hid hb
  have HR := Lib.hid (kids_row hkid)
  have HKID := Lib.hid hkid
  have hbel := h.below.size
  have hMb : ¬ M = b := ne_of_type hblk hb (by decide)
  have hbM : ¬ b = M := fun e => hMb e.symm
  subst hfr
  clear h hnv hb hkid
  go_enter Try.func68, Try.ntmps68
  go_wp2_with fail
  clear b0 b1 b2 b3 b4 b5 b6 b7 b8
  -- region 2: 17 operations, the last []
  refine wpU_begin [] [] (by kernel_rfl) (fun w1 hw1 => ?_)
  obtain ⟨hl1, hp1⟩ := drew_alloc hw1
  have HP1 := Lib.hid hp1
  have HM1 := Lib.hid (hl1.has hblk)
  have HL1 := Lib.hid hl1
  clear hw1 hl1 hp1 hblk
  refine wpU_take 0 (some 16) (v := ?_) rfl rfl (by kernel_rfl) (fun _ _ _ h => h) rfl (fun x hx => ?_) ?_
  rotate_left 1
  · obtain ⟨m0, m1, m2, m8, m9, m10, m11⟩ := cells_m (hx.has HM1.out); obtain ⟨p0, p1, p2, p3, p4, p5⟩ := cells_p (hx.has HP1.out); go_simp; first | done | with_reducible rfl | rw [if_neg (by omega)] | rw [if_pos (by omega)]
  simp only [Act.put, nA, nB, nC]
  refine wpU_take 1 (some 17) (v := ?_) rfl rfl (by kernel_rfl) (fun _ _ _ h => h) rfl (fun x hx => ?_) ?_
  rotate_left 1
  · go_simp; first | done | with_reducible rfl | rw [if_neg (by omega)] | rw [if_pos (by omega)]
  simp only [Act.put, nA, nB, nC]
  refine wpU_take 2 (some 18) (v := ?_) rfl rfl (by kernel_rfl) (fun _ _ _ h => h) rfl (fun x hx => ?_) ?_
  rotate_left 1
  · go_simp; first | done | with_reducible rfl | rw [if_neg (by omega)] | rw [if_pos (by omega)]
  simp only [Act.put, nA, nB, nC]
  refine wpU_take 3 (some 19) (v := ?_) rfl rfl (by kernel_rfl) (fun _ _ _ h => h) rfl (fun x hx => ?_) ?_
  rotate_left 1
  · go_simp; first | done | with_reducible rfl | rw [if_neg (by omega)] | rw [if_pos (by omega)]
  simp only [Act.put, nA, nB, nC]
  refine wpU_take 4 (some 20) (v := ?_) rfl rfl (by kernel_rfl) (fun _ _ _ h => h) rfl (fun x hx => ?_) ?_
  rotate_left 1
  · obtain ⟨m0, m1, m2, m8, m9, m10, m11⟩ := cells_m (hx.has HM1.out); obtain ⟨p0, p1, p2, p3, p4, p5⟩ := cells_p (hx.has HP1.out); go_simp; first | done | with_reducible rfl | rw [if_neg (by omega)] | rw [if_pos (by omega)]
  simp only [Act.put, nA, nB, nC]
  refine wpU_take 5 (some 21) (v := ?_) rfl rfl (by kernel_rfl) (fun _ _ _ h => h) rfl (fun x hx => ?_) ?_
  rotate_left 1
  · go_simp; first | done | with_reducible rfl | rw [if_neg (by omega)] | rw [if_pos (by omega)]
  simp only [Act.put, nA, nB, nC]
  refine wpU_take 6 (some 22) (v := ?_) rfl rfl (by kernel_rfl) (fun _ _ _ h => h) rfl (fun x hx => ?_) ?_
  rotate_left 1
  · go_simp; first | done | with_reducible rfl | rw [if_neg (by omega)] | rw [if_pos (by omega)]
  simp only [Act.put, nA, nB, nC]
  refine wpU_take 7 (some 23) (v := ?_) rfl rfl (by kernel_rfl) (fun _ _ _ h => h) rfl (fun x hx => ?_) ?_
  rotate_left 1
  · go_simp; first | done | with_reducible rfl | rw [if_neg (by omega)] | rw [if_pos (by omega)]
  simp only [Act.put, nA, nB, nC]
  refine wpU_take 8 (some 24) (v := ?_) rfl rfl (by kernel_rfl) (fun _ _ _ h => h) rfl (fun x hx => ?_) ?_
  rotate_left 1
  · obtain ⟨m0, m1, m2, m8, m9, m10, m11⟩ := cells_m (hx.has HM1.out); obtain ⟨p0, p1, p2, p3, p4, p5⟩ := cells_p (hx.has HP1.out); go_simp; first | done | with_reducible rfl | rw [if_neg (by omega)] | rw [if_pos (by omega)]
  simp only [Act.put, nA, nB, nC]
  refine wpU_step 9 (by kernel_rfl) rfl rfl ?_  -- call value (Go.Operand.func 78)
  go_wp2_with fail
  refine (simple_else text num lo hi A l c s m.at_ _ 11 (by omega)).mono ?_
  rintro e w2 ⟨rfl, hb2⟩
  go_wp2_with fail
  refine ⟨hb2, ?_⟩
  have HI2 := Lib.hid (HI.out.later (HL1.out.trans hb2))
  have HN2 := Lib.hid (HN.out.later (HL1.out.trans hb2))
  have HB2 := Lib.hid ((HL1.out.trans hb2).has HB.out)
  have HP2 := Lib.hid (Later.has hb2 HP1.out)
  clear HP1 HM1 HI HN HB HL1 hb2
  refine wpU_take 10 (some 15) (v := ?_) rfl rfl (by kernel_rfl) (fun _ _ _ h => h) rfl (fun x hx => ?_) ?_
  rotate_left 1
  · go_simp; first | done | with_reducible rfl | rw [if_neg (by omega)] | rw [if_pos (by omega)]
  simp only [Act.put, nA, nB, nC]
  refine wpU_take 11 (some 26) (v := ?_) rfl rfl (by kernel_rfl) (fun _ _ _ h => h) rfl (fun x hx => ?_) ?_
  rotate_left 1
  · go_simp; first | done | with_reducible rfl | rw [if_neg (by omega)] | rw [if_pos (by omega)]
  simp only [Act.put, nA, nB, nC]
  refine wpU_take 12 (some 27) (v := ?_) rfl rfl (by kernel_rfl) (fun _ _ _ h => h) rfl (fun x hx => ?_) ?_
  rotate_left 1
  · go_simp; first | done | with_reducible rfl | rw [if_neg (by omega)] | rw [if_pos (by omega)]
  simp only [Act.put, nA, nB, nC]
  refine wpU_take 13 (some 28) (v := ?_) rfl rfl (by kernel_rfl) (fun _ _ _ h => h) rfl (fun x hx => ?_) ?_
  rotate_left 1
  · go_simp; first | done | with_reducible rfl | rw [if_neg (by omega)] | rw [if_pos (by omega)]
  simp only [Act.put, nA, nB, nC]
  refine wpU_take 14 (some 8) (v := ?_) rfl rfl (by kernel_rfl) (fun _ _ _ h => h) rfl (fun x hx => ?_) ?_
  rotate_left 1
  · go_simp; first | done | with_reducible rfl | rw [if_neg (by omega)] | rw [if_pos (by omega)]
  simp only [Act.put, nA, nB, nC]
  refine wpU_take 15 (some 9) (v := ?_) rfl rfl (by kernel_rfl) (fun _ _ _ h => h) rfl (fun x hx => ?_) ?_
  rotate_left 1
  · go_simp; first | done | with_reducible rfl | rw [if_neg (by omega)] | rw [if_pos (by omega)]
  simp only [Act.put, nA, nB, nC]
  refine wpU_take 16 (some 10) (v := ?_) rfl rfl (by kernel_rfl) (fun _ _ _ h => h) rfl (fun x hx => ?_) ?_
  rotate_left 1
  · go_simp; first | done | with_reducible rfl | rw [if_neg (by omega)] | rw [if_pos (by omega)]
  simp only [Act.put, nA, nB, nC]
  refine wpU_last [] (by kernel_rfl) rfl rfl ?_
  obtain ⟨m0, m1, m2, m8, m9, m10, m11⟩ := cells_m HI2.out.blk
  obtain ⟨p0, p1, p2, p3, p4, p5⟩ := cells_p HP2.out
  obtain ⟨b0, b1, b2, b3, b4, b5, b6, b7, b8⟩ := cells_g HB2.out
  go_wp2_with fail
  clear m0 m1 m2 m8 m9 m10 m11 p0 p1 p2 p3 p4 p5 b0 b1 b2 b3 b4 b5 b6 b7 b8
  -- region 9: 10 operations, the last []
  refine wpU_begin [] [] (by kernel_rfl) (fun w3 hw3 => ?_)
  have hl3 := drew_later hw3
  have HI3 := Lib.hid (HI2.out.later hl3)
  have HN3 := Lib.hid (HN2.out.later hl3)
  have HB3 := Lib.hid (hl3.has HB2.out)
  have HP3 := Lib.hid (hl3.has HP2.out)
  clear hw3 hl3 HI2 HN2 HB2 HP2
  refine wpU_take 0 (some 44) (v := ?_) rfl rfl (by kernel_rfl) (fun _ _ _ h => h) rfl (fun x hx => ?_) ?_
  rotate_left 1
  · go_simp; first | done | with_reducible rfl | rw [if_neg (by omega)] | rw [if_pos (by omega)]
  simp only [Act.put, nA, nB, nC]
  refine wpU_take 1 (some 45) (v := ?_) rfl rfl (by kernel_rfl) (fun _ _ _ h => h) rfl (fun x hx => ?_) ?_
  rotate_left 1
  · go_simp; first | done | with_reducible rfl | rw [if_neg (by omega)] | rw [if_pos (by omega)]
  simp only [Act.put, nA, nB, nC]
  refine wpU_take 2 (some 46) (v := ?_) rfl rfl (by kernel_rfl) (fun _ _ _ h => h) rfl (fun x hx => ?_) ?_
  rotate_left 1
  · go_simp; first | done | with_reducible rfl | rw [if_neg (by omega)] | rw [if_pos (by omega)]
  simp only [Act.put, nA, nB, nC]
  refine wpU_take 3 (some 47) (v := ?_) rfl rfl (by kernel_rfl) (fun _ _ _ h => h) rfl (fun x hx => ?_) ?_
  rotate_left 1
  · obtain ⟨m0, m1, m2, m8, m9, m10, m11⟩ := cells_m (hx.has HI3.out.blk); obtain ⟨p0, p1, p2, p3, p4, p5⟩ := cells_p (hx.has HP3.out); obtain ⟨b0, b1, b2, b3, b4, b5, b6, b7, b8⟩ := cells_g (hx.has HB3.out); go_simp; first | done | with_reducible rfl | rw [if_neg (by omega)] | rw [if_pos (by omega)]
  simp only [Act.put, nA, nB, nC]
  refine wpU_take 4 (some 48) (v := ?_) rfl rfl (by kernel_rfl) (fun _ _ _ h => h) rfl (fun x hx => ?_) ?_
  rotate_left 1
  · go_simp; first | done | with_reducible rfl | rw [if_neg (by omega)] | rw [if_pos (by omega)]
  simp only [Act.put, nA, nB, nC]
  refine wpU_take 5 (some 49) (v := ?_) rfl rfl (by kernel_rfl) (fun _ _ _ h => h) rfl (fun x hx => ?_) ?_
  rotate_left 1
  · go_simp; first | done | with_reducible rfl | rw [if_neg (by omega)] | rw [if_pos (by omega)]
  simp only [Act.put, nA, nB, nC]
  refine wpU_take 6 (some 50) (v := ?_) rfl rfl (by kernel_rfl) (fun _ _ _ h => h) rfl (fun x hx => ?_) ?_
  rotate_left 1
  · go_simp; first | done | with_reducible rfl | rw [if_neg (by omega)] | rw [if_pos (by omega)]
  simp only [Act.put, nA, nB, nC]
  refine wpU_take 7 (some 51) (v := ?_) rfl rfl (by kernel_rfl) (fun _ _ _ h => h) rfl (fun x hx => ?_) ?_
  rotate_left 1
  · obtain ⟨m0, m1, m2, m8, m9, m10, m11⟩ := cells_m (hx.has HI3.out.blk); obtain ⟨p0, p1, p2, p3, p4, p5⟩ := cells_p (hx.has HP3.out); obtain ⟨b0, b1, b2, b3, b4, b5, b6, b7, b8⟩ := cells_g (hx.has HB3.out); go_simp; first | done | with_reducible rfl | rw [if_neg (by omega)] | rw [if_pos (by omega)]
  simp only [Act.put, nA, nB, nC]
  refine wpU_take 8 (some 52) (v := ?_) rfl rfl (by kernel_rfl) (fun _ _ _ h => h) rfl (fun x hx => ?_) ?_
  rotate_left 1
  · go_simp; first | done | with_reducible rfl | rw [if_neg (by omega)] | rw [if_pos (by omega)]
  simp only [Act.put, nA, nB, nC]
  refine wpU_take 9 (some 53) (v := ?_) rfl rfl (by kernel_rfl) (fun _ _ _ h => h) rfl (fun x hx => ?_) ?_
  rotate_left 1
  · go_simp; first | done | with_reducible rfl | rw [if_neg (by omega)] | rw [if_pos (by omega)]
  simp only [Act.put, nA, nB, nC]
  refine wpU_last [] (by kernel_rfl) rfl rfl ?_
  obtain ⟨m0, m1, m2, m8, m9, m10, m11⟩ := cells_m HI3.out.blk
  have hat1 : (m.at_ : Int) + 1 ≤ 121 := by omega
  go_wp2_with fail
  refine (choose_at (m.at_ + 1) HI3.out (HN3.out.here ⟨0, .mk 11 text num lo hi kids, 0⟩ HKID.out HB3.out) hch _ (by omega)).mono ?_
  rintro e w4 ⟨rfl, hv4, hs4, hI4, hK4⟩
  have HI4 := Lib.hid hI4
  have HB4 := Lib.hid (hK4 b _ HB3.out)
  have HN4 := Lib.hid (HN3.out.keep (hK4) _ _)
  clear hI4 hK4
  obtain ⟨b0, b1, b2, b3, b4, b5, b6, b7, b8⟩ := cells_g HB4.out
  go_wp2_with fail
  go_ret3
  exact did_go HN4.out HI4.out

set_option maxRecDepth 100000 in
set_option maxHeartbeats 1000000 in
theorem match_arb_no {w0 w : World} {M : Nat} {dv : Value} {s : ByteArray} {n : Nat} {m : Mst} {cv ev hv : Value} {hs : List Value} {text : ByteArray} {num lo hi : Int} {l : Nat} {A : Option Addr} {c : Nat} {fr : Int} {nv : Value} {gs : List Goal} {b : Nat} 
    (h : ImplAt w0 w M dv s n m cv ev hv hs) (hb : w.heap[b]? = some (.cells #[.int .i64 0, .int .i64 11, .string text, .int .i64 num, .int .i64 lo, .int .i64 hi, .slice A l c, .int .i64 fr, nv] TG (0, 0)))
    (hnv : GoalsAt w0 w gs nv) (hlt : ¬ m.at_ < s.size) :
    Calls Try.prog 68 #[.pointer (some ⟨M, 0, none⟩), .pointer (some ⟨b, 0, none⟩)] w (Did w0 M dv s n m (.go gs m)) := by
  have hblk := h.blk
  obtain ⟨np, rfl⟩ := hnv.ptr
  obtain ⟨cA, cc, rfl, _, _⟩ := h.caps.form
  obtain ⟨eA, ec, rfl, _, _⟩ := h.evs.form
  obtain ⟨hA, hc, rfl, _, _⟩ := h.chs.form
  obtain ⟨b0, b1, b2, b3, b4, b5, b6, b7, b8⟩ := cells_g hb
  have HI := Lib.hid h
  have HN := Lib.hid hnv
  have HB := Lib.hid hb
  skip
  have hbel := h.below.size
  have hMb : ¬ M = b := ne_of_type hblk hb (by decide)
  have hbM : ¬ b = M := fun e => hMb e.symm
  clear h hnv hb
  go_enter Try.func68, Try.ntmps68
  go_wp2_with fail
  clear b0 b1 b2 b3 b4 b5 b6 b7 b8
  -- region 2: 17 operations, the last []
  refine wpU_begin [] [] (by kernel_rfl) (fun w1 hw1 => ?_)
  obtain ⟨hl1, hp1⟩ := drew_alloc hw1
  have HP1 := Lib.hid hp1
  have HM1 := Lib.hid (hl1.has hblk)
  have HL1 := Lib.hid hl1
  clear hw1 hl1 hp1 hblk
  refine wpU_take 0 (some 16) (v := ?_) rfl rfl (by kernel_rfl) (fun _ _ _ h => h) rfl (fun x hx => ?_) ?_
  rotate_left 1
  · obtain ⟨m0, m1, m2, m8, m9, m10, m11⟩ := cells_m (hx.has HM1.out); obtain ⟨p0, p1, p2, p3, p4, p5⟩ := cells_p (hx.has HP1.out); go_simp; first | done | with_reducible rfl | rw [if_neg (by omega)] | rw [if_pos (by omega)]
  simp only [Act.put, nA, nB, nC]
  refine wpU_take 1 (some 17) (v := ?_) rfl rfl (by kernel_rfl) (fun _ _ _ h => h) rfl (fun x hx => ?_) ?_
  rotate_left 1
  · go_simp; first | done | with_reducible rfl | rw [if_neg (by omega)] | rw [if_pos (by omega)]
  simp only [Act.put, nA, nB, nC]
  refine wpU_take 2 (some 18) (v := ?_) rfl rfl (by kernel_rfl) (fun _ _ _ h => h) rfl (fun x hx => ?_) ?_
  rotate_left 1
  · go_simp; first | done | with_reducible rfl | rw [if_neg (by omega)] | rw [if_pos (by omega)]
  simp only [Act.put, nA, nB, nC]
  refine wpU_take 3 (some 19) (v := ?_) rfl rfl (by kernel_rfl) (fun _ _ _ h => h) rfl (fun x hx => ?_) ?_
  rotate_left 1
  · go_simp; first | done | with_reducible rfl | rw [if_neg (by omega)] | rw [if_pos (by omega)]
  simp only [Act.put, nA, nB, nC]
  refine wpU_take 4 (some 20) (v := ?_) rfl rfl (by kernel_rfl) (fun _ _ _ h => h) rfl (fun x hx => ?_) ?_
  rotate_left 1
  · obtain ⟨m0, m1, m2, m8, m9, m10, m11⟩ := cells_m (hx.has HM1.out); obtain ⟨p0, p1, p2, p3, p4, p5⟩ := cells_p (hx.has HP1.out); go_simp; first | done | with_reducible rfl | rw [if_neg (by omega)] | rw [if_pos (by omega)]
  simp only [Act.put, nA, nB, nC]
  refine wpU_take 5 (some 21) (v := ?_) rfl rfl (by kernel_rfl) (fun _ _ _ h => h) rfl (fun x hx => ?_) ?_
  rotate_left 1
  · go_simp; first | done | with_reducible rfl | rw [if_neg (by omega)] | rw [if_pos (by omega)]
  simp only [Act.put, nA, nB, nC]
  refine wpU_take 6 (some 22) (v := ?_) rfl rfl (by kernel_rfl) (fun _ _ _ h => h) rfl (fun x hx => ?_) ?_
  rotate_left 1
  · go_simp; first | done | with_reducible rfl | rw [if_neg (by omega)] | rw [if_pos (by omega)]
  simp only [Act.put, nA, nB, nC]
  refine wpU_take 7 (some 23) (v := ?_) rfl rfl (by kernel_rfl) (fun _ _ _ h => h) rfl (fun x hx => ?_) ?_
  rotate_left 1
  · go_simp; first | done | with_reducible rfl | rw [if_neg (by omega)] | rw [if_pos (by omega)]
  simp only [Act.put, nA, nB, nC]
  refine wpU_take 8 (some 24) (v := ?_) rfl rfl (by kernel_rfl) (fun _ _ _ h => h) rfl (fun x hx => ?_) ?_
  rotate_left 1
  · obtain ⟨m0, m1, m2, m8, m9, m10, m11⟩ := cells_m (hx.has HM1.out); obtain ⟨p0, p1, p2, p3, p4, p5⟩ := cells_p (hx.has HP1.out); go_simp; first | done | with_reducible rfl | rw [if_neg (by omega)] | rw [if_pos (by omega)]
  simp only [Act.put, nA, nB, nC]
  refine wpU_step 9 (by kernel_rfl) rfl rfl ?_  -- call value (Go.Operand.func 78)
  go_wp2_with fail
  refine (simple_else text num lo hi A l c s m.at_ _ 11 (by omega)).mono ?_
  rintro e w2 ⟨rfl, hb2⟩
  go_wp2_with fail
  refine ⟨hb2, ?_⟩
  have HI2 := Lib.hid (HI.out.later (HL1.out.trans hb2))
  have HN2 := Lib.hid (HN.out.later (HL1.out.trans hb2))
  have HB2 := Lib.hid ((HL1.out.trans hb2).has HB.out)
  have HP2 := Lib.hid (Later.has hb2 HP1.out)
  clear HP1 HM1 HI HN HB HL1 hb2
  refine wpU_take 10 (some 15) (v := ?_) rfl rfl (by kernel_rfl) (fun _ _ _ h => h) rfl (fun x hx => ?_) ?_
  rotate_left 1
  · go_simp; first | done | with_reducible rfl | rw [if_neg (by omega)] | rw [if_pos (by omega)]
  simp only [Act.put, nA, nB, nC]
  refine wpU_take 11 (some 26) (v := ?_) rfl rfl (by kernel_rfl) (fun _ _ _ h => h) rfl (fun x hx => ?_) ?_
  rotate_left 1
  · go_simp; first | done | with_reducible rfl | rw [if_neg (by omega)] | rw [if_pos (by omega)]
  simp only [Act.put, nA, nB, nC]
  refine wpU_take 12 (some 27) (v := ?_) rfl rfl (by kernel_rfl) (fun _ _ _ h => h) rfl (fun x hx => ?_) ?_
  rotate_left 1
  · go_simp; first | done | with_reducible rfl | rw [if_neg (by omega)] | rw [if_pos (by omega)]
  simp only [Act.put, nA, nB, nC]
  refine wpU_take 13 (some 28) (v := ?_) rfl rfl (by kernel_rfl) (fun _ _ _ h => h) rfl (fun x hx => ?_) ?_
  rotate_left 1
  · go_simp; first | done | with_reducible rfl | rw [if_neg (by omega)] | rw [if_pos (by omega)]
  simp only [Act.put, nA, nB, nC]
  refine wpU_take 14 (some 8) (v := ?_) rfl rfl (by kernel_rfl) (fun _ _ _ h => h) rfl (fun x hx => ?_) ?_
  rotate_left 1
  · go_simp; first | done | with_reducible rfl | rw [if_neg (by omega)] | rw [if_pos (by omega)]
  simp only [Act.put, nA, nB, nC]
  refine wpU_take 15 (some 9) (v := ?_) rfl rfl (by kernel_rfl) (fun _ _ _ h => h) rfl (fun x hx => ?_) ?_
  rotate_left 1
  · go_simp; first | done | with_reducible rfl | rw [if_neg (by omega)] | rw [if_pos (by omega)]
  simp only [Act.put, nA, nB, nC]
  refine wpU_take 16 (some 10) (v := ?_) rfl rfl (by kernel_rfl) (fun _ _ _ h => h) rfl (fun x hx => ?_) ?_
  rotate_left 1
  · go_simp; first | done | with_reducible rfl | rw [if_neg (by omega)] | rw [if_pos (by omega)]
  simp only [Act.put, nA, nB, nC]
  refine wpU_last [] (by kernel_rfl) rfl rfl ?_
  obtain ⟨m0, m1, m2, m8, m9, m10, m11⟩ := cells_m HI2.out.blk
  obtain ⟨p0, p1, p2, p3, p4, p5⟩ := cells_p HP2.out
  obtain ⟨b0, b1, b2, b3, b4, b5, b6, b7, b8⟩ := cells_g HB2.out
  go_wp2_with fail
  clear m0 m1 m2 m8 m9 m10 m11 p0 p1 p2 p3 p4 p5 b0 b1 b2 b3 b4 b5 b6 b7 b8
  -- region 9: 10 operations, the last []
  refine wpU_begin [] [] (by kernel_rfl) (fun w3 hw3 => ?_)
  have hl3 := drew_later hw3
  have HI3 := Lib.hid (HI2.out.later hl3)
  have HN3 := Lib.hid (HN2.out.later hl3)
  have HB3 := Lib.hid (hl3.has HB2.out)
  have HP3 := Lib.hid (hl3.has HP2.out)
  clear hw3 hl3 HI2 HN2 HB2 HP2
  refine wpU_take 0 (some 44) (v := ?_) rfl rfl (by kernel_rfl) (fun _ _ _ h => h) rfl (fun x hx => ?_) ?_
  rotate_left 1
  · go_simp; first | done | with_reducible rfl | rw [if_neg (by omega)] | rw [if_pos (by omega)]
  simp only [Act.put, nA, nB, nC]
  refine wpU_take 1 (some 45) (v := ?_) rfl rfl (by kernel_rfl) (fun _ _ _ h => h) rfl (fun x hx => ?_) ?_
  rotate_left 1
  · go_simp; first | done | with_reducible rfl | rw [if_neg (by omega)] | rw [if_pos (by omega)]
  simp only [Act.put, nA, nB, nC]
  refine wpU_take 2 (some 46) (v := ?_) rfl rfl (by kernel_rfl) (fun _ _ _ h => h) rfl (fun x hx => ?_) ?_
  rotate_left 1
  · go_simp; first | done | with_reducible rfl | rw [if_neg (by omega)] | rw [if_pos (by omega)]
  simp only [Act.put, nA, nB, nC]
  refine wpU_take 3 (some 47) (v := ?_) rfl rfl (by kernel_rfl) (fun _ _ _ h => h) rfl (fun x hx => ?_) ?_
  rotate_left 1
  · obtain ⟨m0, m1, m2, m8, m9, m10, m11⟩ := cells_m (hx.has HI3.out.blk); obtain ⟨p0, p1, p2, p3, p4, p5⟩ := cells_p (hx.has HP3.out); obtain ⟨b0, b1, b2, b3, b4, b5, b6, b7, b8⟩ := cells_g (hx.has HB3.out); go_simp; first | done | with_reducible rfl | rw [if_neg (by omega)] | rw [if_pos (by omega)]
  simp only [Act.put, nA, nB, nC]
  refine wpU_take 4 (some 48) (v := ?_) rfl rfl (by kernel_rfl) (fun _ _ _ h => h) rfl (fun x hx => ?_) ?_
  rotate_left 1
  · go_simp; first | done | with_reducible rfl | rw [if_neg (by omega)] | rw [if_pos (by omega)]
  simp only [Act.put, nA, nB, nC]
  refine wpU_take 5 (some 49) (v := ?_) rfl rfl (by kernel_rfl) (fun _ _ _ h => h) rfl (fun x hx => ?_) ?_
  rotate_left 1
  · go_simp; first | done | with_reducible rfl | rw [if_neg (by omega)] | rw [if_pos (by omega)]
  simp only [Act.put, nA, nB, nC]
  refine wpU_take 6 (some 50) (v := ?_) rfl rfl (by kernel_rfl) (fun _ _ _ h => h) rfl (fun x hx => ?_) ?_
  rotate_left 1
  · go_simp; first | done | with_reducible rfl | rw [if_neg (by omega)] | rw [if_pos (by omega)]
  simp only [Act.put, nA, nB, nC]
  refine wpU_take 7 (some 51) (v := ?_) rfl rfl (by kernel_rfl) (fun _ _ _ h => h) rfl (fun x hx => ?_) ?_
  rotate_left 1
  · obtain ⟨m0, m1, m2, m8, m9, m10, m11⟩ := cells_m (hx.has HI3.out.blk); obtain ⟨p0, p1, p2, p3, p4, p5⟩ := cells_p (hx.has HP3.out); obtain ⟨b0, b1, b2, b3, b4, b5, b6, b7, b8⟩ := cells_g (hx.has HB3.out); go_simp; first | done | with_reducible rfl | rw [if_neg (by omega)] | rw [if_pos (by omega)]
  simp only [Act.put, nA, nB, nC]
  refine wpU_take 8 (some 52) (v := ?_) rfl rfl (by kernel_rfl) (fun _ _ _ h => h) rfl (fun x hx => ?_) ?_
  rotate_left 1
  · go_simp; first | done | with_reducible rfl | rw [if_neg (by omega)] | rw [if_pos (by omega)]
  simp only [Act.put, nA, nB, nC]
  refine wpU_take 9 (some 53) (v := ?_) rfl rfl (by kernel_rfl) (fun _ _ _ h => h) rfl (fun x hx => ?_) ?_
  rotate_left 1
  · go_simp; first | done | with_reducible rfl | rw [if_neg (by omega)] | rw [if_pos (by omega)]
  simp only [Act.put, nA, nB, nC]
  refine wpU_last [] (by kernel_rfl) rfl rfl ?_
  obtain ⟨b0, b1, b2, b3, b4, b5, b6, b7, b8⟩ := cells_g HB3.out
  go_wp2_with fail
  go_ret3
  exact did_go HN3.out HI3.out

end Go.Proofs.Ytndefbecoahfhaa

/- impl's match. Printed by gen_match.py. -/
namespace Go.Proofs.Ytndefbecoahfhaa
open Go.RowKit

set_option maxRecDepth 100000 in
set_option maxHeartbeats 1000000 in
theorem match_arbno {w0 w : World} {M : Nat} {dv : Value} {s : ByteArray} {n : Nat} {m : Mst} {cv ev hv : Value} {hs : List Value} {text : ByteArray} {num lo hi : Int} {k0 : Pat} {A : Option Addr} {c : Nat} {fr : Int} {nv : Value} {gs : List Goal} {b : Nat} 
    (h : ImplAt w0 w M dv s n m cv ev hv hs) (hb : w.heap[b]? = some (.cells #[.int .i64 0, .int .i64 13, .string text, .int .i64 num, .int .i64 lo, .int .i64 hi, .slice A 1 c, .int .i64 fr, nv] TG (0, 0)))
    (hkid : KidsIn w0 (.mk 13 text num lo hi [k0]) (.slice A 1 c)) (hnv : GoalsAt w0 w gs nv) (hch : m.choices.length ≤ 5000) :
    Calls Try.prog 68 #[.pointer (some ⟨M, 0, none⟩), .pointer (some ⟨b, 0, none⟩)] w (Did w0 M dv s n m (.go gs (m.choose (⟨3, .mk 13 text num lo hi [k0], 0⟩ :: gs) m.at_))) := by
  have hblk := h.blk
  obtain ⟨np, rfl⟩ := hnv.ptr
  obtain ⟨cA, cc, rfl, _, _⟩ := h.caps.form
  obtain ⟨eA, ec, rfl, _, _⟩ := h.evs.form
  obtain ⟨hA, hc, rfl, _, _⟩ := h.chs.form
  obtain ⟨b0, b1, b2, b3, b4, b5, b6, b7, b8⟩ := cells_g hb
  have HI := Lib.hid h
  have HN := Lib.hid hnv
  have HB := Lib.hid hb
  have HR := Lib.hid (kids_row hkid)
  have HKID := Lib.hid hkid
  have hbel := h.below.size
  have hMb : ¬ M = b := ne_of_type hblk hb (by decide)
  have hbM : ¬ b = M := fun e => hMb e.symm
  clear h hnv hb hkid
  go_enter Try.func68, Try.ntmps68
  go_wp2_with fail
  clear b0 b1 b2 b3 b4 b5 b6 b7 b8
  -- region 2: 17 operations, the last []
  refine wpU_begin [] [] (by kernel_rfl) (fun w1 hw1 => ?_)
  obtain ⟨hl1, hp1⟩ := drew_alloc hw1
  have HP1 := Lib.hid hp1
  have HM1 := Lib.hid (hl1.has hblk)
  have HL1 := Lib.hid hl1
  clear hw1 hl1 hp1 hblk
  refine wpU_take 0 (some 16) (v := ?_) rfl rfl (by kernel_rfl) (fun _ _ _ h => h) rfl (fun x hx => ?_) ?_
  rotate_left 1
  · obtain ⟨m0, m1, m2, m8, m9, m10, m11⟩ := cells_m (hx.has HM1.out); obtain ⟨p0, p1, p2, p3, p4, p5⟩ := cells_p (hx.has HP1.out); go_simp; first | done | with_reducible rfl | rw [if_neg (by omega)] | rw [if_pos (by omega)]
  simp only [Act.put, nA, nB, nC]
  refine wpU_take 1 (some 17) (v := ?_) rfl rfl (by kernel_rfl) (fun _ _ _ h => h) rfl (fun x hx => ?_) ?_
  rotate_left 1
  · go_simp; first | done | with_reducible rfl | rw [if_neg (by omega)] | rw [if_pos (by omega)]
  simp only [Act.put, nA, nB, nC]
  refine wpU_take 2 (some 18) (v := ?_) rfl rfl (by kernel_rfl) (fun _ _ _ h => h) rfl (fun x hx => ?_) ?_
  rotate_left 1
  · go_simp; first | done | with_reducible rfl | rw [if_neg (by omega)] | rw [if_pos (by omega)]
  simp only [Act.put, nA, nB, nC]
  refine wpU_take 3 (some 19) (v := ?_) rfl rfl (by kernel_rfl) (fun _ _ _ h => h) rfl (fun x hx => ?_) ?_
  rotate_left 1
  · go_simp; first | done | with_reducible rfl | rw [if_neg (by omega)] | rw [if_pos (by omega)]
  simp only [Act.put, nA, nB, nC]
  refine wpU_take 4 (some 20) (v := ?_) rfl rfl (by kernel_rfl) (fun _ _ _ h => h) rfl (fun x hx => ?_) ?_
  rotate_left 1
  · obtain ⟨m0, m1, m2, m8, m9, m10, m11⟩ := cells_m (hx.has HM1.out); obtain ⟨p0, p1, p2, p3, p4, p5⟩ := cells_p (hx.has HP1.out); go_simp; first | done | with_reducible rfl | rw [if_neg (by omega)] | rw [if_pos (by omega)]
  simp only [Act.put, nA, nB, nC]
  refine wpU_take 5 (some 21) (v := ?_) rfl rfl (by kernel_rfl) (fun _ _ _ h => h) rfl (fun x hx => ?_) ?_
  rotate_left 1
  · go_simp; first | done | with_reducible rfl | rw [if_neg (by omega)] | rw [if_pos (by omega)]
  simp only [Act.put, nA, nB, nC]
  refine wpU_take 6 (some 22) (v := ?_) rfl rfl (by kernel_rfl) (fun _ _ _ h => h) rfl (fun x hx => ?_) ?_
  rotate_left 1
  · go_simp; first | done | with_reducible rfl | rw [if_neg (by omega)] | rw [if_pos (by omega)]
  simp only [Act.put, nA, nB, nC]
  refine wpU_take 7 (some 23) (v := ?_) rfl rfl (by kernel_rfl) (fun _ _ _ h => h) rfl (fun x hx => ?_) ?_
  rotate_left 1
  · go_simp; first | done | with_reducible rfl | rw [if_neg (by omega)] | rw [if_pos (by omega)]
  simp only [Act.put, nA, nB, nC]
  refine wpU_take 8 (some 24) (v := ?_) rfl rfl (by kernel_rfl) (fun _ _ _ h => h) rfl (fun x hx => ?_) ?_
  rotate_left 1
  · obtain ⟨m0, m1, m2, m8, m9, m10, m11⟩ := cells_m (hx.has HM1.out); obtain ⟨p0, p1, p2, p3, p4, p5⟩ := cells_p (hx.has HP1.out); go_simp; first | done | with_reducible rfl | rw [if_neg (by omega)] | rw [if_pos (by omega)]
  simp only [Act.put, nA, nB, nC]
  refine wpU_step 9 (by kernel_rfl) rfl rfl ?_  -- call value (Go.Operand.func 78)
  go_wp2_with fail
  refine (simple_else text num lo hi A 1 c s m.at_ _ 13 (by omega)).mono ?_
  rintro e w2 ⟨rfl, hb2⟩
  go_wp2_with fail
  refine ⟨hb2, ?_⟩
  have HI2 := Lib.hid (HI.out.later (HL1.out.trans hb2))
  have HN2 := Lib.hid (HN.out.later (HL1.out.trans hb2))
  have HB2 := Lib.hid ((HL1.out.trans hb2).has HB.out)
  have HP2 := Lib.hid (Later.has hb2 HP1.out)
  clear HP1 HM1 HI HN HB HL1 hb2
  refine wpU_take 10 (some 15) (v := ?_) rfl rfl (by kernel_rfl) (fun _ _ _ h => h) rfl (fun x hx => ?_) ?_
  rotate_left 1
  · go_simp; first | done | with_reducible rfl | rw [if_neg (by omega)] | rw [if_pos (by omega)]
  simp only [Act.put, nA, nB, nC]
  refine wpU_take 11 (some 26) (v := ?_) rfl rfl (by kernel_rfl) (fun _ _ _ h => h) rfl (fun x hx => ?_) ?_
  rotate_left 1
  · go_simp; first | done | with_reducible rfl | rw [if_neg (by omega)] | rw [if_pos (by omega)]
  simp only [Act.put, nA, nB, nC]
  refine wpU_take 12 (some 27) (v := ?_) rfl rfl (by kernel_rfl) (fun _ _ _ h => h) rfl (fun x hx => ?_) ?_
  rotate_left 1
  · go_simp; first | done | with_reducible rfl | rw [if_neg (by omega)] | rw [if_pos (by omega)]
  simp only [Act.put, nA, nB, nC]
  refine wpU_take 13 (some 28) (v := ?_) rfl rfl (by kernel_rfl) (fun _ _ _ h => h) rfl (fun x hx => ?_) ?_
  rotate_left 1
  · go_simp; first | done | with_reducible rfl | rw [if_neg (by omega)] | rw [if_pos (by omega)]
  simp only [Act.put, nA, nB, nC]
  refine wpU_take 14 (some 8) (v := ?_) rfl rfl (by kernel_rfl) (fun _ _ _ h => h) rfl (fun x hx => ?_) ?_
  rotate_left 1
  · go_simp; first | done | with_reducible rfl | rw [if_neg (by omega)] | rw [if_pos (by omega)]
  simp only [Act.put, nA, nB, nC]
  refine wpU_take 15 (some 9) (v := ?_) rfl rfl (by kernel_rfl) (fun _ _ _ h => h) rfl (fun x hx => ?_) ?_
  rotate_left 1
  · go_simp; first | done | with_reducible rfl | rw [if_neg (by omega)] | rw [if_pos (by omega)]
  simp only [Act.put, nA, nB, nC]
  refine wpU_take 16 (some 10) (v := ?_) rfl rfl (by kernel_rfl) (fun _ _ _ h => h) rfl (fun x hx => ?_) ?_
  rotate_left 1
  · go_simp; first | done | with_reducible rfl | rw [if_neg (by omega)] | rw [if_pos (by omega)]
  simp only [Act.put, nA, nB, nC]
  refine wpU_last [] (by kernel_rfl) rfl rfl ?_
  obtain ⟨m0, m1, m2, m8, m9, m10, m11⟩ := cells_m HI2.out.blk
  obtain ⟨p0, p1, p2, p3, p4, p5⟩ := cells_p HP2.out
  obtain ⟨b0, b1, b2, b3, b4, b5, b6, b7, b8⟩ := cells_g HB2.out
  go_wp2_with fail
  clear m0 m1 m2 m8 m9 m10 m11 p0 p1 p2 p3 p4 p5 b0 b1 b2 b3 b4 b5 b6 b7 b8
  -- region 13: 13 operations, the last [12]
  refine wpU_begin [12] [] (by kernel_rfl) (fun w3 hw3 => ?_)
  have hl3 := drew_later hw3
  have HI3 := Lib.hid (HI2.out.later hl3)
  have HN3 := Lib.hid (HN2.out.later hl3)
  have HB3 := Lib.hid (hl3.has HB2.out)
  have HP3 := Lib.hid (hl3.has HP2.out)
  clear hw3 hl3 HI2 HN2 HB2 HP2
  refine wpU_take 0 (some 68) (v := ?_) rfl rfl (by kernel_rfl) (fun _ _ _ h => h) rfl (fun x hx => ?_) ?_
  rotate_left 1
  · go_simp; first | done | with_reducible rfl | rw [if_neg (by omega)] | rw [if_pos (by omega)]
  simp only [Act.put, nA, nB, nC]
  refine wpU_take 1 (some 69) (v := ?_) rfl rfl (by kernel_rfl) (fun _ _ _ h => h) rfl (fun x hx => ?_) ?_
  rotate_left 1
  · obtain ⟨m0, m1, m2, m8, m9, m10, m11⟩ := cells_m (hx.has HI3.out.blk); obtain ⟨p0, p1, p2, p3, p4, p5⟩ := cells_p (hx.has HP3.out); obtain ⟨b0, b1, b2, b3, b4, b5, b6, b7, b8⟩ := cells_g (hx.has HB3.out); go_simp; first | done | with_reducible rfl | rw [if_neg (by omega)] | rw [if_pos (by omega)]
  simp only [Act.put, nA, nB, nC]
  refine wpU_take 2 (some 70) (v := ?_) rfl rfl (by kernel_rfl) (fun _ _ _ h => h) rfl (fun x hx => ?_) ?_
  rotate_left 1
  · go_simp; first | done | with_reducible rfl | rw [if_neg (by omega)] | rw [if_pos (by omega)]
  simp only [Act.put, nA, nB, nC]
  refine wpU_take 3 (some 71) (v := ?_) rfl rfl (by kernel_rfl) (fun _ _ _ h => h) rfl (fun x hx => ?_) ?_
  rotate_left 1
  · go_simp; first | done | with_reducible rfl | rw [if_neg (by omega)] | rw [if_pos (by omega)]
  simp only [Act.put, nA, nB, nC]
  refine wpU_take 4 (some 72) (v := ?_) rfl rfl (by kernel_rfl) (fun _ _ _ h => h) rfl (fun x hx => ?_) ?_
  rotate_left 1
  · go_simp; first | done | with_reducible rfl | rw [if_neg (by omega)] | rw [if_pos (by omega)]
  simp only [Act.put, nA, nB, nC]
  refine wpU_take 5 (some 73) (v := ?_) rfl rfl (by kernel_rfl) (fun _ _ _ h => h) rfl (fun x hx => ?_) ?_
  rotate_left 1
  · obtain ⟨m0, m1, m2, m8, m9, m10, m11⟩ := cells_m (hx.has HI3.out.blk); obtain ⟨p0, p1, p2, p3, p4, p5⟩ := cells_p (hx.has HP3.out); obtain ⟨b0, b1, b2, b3, b4, b5, b6, b7, b8⟩ := cells_g (hx.has HB3.out); go_simp; first | done | with_reducible rfl | rw [if_neg (by omega)] | rw [if_pos (by omega)]
  simp only [Act.put, nA, nB, nC]
  refine wpU_take 6 (some 74) (v := ?_) rfl rfl (by kernel_rfl) (fun _ _ _ h => h) rfl (fun x hx => ?_) ?_
  rotate_left 1
  · go_simp; first | done | with_reducible rfl | rw [if_neg (by omega)] | rw [if_pos (by omega)]
  simp only [Act.put, nA, nB, nC]
  refine wpU_take 8 (some 76) (v := ?_) rfl rfl (by kernel_rfl) (fun _ _ _ h => h) rfl (fun x hx => ?_) ?_
  rotate_left 1
  · go_simp; first | done | with_reducible rfl | rw [if_neg (by omega)] | rw [if_pos (by omega)]
  simp only [Act.put, nA, nB, nC]
  refine wpU_take 9 (some 77) (v := ?_) rfl rfl (by kernel_rfl) (fun _ _ _ h => h) rfl (fun x hx => ?_) ?_
  rotate_left 1
  · go_simp; first | done | with_reducible rfl | rw [if_neg (by omega)] | rw [if_pos (by omega)]
  simp only [Act.put, nA, nB, nC]
  refine wpU_take 10 (some 78) (v := ?_) rfl rfl (by kernel_rfl) (fun _ _ _ h => h) rfl (fun x hx => ?_) ?_
  rotate_left 1
  · go_simp; first | done | with_reducible rfl | rw [if_neg (by omega)] | rw [if_pos (by omega)]
  simp only [Act.put, nA, nB, nC]
  refine wpU_take 11 (some 79) (v := ?_) rfl rfl (by kernel_rfl) (fun _ _ _ h => h) rfl (fun x hx => ?_) ?_
  rotate_left 1
  · obtain ⟨m0, m1, m2, m8, m9, m10, m11⟩ := cells_m (hx.has HI3.out.blk); obtain ⟨p0, p1, p2, p3, p4, p5⟩ := cells_p (hx.has HP3.out); obtain ⟨b0, b1, b2, b3, b4, b5, b6, b7, b8⟩ := cells_g (hx.has HB3.out); go_simp; first | done | with_reducible rfl | rw [if_neg (by omega)] | rw [if_pos (by omega)]
  simp only [Act.put, nA, nB, nC]
  refine wpU_step 7 (by kernel_rfl) rfl rfl ?_  -- box 
  go_wp2_with fail
  refine ⟨(Later.refl _).alloc _, ?_⟩
  refine wpU_last [_] (by kernel_rfl) rfl rfl ?_
  simp only [List.getElem_toArray, List.getElem_cons_succ, List.getElem_cons_zero]
  go_wp2_with fail
  refine (choose_at m.at_ (HI3.out.later ((Later.refl _).alloc _)) (HN3.out.push ⟨3, .mk 13 text num lo hi [k0], 0⟩ HKID.out) hch _ rfl).mono ?_
  rintro e w4 ⟨rfl, hv4, hs4, hI4, hK4⟩
  have HI4 := Lib.hid hI4
  have HB4 := Lib.hid (((KeepT.later ((Later.refl w3).alloc _)).trans hK4) b _ HB3.out)
  have HN4 := Lib.hid (HN3.out.keep ((KeepT.later ((Later.refl w3).alloc _)).trans hK4) _ _)
  clear hI4 hK4
  obtain ⟨b0, b1, b2, b3, b4, b5, b6, b7, b8⟩ := cells_g HB4.out
  go_wp2_with fail
  go_ret3
  exact did_go HN4.out HI4.out

end Go.Proofs.Ytndefbecoahfhaa

/- impl's match. Printed by gen_match.py. -/
namespace Go.Proofs.Ytndefbecoahfhaa
open Go.RowKit

set_option maxRecDepth 100000 in
set_option maxHeartbeats 1000000 in
theorem match_cursor {w0 w : World} {M : Nat} {dv : Value} {s : ByteArray} {n : Nat} {m : Mst} {cv ev hv : Value} {hs : List Value} {text : ByteArray} {num lo hi : Int} {l : Nat} {A : Option Addr} {c : Nat} {fr : Int} {nv : Value} {gs : List Goal} {b : Nat} 
    (h : ImplAt w0 w M dv s n m cv ev hv hs) (hb : w.heap[b]? = some (.cells #[.int .i64 0, .int .i64 18, .string text, .int .i64 num, .int .i64 lo, .int .i64 hi, .slice A l c, .int .i64 fr, nv] TG (0, 0)))
    (hnv : GoalsAt w0 w gs nv) (hne : m.events.length ≤ 5000) :
    Calls Try.prog 68 #[.pointer (some ⟨M, 0, none⟩), .pointer (some ⟨b, 0, none⟩)] w (Did w0 M dv s n m (.go gs (m.event ⟨num, m.at_, -1⟩))) := by
  have hblk := h.blk
  obtain ⟨np, rfl⟩ := hnv.ptr
  obtain ⟨cA, cc, rfl, _, _⟩ := h.caps.form
  obtain ⟨eA, ec, rfl, _, _⟩ := h.evs.form
  obtain ⟨hA, hc, rfl, _, _⟩ := h.chs.form
  obtain ⟨b0, b1, b2, b3, b4, b5, b6, b7, b8⟩ := cells_g hb
  have HI := Lib.hid h
  have HN := Lib.hid hnv
  have HB := Lib.hid hb
  skip
  have hbel := h.below.size
  have hMb : ¬ M = b := ne_of_type hblk hb (by decide)
  have hbM : ¬ b = M := fun e => hMb e.symm
  clear h hnv hb
  go_enter Try.func68, Try.ntmps68
  go_wp2_with fail
  clear b0 b1 b2 b3 b4 b5 b6 b7 b8
  -- region 2: 17 operations, the last []
  refine wpU_begin [] [] (by kernel_rfl) (fun w1 hw1 => ?_)
  obtain ⟨hl1, hp1⟩ := drew_alloc hw1
  have HP1 := Lib.hid hp1
  have HM1 := Lib.hid (hl1.has hblk)
  have HL1 := Lib.hid hl1
  clear hw1 hl1 hp1 hblk
  refine wpU_take 0 (some 16) (v := ?_) rfl rfl (by kernel_rfl) (fun _ _ _ h => h) rfl (fun x hx => ?_) ?_
  rotate_left 1
  · obtain ⟨m0, m1, m2, m8, m9, m10, m11⟩ := cells_m (hx.has HM1.out); obtain ⟨p0, p1, p2, p3, p4, p5⟩ := cells_p (hx.has HP1.out); go_simp; first | done | with_reducible rfl | rw [if_neg (by omega)] | rw [if_pos (by omega)]
  simp only [Act.put, nA, nB, nC]
  refine wpU_take 1 (some 17) (v := ?_) rfl rfl (by kernel_rfl) (fun _ _ _ h => h) rfl (fun x hx => ?_) ?_
  rotate_left 1
  · go_simp; first | done | with_reducible rfl | rw [if_neg (by omega)] | rw [if_pos (by omega)]
  simp only [Act.put, nA, nB, nC]
  refine wpU_take 2 (some 18) (v := ?_) rfl rfl (by kernel_rfl) (fun _ _ _ h => h) rfl (fun x hx => ?_) ?_
  rotate_left 1
  · go_simp; first | done | with_reducible rfl | rw [if_neg (by omega)] | rw [if_pos (by omega)]
  simp only [Act.put, nA, nB, nC]
  refine wpU_take 3 (some 19) (v := ?_) rfl rfl (by kernel_rfl) (fun _ _ _ h => h) rfl (fun x hx => ?_) ?_
  rotate_left 1
  · go_simp; first | done | with_reducible rfl | rw [if_neg (by omega)] | rw [if_pos (by omega)]
  simp only [Act.put, nA, nB, nC]
  refine wpU_take 4 (some 20) (v := ?_) rfl rfl (by kernel_rfl) (fun _ _ _ h => h) rfl (fun x hx => ?_) ?_
  rotate_left 1
  · obtain ⟨m0, m1, m2, m8, m9, m10, m11⟩ := cells_m (hx.has HM1.out); obtain ⟨p0, p1, p2, p3, p4, p5⟩ := cells_p (hx.has HP1.out); go_simp; first | done | with_reducible rfl | rw [if_neg (by omega)] | rw [if_pos (by omega)]
  simp only [Act.put, nA, nB, nC]
  refine wpU_take 5 (some 21) (v := ?_) rfl rfl (by kernel_rfl) (fun _ _ _ h => h) rfl (fun x hx => ?_) ?_
  rotate_left 1
  · go_simp; first | done | with_reducible rfl | rw [if_neg (by omega)] | rw [if_pos (by omega)]
  simp only [Act.put, nA, nB, nC]
  refine wpU_take 6 (some 22) (v := ?_) rfl rfl (by kernel_rfl) (fun _ _ _ h => h) rfl (fun x hx => ?_) ?_
  rotate_left 1
  · go_simp; first | done | with_reducible rfl | rw [if_neg (by omega)] | rw [if_pos (by omega)]
  simp only [Act.put, nA, nB, nC]
  refine wpU_take 7 (some 23) (v := ?_) rfl rfl (by kernel_rfl) (fun _ _ _ h => h) rfl (fun x hx => ?_) ?_
  rotate_left 1
  · go_simp; first | done | with_reducible rfl | rw [if_neg (by omega)] | rw [if_pos (by omega)]
  simp only [Act.put, nA, nB, nC]
  refine wpU_take 8 (some 24) (v := ?_) rfl rfl (by kernel_rfl) (fun _ _ _ h => h) rfl (fun x hx => ?_) ?_
  rotate_left 1
  · obtain ⟨m0, m1, m2, m8, m9, m10, m11⟩ := cells_m (hx.has HM1.out); obtain ⟨p0, p1, p2, p3, p4, p5⟩ := cells_p (hx.has HP1.out); go_simp; first | done | with_reducible rfl | rw [if_neg (by omega)] | rw [if_pos (by omega)]
  simp only [Act.put, nA, nB, nC]
  refine wpU_step 9 (by kernel_rfl) rfl rfl ?_  -- call value (Go.Operand.func 78)
  go_wp2_with fail
  refine (simple_else text num lo hi A l c s m.at_ _ 18 (by omega)).mono ?_
  rintro e w2 ⟨rfl, hb2⟩
  go_wp2_with fail
  refine ⟨hb2, ?_⟩
  have HI2 := Lib.hid (HI.out.later (HL1.out.trans hb2))
  have HN2 := Lib.hid (HN.out.later (HL1.out.trans hb2))
  have HB2 := Lib.hid ((HL1.out.trans hb2).has HB.out)
  have HP2 := Lib.hid (Later.has hb2 HP1.out)
  clear HP1 HM1 HI HN HB HL1 hb2
  refine wpU_take 10 (some 15) (v := ?_) rfl rfl (by kernel_rfl) (fun _ _ _ h => h) rfl (fun x hx => ?_) ?_
  rotate_left 1
  · go_simp; first | done | with_reducible rfl | rw [if_neg (by omega)] | rw [if_pos (by omega)]
  simp only [Act.put, nA, nB, nC]
  refine wpU_take 11 (some 26) (v := ?_) rfl rfl (by kernel_rfl) (fun _ _ _ h => h) rfl (fun x hx => ?_) ?_
  rotate_left 1
  · go_simp; first | done | with_reducible rfl | rw [if_neg (by omega)] | rw [if_pos (by omega)]
  simp only [Act.put, nA, nB, nC]
  refine wpU_take 12 (some 27) (v := ?_) rfl rfl (by kernel_rfl) (fun _ _ _ h => h) rfl (fun x hx => ?_) ?_
  rotate_left 1
  · go_simp; first | done | with_reducible rfl | rw [if_neg (by omega)] | rw [if_pos (by omega)]
  simp only [Act.put, nA, nB, nC]
  refine wpU_take 13 (some 28) (v := ?_) rfl rfl (by kernel_rfl) (fun _ _ _ h => h) rfl (fun x hx => ?_) ?_
  rotate_left 1
  · go_simp; first | done | with_reducible rfl | rw [if_neg (by omega)] | rw [if_pos (by omega)]
  simp only [Act.put, nA, nB, nC]
  refine wpU_take 14 (some 8) (v := ?_) rfl rfl (by kernel_rfl) (fun _ _ _ h => h) rfl (fun x hx => ?_) ?_
  rotate_left 1
  · go_simp; first | done | with_reducible rfl | rw [if_neg (by omega)] | rw [if_pos (by omega)]
  simp only [Act.put, nA, nB, nC]
  refine wpU_take 15 (some 9) (v := ?_) rfl rfl (by kernel_rfl) (fun _ _ _ h => h) rfl (fun x hx => ?_) ?_
  rotate_left 1
  · go_simp; first | done | with_reducible rfl | rw [if_neg (by omega)] | rw [if_pos (by omega)]
  simp only [Act.put, nA, nB, nC]
  refine wpU_take 16 (some 10) (v := ?_) rfl rfl (by kernel_rfl) (fun _ _ _ h => h) rfl (fun x hx => ?_) ?_
  rotate_left 1
  · go_simp; first | done | with_reducible rfl | rw [if_neg (by omega)] | rw [if_pos (by omega)]
  simp only [Act.put, nA, nB, nC]
  refine wpU_last [] (by kernel_rfl) rfl rfl ?_
  obtain ⟨m0, m1, m2, m8, m9, m10, m11⟩ := cells_m HI2.out.blk
  obtain ⟨p0, p1, p2, p3, p4, p5⟩ := cells_p HP2.out
  obtain ⟨b0, b1, b2, b3, b4, b5, b6, b7, b8⟩ := cells_g HB2.out
  go_wp2_with fail
  clear m0 m1 m2 m8 m9 m10 m11 p0 p1 p2 p3 p4 p5 b0 b1 b2 b3 b4 b5 b6 b7 b8
  -- region 25: 19 operations, the last [14, 15, 16, 17, 18]
  refine wpU_begin [14, 15, 16, 17, 18] [0] (by kernel_rfl) (fun w3 hw3 => ?_)
  have hl3 := drew_later hw3
  have HI3 := Lib.hid (HI2.out.later hl3)
  have HN3 := Lib.hid (HN2.out.later hl3)
  have HB3 := Lib.hid (hl3.has HB2.out)
  have HP3 := Lib.hid (hl3.has HP2.out)
  clear hw3 hl3 HI2 HN2 HB2 HP2
  refine wpU_pure 0 (some 171) (v := ?_) rfl rfl (by kernel_rfl) (fun _ _ _ h => h) rfl (fun x => ?_) ?_
  rotate_left 1
  · go_simp; first | done | with_reducible rfl | rw [if_neg (by omega)] | rw [if_pos (by omega)]
  simp only [Act.put, nA, nB, nC]
  refine wpU_take 1 (some 172) (v := ?_) rfl rfl (by kernel_rfl) (fun _ _ _ h => h) rfl (fun x hx => ?_) ?_
  rotate_left 1
  · go_simp; first | done | with_reducible rfl | rw [if_neg (by omega)] | rw [if_pos (by omega)]
  simp only [Act.put, nA, nB, nC]
  refine wpU_take 2 (some 173) (v := ?_) rfl rfl (by kernel_rfl) (fun _ _ _ h => h) rfl (fun x hx => ?_) ?_
  rotate_left 1
  · go_simp; first | done | with_reducible rfl | rw [if_neg (by omega)] | rw [if_pos (by omega)]
  simp only [Act.put, nA, nB, nC]
  refine wpU_take 3 (some 174) (v := ?_) rfl rfl (by kernel_rfl) (fun _ _ _ h => h) rfl (fun x hx => ?_) ?_
  rotate_left 1
  · go_simp; first | done | with_reducible rfl | rw [if_neg (by omega)] | rw [if_pos (by omega)]
  simp only [Act.put, nA, nB, nC]
  refine wpU_take 4 (some 175) (v := ?_) rfl rfl (by kernel_rfl) (fun _ _ _ h => h) rfl (fun x hx => ?_) ?_
  rotate_left 1
  · go_simp; first | done | with_reducible rfl | rw [if_neg (by omega)] | rw [if_pos (by omega)]
  simp only [Act.put, nA, nB, nC]
  refine wpU_take 5 (some 176) (v := ?_) rfl rfl (by kernel_rfl) (fun _ _ _ h => h) rfl (fun x hx => ?_) ?_
  rotate_left 1
  · obtain ⟨m0, m1, m2, m8, m9, m10, m11⟩ := cells_m (hx.has HI3.out.blk); obtain ⟨p0, p1, p2, p3, p4, p5⟩ := cells_p (hx.has HP3.out); obtain ⟨b0, b1, b2, b3, b4, b5, b6, b7, b8⟩ := cells_g (hx.has HB3.out); go_simp; first | done | with_reducible rfl | rw [if_neg (by omega)] | rw [if_pos (by omega)]
  simp only [Act.put, nA, nB, nC]
  refine wpU_take 6 (some 177) (v := ?_) rfl rfl (by kernel_rfl) (fun _ _ _ h => h) rfl (fun x hx => ?_) ?_
  rotate_left 1
  · go_simp; first | done | with_reducible rfl | rw [if_neg (by omega)] | rw [if_pos (by omega)]
  simp only [Act.put, nA, nB, nC]
  refine wpU_take 7 (some 178) (v := ?_) rfl rfl (by kernel_rfl) (fun _ _ _ h => h) rfl (fun x hx => ?_) ?_
  rotate_left 1
  · obtain ⟨m0, m1, m2, m8, m9, m10, m11⟩ := cells_m (hx.has HI3.out.blk); obtain ⟨p0, p1, p2, p3, p4, p5⟩ := cells_p (hx.has HP3.out); obtain ⟨b0, b1, b2, b3, b4, b5, b6, b7, b8⟩ := cells_g (hx.has HB3.out); go_simp; first | done | with_reducible rfl | rw [if_neg (by omega)] | rw [if_pos (by omega)]
  simp only [Act.put, nA, nB, nC]
  refine wpU_take 8 (some 179) (v := ?_) rfl rfl (by kernel_rfl) (fun _ _ _ h => h) rfl (fun x hx => ?_) ?_
  rotate_left 1
  · go_simp; first | done | with_reducible rfl | rw [if_neg (by omega)] | rw [if_pos (by omega)]
  simp only [Act.put, nA, nB, nC]
  refine wpU_take 9 (some 180) (v := ?_) rfl rfl (by kernel_rfl) (fun _ _ _ h => h) rfl (fun x hx => ?_) ?_
  rotate_left 1
  · go_simp; first | done | with_reducible rfl | rw [if_neg (by omega)] | rw [if_pos (by omega)]
  simp only [Act.put, nA, nB, nC]
  refine wpU_take 10 (some 181) (v := ?_) rfl rfl (by kernel_rfl) (fun _ _ _ h => h) rfl (fun x hx => ?_) ?_
  rotate_left 1
  · go_simp; first | done | with_reducible rfl | rw [if_neg (by omega)] | rw [if_pos (by omega)]
  simp only [Act.put, nA, nB, nC]
  refine wpU_take 11 (some 182) (v := ?_) rfl rfl (by kernel_rfl) (fun _ _ _ h => h) rfl (fun x hx => ?_) ?_
  rotate_left 1
  · obtain ⟨m0, m1, m2, m8, m9, m10, m11⟩ := cells_m (hx.has HI3.out.blk); obtain ⟨p0, p1, p2, p3, p4, p5⟩ := cells_p (hx.has HP3.out); obtain ⟨b0, b1, b2, b3, b4, b5, b6, b7, b8⟩ := cells_g (hx.has HB3.out); go_simp; first | done | with_reducible rfl | rw [if_neg (by omega)] | rw [if_pos (by omega)]
  simp only [Act.put, nA, nB, nC]
  refine wpU_take 12 (some 183) (v := ?_) rfl rfl (by kernel_rfl) (fun _ _ _ h => h) rfl (fun x hx => ?_) ?_
  rotate_left 1
  · go_simp; first | done | with_reducible rfl | rw [if_neg (by omega)] | rw [if_pos (by omega)]
  simp only [Act.put, nA, nB, nC]
  refine wpU_step 13 (by kernel_rfl) rfl rfl ?_  -- buildSlice 
  go_wp2_with fail
  refine ⟨(Later.refl _).alloc _, ?_⟩
  refine wpU_last [_, _, _, _, _] (by kernel_rfl) rfl rfl ?_
  simp only [List.getElem_toArray, List.getElem_cons_succ, List.getElem_cons_zero]
  obtain ⟨i, hi, hz0, hz1, hz2⟩ := info_parts infoK
  refine wpList_append_has _ rfl _ _ _ rfl w0.heap.size TK i _ 3 24 Try.underlying31 hi hz0 hz1 hz2 rfl _ m.events.length (capCells m.events) rfl ((HI3.out.later ((Later.refl _).alloc _)).evs) _ 1 1 [.int .i64 num, .int .i64 m.at_, .int .i64 (-1)] rfl rfl ?_ ?_ (by omega) ?_ ?_ ?_ ?_
  · exact cells_three _ _ _ _ _
  · intro u hu
    simp only [List.mem_cons, List.not_mem_nil, or_false] at hu
    rcases hu with rfl | rfl | rfl <;> rfl
  · simp only [maxLen]; omega
  · omega
  · exact (HI3.out.later ((Later.refl w3).alloc _)).below.size
  · intro v' w' hrow hgrow hblock
    obtain ⟨vA, vc, rfl, _, _⟩ := hrow.form
    have HI' := Lib.hid (HI3.out.later ((Later.refl w3).alloc (Obj.cells #[.int .i64 num, .int .i64 m.at_, .int .i64 (-1)] TK)))
    have HG := Lib.hid (HI'.out.grownE hgrow)
    have hM' := HG.out.1
    have hc10 := (cells_m hM').2.2.2.2.2.1
    have hf10 := frozen_of_row w' M 10 _ _ hM'
    have hkeep : KeepT TG w3 w' := (KeepT.later ((Later.refl w3).alloc _)).trans HG.out.2.2.2.2.1
    have HB4 := Lib.hid (hkeep b _ HB3.out)
    have HN4 := Lib.hid (HN3.out.keep hkeep _ _)
    have HM := Lib.hid hM'
    have HR := Lib.hid hrow
    have HA := Lib.hid (apart_new HI'.out.caps HI'.out.apart hblock)
    obtain ⟨b0, b1, b2, b3, b4, b5, b6, b7, b8⟩ := cells_g HB4.out
    clear hM' hrow hgrow hblock hkeep
    go_wp2_with fail
    go_ret3
    exact did_go (HN4.out.keep (KeepT.set (a := ⟨M, 10, none⟩) HM.out (by decide) _) _ _) (ImplAt.set (m := m.event ⟨num, m.at_, -1⟩) HM.out rfl HI'.out.base HG.out.2.1 (by simpa [Mst.event, capCells_append, capCells] using HR.out) HG.out.2.2.1 HG.out.2.2.2.1 HA.out HG.out.2.2.2.2.2)

set_option maxRecDepth 100000 in
set_option maxHeartbeats 1000000 in
theorem match_fence {w0 w : World} {M : Nat} {dv : Value} {s : ByteArray} {n : Nat} {m : Mst} {cv ev hv : Value} {hs : List Value} {text : ByteArray} {num lo hi : Int} {l : Nat} {A : Option Addr} {c : Nat} {fr : Int} {nv : Value} {gs : List Goal} {b : Nat} 
    (h : ImplAt w0 w M dv s n m cv ev hv hs) (hb : w.heap[b]? = some (.cells #[.int .i64 0, .int .i64 19, .string text, .int .i64 num, .int .i64 lo, .int .i64 hi, .slice A l c, .int .i64 fr, nv] TG (0, 0)))
    (hnv : GoalsAt w0 w gs nv) (hch : m.choices.length ≤ 5000) :
    Calls Try.prog 68 #[.pointer (some ⟨M, 0, none⟩), .pointer (some ⟨b, 0, none⟩)] w (Did w0 M dv s n m (.go gs { m with choices := m.choices ++ [⟨true, [], m.at_, m.caps.length⟩] })) := by
  have hblk := h.blk
  obtain ⟨np, rfl⟩ := hnv.ptr
  obtain ⟨cA, cc, rfl, _, _⟩ := h.caps.form
  obtain ⟨eA, ec, rfl, _, _⟩ := h.evs.form
  obtain ⟨hA, hc, rfl, _, _⟩ := h.chs.form
  obtain ⟨b0, b1, b2, b3, b4, b5, b6, b7, b8⟩ := cells_g hb
  have HI := Lib.hid h
  have HN := Lib.hid hnv
  have HB := Lib.hid hb
  skip
  have hbel := h.below.size
  have hMb : ¬ M = b := ne_of_type hblk hb (by decide)
  have hbM : ¬ b = M := fun e => hMb e.symm
  clear h hnv hb
  go_enter Try.func68, Try.ntmps68
  go_wp2_with fail
  clear b0 b1 b2 b3 b4 b5 b6 b7 b8
  -- region 2: 17 operations, the last []
  refine wpU_begin [] [] (by kernel_rfl) (fun w1 hw1 => ?_)
  obtain ⟨hl1, hp1⟩ := drew_alloc hw1
  have HP1 := Lib.hid hp1
  have HM1 := Lib.hid (hl1.has hblk)
  have HL1 := Lib.hid hl1
  clear hw1 hl1 hp1 hblk
  refine wpU_take 0 (some 16) (v := ?_) rfl rfl (by kernel_rfl) (fun _ _ _ h => h) rfl (fun x hx => ?_) ?_
  rotate_left 1
  · obtain ⟨m0, m1, m2, m8, m9, m10, m11⟩ := cells_m (hx.has HM1.out); obtain ⟨p0, p1, p2, p3, p4, p5⟩ := cells_p (hx.has HP1.out); go_simp; first | done | with_reducible rfl | rw [if_neg (by omega)] | rw [if_pos (by omega)]
  simp only [Act.put, nA, nB, nC]
  refine wpU_take 1 (some 17) (v := ?_) rfl rfl (by kernel_rfl) (fun _ _ _ h => h) rfl (fun x hx => ?_) ?_
  rotate_left 1
  · go_simp; first | done | with_reducible rfl | rw [if_neg (by omega)] | rw [if_pos (by omega)]
  simp only [Act.put, nA, nB, nC]
  refine wpU_take 2 (some 18) (v := ?_) rfl rfl (by kernel_rfl) (fun _ _ _ h => h) rfl (fun x hx => ?_) ?_
  rotate_left 1
  · go_simp; first | done | with_reducible rfl | rw [if_neg (by omega)] | rw [if_pos (by omega)]
  simp only [Act.put, nA, nB, nC]
  refine wpU_take 3 (some 19) (v := ?_) rfl rfl (by kernel_rfl) (fun _ _ _ h => h) rfl (fun x hx => ?_) ?_
  rotate_left 1
  · go_simp; first | done | with_reducible rfl | rw [if_neg (by omega)] | rw [if_pos (by omega)]
  simp only [Act.put, nA, nB, nC]
  refine wpU_take 4 (some 20) (v := ?_) rfl rfl (by kernel_rfl) (fun _ _ _ h => h) rfl (fun x hx => ?_) ?_
  rotate_left 1
  · obtain ⟨m0, m1, m2, m8, m9, m10, m11⟩ := cells_m (hx.has HM1.out); obtain ⟨p0, p1, p2, p3, p4, p5⟩ := cells_p (hx.has HP1.out); go_simp; first | done | with_reducible rfl | rw [if_neg (by omega)] | rw [if_pos (by omega)]
  simp only [Act.put, nA, nB, nC]
  refine wpU_take 5 (some 21) (v := ?_) rfl rfl (by kernel_rfl) (fun _ _ _ h => h) rfl (fun x hx => ?_) ?_
  rotate_left 1
  · go_simp; first | done | with_reducible rfl | rw [if_neg (by omega)] | rw [if_pos (by omega)]
  simp only [Act.put, nA, nB, nC]
  refine wpU_take 6 (some 22) (v := ?_) rfl rfl (by kernel_rfl) (fun _ _ _ h => h) rfl (fun x hx => ?_) ?_
  rotate_left 1
  · go_simp; first | done | with_reducible rfl | rw [if_neg (by omega)] | rw [if_pos (by omega)]
  simp only [Act.put, nA, nB, nC]
  refine wpU_take 7 (some 23) (v := ?_) rfl rfl (by kernel_rfl) (fun _ _ _ h => h) rfl (fun x hx => ?_) ?_
  rotate_left 1
  · go_simp; first | done | with_reducible rfl | rw [if_neg (by omega)] | rw [if_pos (by omega)]
  simp only [Act.put, nA, nB, nC]
  refine wpU_take 8 (some 24) (v := ?_) rfl rfl (by kernel_rfl) (fun _ _ _ h => h) rfl (fun x hx => ?_) ?_
  rotate_left 1
  · obtain ⟨m0, m1, m2, m8, m9, m10, m11⟩ := cells_m (hx.has HM1.out); obtain ⟨p0, p1, p2, p3, p4, p5⟩ := cells_p (hx.has HP1.out); go_simp; first | done | with_reducible rfl | rw [if_neg (by omega)] | rw [if_pos (by omega)]
  simp only [Act.put, nA, nB, nC]
  refine wpU_step 9 (by kernel_rfl) rfl rfl ?_  -- call value (Go.Operand.func 78)
  go_wp2_with fail
  refine (simple_else text num lo hi A l c s m.at_ _ 19 (by omega)).mono ?_
  rintro e w2 ⟨rfl, hb2⟩
  go_wp2_with fail
  refine ⟨hb2, ?_⟩
  have HI2 := Lib.hid (HI.out.later (HL1.out.trans hb2))
  have HN2 := Lib.hid (HN.out.later (HL1.out.trans hb2))
  have HB2 := Lib.hid ((HL1.out.trans hb2).has HB.out)
  have HP2 := Lib.hid (Later.has hb2 HP1.out)
  clear HP1 HM1 HI HN HB HL1 hb2
  refine wpU_take 10 (some 15) (v := ?_) rfl rfl (by kernel_rfl) (fun _ _ _ h => h) rfl (fun x hx => ?_) ?_
  rotate_left 1
  · go_simp; first | done | with_reducible rfl | rw [if_neg (by omega)] | rw [if_pos (by omega)]
  simp only [Act.put, nA, nB, nC]
  refine wpU_take 11 (some 26) (v := ?_) rfl rfl (by kernel_rfl) (fun _ _ _ h => h) rfl (fun x hx => ?_) ?_
  rotate_left 1
  · go_simp; first | done | with_reducible rfl | rw [if_neg (by omega)] | rw [if_pos (by omega)]
  simp only [Act.put, nA, nB, nC]
  refine wpU_take 12 (some 27) (v := ?_) rfl rfl (by kernel_rfl) (fun _ _ _ h => h) rfl (fun x hx => ?_) ?_
  rotate_left 1
  · go_simp; first | done | with_reducible rfl | rw [if_neg (by omega)] | rw [if_pos (by omega)]
  simp only [Act.put, nA, nB, nC]
  refine wpU_take 13 (some 28) (v := ?_) rfl rfl (by kernel_rfl) (fun _ _ _ h => h) rfl (fun x hx => ?_) ?_
  rotate_left 1
  · go_simp; first | done | with_reducible rfl | rw [if_neg (by omega)] | rw [if_pos (by omega)]
  simp only [Act.put, nA, nB, nC]
  refine wpU_take 14 (some 8) (v := ?_) rfl rfl (by kernel_rfl) (fun _ _ _ h => h) rfl (fun x hx => ?_) ?_
  rotate_left 1
  · go_simp; first | done | with_reducible rfl | rw [if_neg (by omega)] | rw [if_pos (by omega)]
  simp only [Act.put, nA, nB, nC]
  refine wpU_take 15 (some 9) (v := ?_) rfl rfl (by kernel_rfl) (fun _ _ _ h => h) rfl (fun x hx => ?_) ?_
  rotate_left 1
  · go_simp; first | done | with_reducible rfl | rw [if_neg (by omega)] | rw [if_pos (by omega)]
  simp only [Act.put, nA, nB, nC]
  refine wpU_take 16 (some 10) (v := ?_) rfl rfl (by kernel_rfl) (fun _ _ _ h => h) rfl (fun x hx => ?_) ?_
  rotate_left 1
  · go_simp; first | done | with_reducible rfl | rw [if_neg (by omega)] | rw [if_pos (by omega)]
  simp only [Act.put, nA, nB, nC]
  refine wpU_last [] (by kernel_rfl) rfl rfl ?_
  obtain ⟨m0, m1, m2, m8, m9, m10, m11⟩ := cells_m HI2.out.blk
  obtain ⟨p0, p1, p2, p3, p4, p5⟩ := cells_p HP2.out
  obtain ⟨b0, b1, b2, b3, b4, b5, b6, b7, b8⟩ := cells_g HB2.out
  obtain ⟨i, hi, hz0, hz1, hz2⟩ := info_parts infoC
  go_wp2_with (at_builtin; refine wpList_append_has _ rfl _ _ _ rfl w0.heap.size TC i _ 4 32 Try.underlying69 hi hz0 hz1 hz2 rfl _ m.choices.length hs rfl ((HI2.out.later ((Later.refl _).alloc _)).chs) _ 1 1 [.bool true, .pointer none, .int .i64 0, .int .i64 0] rfl rfl ?c1 ?c2 (by omega) ?c3 ?c4 ?c5 ?_; fail_if_success done)
  case c1 => exact cells_four _ _ _ _ _ _
  case c2 =>
    intro u hu
    simp only [List.mem_cons, List.not_mem_nil, or_false] at hu
    rcases hu with rfl | rfl | rfl | rfl <;> rfl
  case c3 => simp only [maxLen]; omega
  case c4 => omega
  case c5 => exact (HI2.out.later ((Later.refl w2).alloc _)).below.size
  intro v' w' hrow hgrow hblock
  obtain ⟨vA, vc, rfl, _, _⟩ := hrow.form
  have HI' := Lib.hid (HI2.out.later ((Later.refl w2).alloc (Obj.cells #[.bool true, .pointer none, .int .i64 0, .int .i64 0] TC)))
  have HG := Lib.hid (HI'.out.grownH hgrow)
  have hM' := HG.out.1
  have hc11 := (cells_m hM').2.2.2.2.2.2
  have hf11 := frozen_of_row w' M 11 _ _ hM'
  have hkeep : KeepT TG w2 w' := (KeepT.later ((Later.refl w2).alloc _)).trans HG.out.2.2.2.2.1
  have HB4 := Lib.hid (hkeep b _ HB2.out)
  have HN4 := Lib.hid (HN2.out.keep hkeep _ _)
  have HM := Lib.hid hM'
  have HR := Lib.hid hrow
  clear m0 m1 m2 m8 m9 m10 m11 p0 p1 p2 p3 p4 p5 b0 b1 b2 b3 b4 b5 b6 b7 b8
  obtain ⟨b0, b1, b2, b3, b4, b5, b6, b7, b8⟩ := cells_g HB4.out
  clear hM' hrow hgrow hblock hkeep
  go_wp2_with fail
  go_ret3
  exact did_go (HN4.out.keep (KeepT.set (a := ⟨M, 11, none⟩) HM.out (by decide) _) _ _) (ImplAt.set (m := { m with choices := m.choices ++ [⟨true, [], m.at_, m.caps.length⟩] }) HM.out rfl HI'.out.base HG.out.2.1 HG.out.2.2.1 (by simpa using HR.out) (ChoicesAre.push (.inl ⟨rfl, rfl⟩) _ _ HG.out.2.2.2.1) HI'.out.apart HG.out.2.2.2.2.2)

end Go.Proofs.Ytndefbecoahfhaa
