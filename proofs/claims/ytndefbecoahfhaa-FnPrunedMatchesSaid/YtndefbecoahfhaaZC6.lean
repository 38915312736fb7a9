/- Part of the walks of both matchers and of the laws' helpers. -/
import Derived.Test.YtndefbecoahfhaaZC4
import Derived.Test.YtndefbecoahfhaaZC5
import Derived.Deep.LoopGhost
import Derived.Test.YtndefbecoahfhaaZC1

/- impl's match and execute do what the plain machine's step does. -/
namespace Go.Proofs.Ytndefbecoahfhaa
open Go.RowKit

theorem stepMatch_simple {defs : List Pat} {s : ByteArray} {p : Pat} {gs : List Goal} {m : Mst} (h : isSimple p.op) :
    stepMatch defs s p gs m = match oneEnd p.op p.text p.num p.lo p.hi s m.at_ with
      | some e => .go gs { m with at_ := e }
      | none => .fail := by
  unfold isSimple at h
  unfold stepMatch
  rw [if_neg (by omega), if_neg (by omega), if_neg (by omega), if_neg (by omega), if_neg (by omega), if_neg (by omega), if_neg (by omega), if_neg (by omega), if_neg (by omega), if_neg (by omega)]
  cases oneEnd p.op p.text p.num p.lo p.hi s m.at_ <;> rfl

theorem match_any {w0 w : World} {M : Nat} {dA : Option Addr} {dc : Nat} {s : ByteArray} {n : Nat} {m : Mst} {cv ev hv : Value} {hs : List Value} {defs : List Pat} {k : Nat} {p : Pat} {gs : List Goal} {gv : Value}
    (h : ImplAt w0 w M (.slice dA defs.length dc) s n m cv ev hv hs) (hg : GoalsAt w0 w (⟨0, p, 0⟩ :: gs) gv) (hok : Ok defs s k (⟨0, p, 0⟩ :: gs) m) (hk : k ≤ 5000) (hd : DefsOk defs) (hdefs : RowIn w0 dA 0 defs) (hss : s.size ≤ 120) :
    Calls Try.prog 68 #[.pointer (some ⟨M, 0, none⟩), gv] w (Did w0 M (.slice dA defs.length dc) s n m (stepMatch defs s p gs m)) := by
  obtain ⟨b, kv, nv, rfl, hb, hkid, hnv⟩ := hg
  obtain ⟨A, c, rfl, _, _⟩ := hkid.form
  have hv := hok.goals.head.val
  have hat := hok.at_
  have h1 := hok.nch
  have h2 := hok.nev
  have hops := (valid_kids hv).1
  obtain ⟨op, text, num, lo, hi, kids⟩ := p
  have ht : op = 11 ∨ op = 13 ∨ op = 14 ∨ op = 15 ∨ op = 16 ∨ op = 17 ∨ op = 18 ∨ op = 19 ∨ op = 20 ∨ op = 21 ∨ isSimple op := by
    simp only [Pat.op] at hops
    unfold isSimple
    omega
  rcases ht with rfl | rfl | rfl | rfl | rfl | rfl | rfl | rfl | rfl | rfl | hsi
  · by_cases hlt : m.at_ < s.size
    · rw [show stepMatch defs s (.mk 11 text num lo hi kids) gs m = .go gs (m.choose (⟨0, .mk 11 text num lo hi kids, 0⟩ :: gs) (m.at_ + 1)) by show Out.go gs (if m.at_ < s.size then _ else _) = _; rw [if_pos hlt]]
      exact match_arb_yes h hb hkid hnv hlt (by omega) hss rfl
    · rw [show stepMatch defs s (.mk 11 text num lo hi kids) gs m = .go gs m by show Out.go gs (if m.at_ < s.size then _ else _) = _; rw [if_neg hlt]]
      exact match_arb_no h hb hnv hlt
  · have hl := kids_one hv (.inl rfl)
    match kids, hl with
    | [k0], _ => exact match_arbno h hb hkid hnv (by omega)
  · have hl := kids_two hv (.inl rfl)
    match kids, hl with
    | [k0, k1], _ => exact match_cat h hb hkid hnv
  · have hl := kids_two hv (.inr rfl)
    match kids, hl with
    | [k0, k1], _ => exact match_alt h hb hkid hnv (by omega)
  · have hl := kids_one hv (.inr (.inl rfl))
    match kids, hl with
    | [k0], _ => exact match_assign h hb hkid hnv
  · have hl := kids_one hv (.inr (.inr rfl))
    match kids, hl with
    | [k0], _ => exact match_immediate h hb hkid hnv
  · exact match_cursor h hb hnv (by omega)
  · exact match_fence h hb hnv (by omega)
  · have hn := valid_var hv (.inr (.inr (.inr rfl)))
    have hn0 : 0 ≤ num := hn.1
    have hn1 : num < (defs.length : Int) := hn.2
    have hlt : num.toNat < defs.length := by omega
    rw [show stepMatch defs s (.mk 20 text num lo hi kids) gs m = .go (⟨0, defs[num.toNat], 0⟩ :: gs) m by
      show Out.go (⟨0, defs.getD num.toNat _, 0⟩ :: gs) m = _
      simp [List.getD, hlt]]
    exact match_defer (num := num) h hb hnv (Int.toNat_of_nonneg hn0).symm hlt rfl hdefs
  · exact match_abort h hb hnv
  · rw [stepMatch_simple (p := .mk op text num lo hi kids) hsi]
    have hw := valid_words hv
    simp only [Pat.op, Pat.text, Pat.num] at hw
    cases hz : oneEnd op text num lo hi s m.at_ with
    | some z =>
      simp only [Pat.op, Pat.text, Pat.num, Pat.lo, Pat.hi, hz]
      exact match_some h hb hnv hsi hw hss hat hz
    | none =>
      simp only [Pat.op, Pat.text, Pat.num, Pat.lo, Pat.hi, hz]
      exact match_none h hb hnv hsi hw hss hat hz

set_option maxRecDepth 100000 in
set_option maxHeartbeats 1000000 in
theorem exec_match {w0 w : World} {M : Nat} {dv : Value} {s : ByteArray} {n : Nat} {m : Mst} {o : Out} {v1 v2 v3 v4 v5 v6 v7 v8 : Value} {b : Nat}
    (hb : w.heap[b]? = some (.cells #[.int .i64 0, v1, v2, v3, v4, v5, v6, v7, v8] TG (0, 0)))
    (h : Calls Try.prog 68 #[.pointer (some ⟨M, 0, none⟩), .pointer (some ⟨b, 0, none⟩)] w (Did w0 M dv s n m o)) :
    Calls Try.prog 38 #[.pointer (some ⟨M, 0, none⟩), .pointer (some ⟨b, 0, none⟩)] w (Did w0 M dv s n m o) := by
  have b0 := cell_of_row w b 0 _ _ _ hb
  simp at b0
  have H := Lib.hid h
  clear h hb
  cases o with
  | go gs' m' =>
    go_enter Try.func38, Try.ntmps38
    go_wp2_with fail
    refine H.out.mono ?_
    rintro e w' ⟨gv, cv, ev, hv, hs, rfl, h1, h2⟩
    have H1 := Lib.hid h1
    have H2 := Lib.hid h2
    clear h1 h2
    go_wp2_with fail
    go_ret3
    exact did_go H1.out H2.out
  | fail =>
    go_enter Try.func38, Try.ntmps38
    go_wp2_with fail
    refine H.out.mono ?_
    rintro e w' ⟨p, cv, ev, hv, hs, rfl, h2⟩
    have H2 := Lib.hid h2
    clear h2
    go_wp2_with fail
    go_ret3
    exact did_fail H2.out
  | stop =>
    go_enter Try.func38, Try.ntmps38
    go_wp2_with fail
    refine H.out.mono ?_
    rintro e w' ⟨cv, ev, hv, hs, rfl, h2⟩
    have H2 := Lib.hid h2
    clear h2
    go_wp2_with fail
    go_ret3
    exact did_stop H2.out

theorem execute_any {w0 w : World} {M : Nat} {dA : Option Addr} {dc : Nat} {s : ByteArray} {n : Nat} {m : Mst} {cv ev hv : Value} {hs : List Value} {defs : List Pat} {k : Nat} {g : Goal} {gs : List Goal} {gv : Value}
    (h : ImplAt w0 w M (.slice dA defs.length dc) s n m cv ev hv hs) (hg : GoalsAt w0 w (g :: gs) gv) (hok : Ok defs s k (g :: gs) m) (hk : k ≤ 5000) (hd : DefsOk defs) (hdefs : RowIn w0 dA 0 defs) (hss : s.size ≤ 120) :
    Calls Try.prog 38 #[.pointer (some ⟨M, 0, none⟩), gv] w (Did w0 M (.slice dA defs.length dc) s n m (step defs s g gs m)) := by
  have hg' := hg
  obtain ⟨b, kv, nv, rfl, hb, hkid, hnv⟩ := hg
  obtain ⟨A, c, rfl, _, _⟩ := hkid.form
  have hv := hok.goals.head.val
  have h1 := hok.ncap
  have h2 := hok.nev
  obtain ⟨kind, p, fr⟩ := g
  have hkind := hok.goals.head.kind
  simp only at hkind hv
  rcases hkind with ⟨rfl, rfl⟩ | ⟨rfl, ho⟩ | ⟨rfl, ho⟩ | ⟨rfl, ho⟩ | ⟨rfl, ho⟩
  · exact exec_match hb (match_any h hg' hok hk hd hdefs hss)
  · obtain ⟨op, text, num, lo, hi, kids⟩ := p
    exact exec_cap h hb hnv (by omega)
  · obtain ⟨op, text, num, lo, hi, kids⟩ := p
    exact exec_event h hb hnv (by omega)
  · have hl := kids_one hv (.inl ho)
    obtain ⟨op, text, num, lo, hi, kids⟩ := p
    match kids, hl with
    | [k0], _ => exact exec_extend h hb hkid hnv
  · obtain ⟨op, text, num, lo, hi, kids⟩ := p
    by_cases hf : (m.at_ : Int) = fr
    · rw [show step defs s ⟨4, .mk op text num lo hi kids, fr⟩ gs m = .fail by show (if (m.at_ : Int) = fr then Out.fail else _) = _; rw [if_pos hf]]
      exact exec_check_fail h hb hkid hnv (by simp [hf])
    · rw [show step defs s ⟨4, .mk op text num lo hi kids, fr⟩ gs m = .go (⟨0, .mk op text num lo hi kids, 0⟩ :: gs) m by show (if (m.at_ : Int) = fr then Out.fail else _) = _; rw [if_neg hf]]
      exact exec_check_go h hb hkid hnv (by simp [hf])

end Go.Proofs.Ytndefbecoahfhaa

/- What MatchPattern's answer is said with. No walk in sight. -/
namespace Go.Proofs.Ytndefbecoahfhaa
open Go.RowKit

abbrev TR : TypeId := 33
/-- A match's value. -/
abbrev matchV (r : Res) (fr : Int) (cv ev : Value) : Value := .agg #[.bool r.found, .bool r.stopped, .bool r.exhausted, .int .i64 fr, .int .i64 r.at_, .int .i64 r.steps, cv, ev]
/-- The answer: its captures and events lie in memory of the call's own. -/
def MatchIs (w0 : World) (r : Res) (fr : Int) (e : Ending) (w' : World) : Prop :=
  ∃ cv ev, e = .returned (matchV r fr cv ev) ∧ HasRow w' w0.heap.size TK 3 cv r.caps.length (capCells r.caps) ∧ HasRow w' w0.heap.size TK 3 ev r.events.length (capCells r.events) ∧ (cv.ownBlock = none ∨ cv.ownBlock ≠ ev.ownBlock) ∧ Below w0.heap.size w0 w'
def Res.none : Res := ⟨false, false, false, 0, 0, [], []⟩
/-- The machine's start. -/
abbrev Mst.start (at_ : Nat) : Mst := ⟨at_, [], [], []⟩
/-- What MatchPattern answers. -/
def answers (defs : List Pat) (p : Pat) (s : ByteArray) (fr fuel : Int) : Bool := validD defs p && decide (s.size ≤ 120) && decide (0 ≤ fr) && decide (fr ≤ s.size) && decide (0 ≤ fuel) && decide (fuel ≤ 4000)
def matchRes (defs : List Pat) (p : Pat) (s : ByteArray) (fr fuel : Int) : Res := if answers defs p s fr fuel then play defs s fuel.toNat 0 [⟨0, p, 0⟩] (.start fr.toNat) else .none
def matchFrom (r : Res) (fr : Int) : Int := if r.found then fr else 0

/-- The cells of a match that nothing was written to. -/
abbrev zeroM : Array Value := #[.bool false, .bool false, .bool false, .int .i64 0, .int .i64 0, .int .i64 0, .slice none 0 0, .slice none 0 0]

theorem validD_defs {defs : List Pat} {p : Pat} (h : validD defs p = true) (hs : Smalls defs) : DefsOk defs ∧ valid p defs.length = true := by
  simp only [validD, validP, Bool.and_eq_true, List.all_eq_true, decide_eq_true_eq] at h
  exact ⟨⟨h.1.1, fun j hj => (h.2 _ (List.getElem_mem hj)).2, hs⟩, h.1.2.2⟩

theorem ok_start {defs : List Pat} {p : Pat} {s : ByteArray} {at_ : Nat} (h : valid p defs.length = true) (hp : Small p) (ha : at_ ≤ s.size) : Ok defs s 0 [⟨0, p, 0⟩] (.start at_) :=
  ⟨GoalsOk.cons (GoalOk.plain h hp) (fun x hx => (by cases hx)), ha, ⟨fun c hc => (by cases hc), by simp, fun c hc => (by cases hc)⟩, Nat.le_refl _, Nat.le_refl _, Nat.le_refl _⟩

theorem validDefinitions_is (b : Bool) (defs : List Pat) (A : Option Addr) (c : Nat) (p : Pat) (kv : Value) (w : World) (hs : Smalls defs) (hp : Small p) (hd : RowIn w A 0 defs) (hin : KidsIn w p kv) (hdl : defs.length ≤ 1099511627776) (hb : validD defs p = b) :
    Calls Try.prog 37 #[.slice A defs.length c, p.v kv] w fun e w' => e = .returned (.bool b) ∧ Below w.heap.size w w' := by
  subst hb
  exact validDefinitions_any defs A c p kv w hs hp hd hin hdl


/-- What holds at the head of MatchPattern's loop; k rounds at most are to come. -/
def LoopRel (w2 : World) (defs : List Pat) (dA : Option Addr) (dc : Nat) (s : ByteArray) (M fuel : Nat) (RES : Res) (k : Nat) (gv : Value) (wr : World) : Prop :=
  ∃ n gs m cv ev hv hs, n + k = fuel ∧ GoalsAt w2 wr gs gv ∧ ImplAt w2 wr M (.slice dA defs.length dc) s n m cv ev hv hs ∧ Ok defs s n gs m ∧ play defs s k n gs m = RES

theorem GoalsAt.ptr_cons {w0 w : World} {g : Goal} {gs : List Goal} {v : Value} (h : GoalsAt w0 w (g :: gs) v) : ∃ b, v = .pointer (some ⟨b, 0, none⟩) := by
  obtain ⟨b, _, _, h, _⟩ := h
  exact ⟨b, h⟩
theorem HasRow.base_le {w : World} {base base' : Nat} {e : TypeId} {size : Nat} {v : Value} {n : Nat} {xs : List Value} (h : HasRow w base e size v n xs) (hb : base' ≤ base) : HasRow w base' e size v n xs := by
  refine ⟨h.1, ?_⟩
  rcases h.2 with hn | ⟨g, cap, cur, e, h1, rest⟩
  · exact .inl hn
  · exact .inr ⟨g, cap, cur, e, Nat.le_trans hb h1, rest⟩

section
variable {w0 w : World} {M : Nat} {dv : Value} {s : ByteArray} {n : Nat} {m : Mst} {cv ev hv : Value} {hs : List Value}
theorem ImplAt.tick (h : ImplAt w0 w M dv s n m cv ev hv hs) (z : Int) (hz : z = ((n + 1 : Nat) : Int)) : ImplAt w0 (w.setCell ⟨M, 8, none⟩ (.int .i64 z)) M dv s (n + 1) m cv ev hv hs := by
  subst hz
  exact ImplAt.set h.blk rfl h.base h.caps h.evs h.chs h.are h.apart h.below
theorem ImplAt.setAt (h : ImplAt w0 w M dv s n m cv ev hv hs) (z : Nat) : ImplAt w0 (w.setCell ⟨M, 2, none⟩ (.int .i64 z)) M dv s n { m with at_ := z } cv ev hv hs :=
  ImplAt.set (m := { m with at_ := z }) h.blk rfl h.base h.caps h.evs h.chs h.are h.apart h.below
theorem ImplAt.keepSet (h : ImplAt w0 w M dv s n m cv ev hv hs) (k : Nat) (u : Value) : KeepT TG w (w.setCell ⟨M, k, none⟩ u) := KeepT.set (a := ⟨M, k, none⟩) h.blk (by decide) u

/-- The last choice is taken away. -/
theorem ImplAt.pop {cs : List Choice} {c : Choice} {g hc : Nat} (h : ImplAt w0 w M dv s n m cv ev (.slice (some ⟨g, 0, none⟩) (cs.length + 1) hc) hs) (hcs : m.choices = cs ++ [c]) :
    ∃ a b, hs = a ++ b ∧ ChoiceIs w0 w c b ∧ a.length = cs.length * 4 ∧ ImplAt w0 (w.setCell ⟨M, 11, none⟩ (.slice (some ⟨g, 0, none⟩) cs.length hc)) M dv s n { m with choices := cs } cv ev (.slice (some ⟨g, 0, none⟩) cs.length hc) a := by
  have h6 := h.are
  have h5 := h.chs
  rw [hcs] at h6 h5
  obtain ⟨a, b, rfl, h1, h2⟩ := ChoicesAre.pop cs hs h6
  have hla := ChoicesAre.len cs a h1
  refine ⟨a, b, rfl, h2, hla, ImplAt.set (m := { m with choices := cs }) h.blk rfl h.base h.caps h.evs ?_ h1 h.apart h.below⟩
  have hl : (cs ++ [c]).length = cs.length + 1 := by simp
  rw [hl] at h5
  have := h5.cut (k := cs.length) (c := hc) (by omega) (by have := h5.form; obtain ⟨A, cap, e, h7, _⟩ := this; cases e; omega) (Nat.le_refl _)
  simpa [← hla] using this
/-- The captures are cut. -/
theorem ImplAt.cut {g cc k : Nat} (h : ImplAt w0 w M dv s n m (.slice (some ⟨g, 0, none⟩) m.caps.length cc) ev hv hs) (hk : k ≤ m.caps.length) :
    ImplAt w0 (w.setCell ⟨M, 9, none⟩ (.slice (some ⟨g, 0, none⟩) k k)) M dv s n { m with caps := m.caps.take k } (.slice (some ⟨g, 0, none⟩) k k) ev hv hs := by
  have hc : m.caps.length ≤ cc := by obtain ⟨A, cap, e, h7, _⟩ := h.caps.form; cases e; omega
  refine ImplAt.set (m := { m with caps := m.caps.take k }) h.blk rfl h.base ?_ h.evs h.chs h.are h.apart h.below
  have := h.caps.cut hk (Nat.le_refl k) (by omega)
  rw [capCells_take] at this
  simpa [Nat.min_eq_left hk] using this
theorem ImplAt.cut_nil {k : Nat} (h : ImplAt w0 w M dv s n m (.slice none 0 0) ev hv hs) (hl : m.caps.length = 0) (hk : k = 0) :
    ImplAt w0 (w.setCell ⟨M, 9, none⟩ (.slice none 0 0)) M dv s n { m with caps := m.caps.take k } (.slice none 0 0) ev hv hs := by
  subst hk
  exact ImplAt.set (m := { m with caps := m.caps.take 0 }) h.blk rfl h.base (by simpa [capCells] using HasRow.nil w w0.heap.size TK 3) h.evs h.chs h.are h.apart h.below
end

theorem implAt_start {w w2 : World} {dv : Value} {s : ByteArray} {fr : Nat} (hl : Later w w2) (o : Obj) :
    ImplAt w ((w2.alloc (.cells (mCells dv s fr 0 (.slice none 0 0) (.slice none 0 0) (.slice none 0 0)) TM)).alloc o) w2.heap.size dv s 0 (.start fr) (.slice none 0 0) (.slice none 0 0) (.slice none 0 0) [] :=
  ⟨((Later.refl _).alloc o).has (heap_alloc_new w2 _), hl.size, HasRow.nil _ _ _ _, HasRow.nil _ _ _ _, HasRow.nil _ _ _ _, rfl, .inl rfl, (hl.alloc _).alloc _⟩

theorem cells_r {x : World} {b : Nat} {v0 v1 v2 v3 v4 v5 v6 v7 : Value} (h : x.heap[b]? = some (.cells #[v0, v1, v2, v3, v4, v5, v6, v7] TR (0, 0))) :
    x.cell? ⟨b, 0, none⟩ = some v0 ∧ x.cell? ⟨b, 1, none⟩ = some v1 ∧ x.cell? ⟨b, 2, none⟩ = some v2 ∧ x.cell? ⟨b, 3, none⟩ = some v3 ∧ x.cell? ⟨b, 4, none⟩ = some v4 ∧ x.cell? ⟨b, 5, none⟩ = some v5 ∧ x.cell? ⟨b, 6, none⟩ = some v6 ∧ x.cell? ⟨b, 7, none⟩ = some v7 :=
  ⟨cell_of_row x b 0 _ _ _ h, cell_of_row x b 1 _ _ _ h, cell_of_row x b 2 _ _ _ h, cell_of_row x b 3 _ _ _ h, cell_of_row x b 4 _ _ _ h, cell_of_row x b 5 _ _ _ h, cell_of_row x b 6 _ _ _ h, cell_of_row x b 7 _ _ _ h⟩
theorem frozen_r {x : World} {b : Nat} {cs : Array Value} {t : TypeId} (h : x.heap[b]? = some (.cells cs t (0, 0))) :
    x.frozen? ⟨b, 0, none⟩ = false ∧ x.frozen? ⟨b, 1, none⟩ = false ∧ x.frozen? ⟨b, 2, none⟩ = false ∧ x.frozen? ⟨b, 3, none⟩ = false ∧ x.frozen? ⟨b, 4, none⟩ = false ∧ x.frozen? ⟨b, 5, none⟩ = false ∧ x.frozen? ⟨b, 6, none⟩ = false ∧ x.frozen? ⟨b, 7, none⟩ = false :=
  ⟨frozen_of_row x b 0 _ _ h, frozen_of_row x b 1 _ _ h, frozen_of_row x b 2 _ _ h, frozen_of_row x b 3 _ _ h, frozen_of_row x b 4 _ _ h, frozen_of_row x b 5 _ _ h, frozen_of_row x b 6 _ _ h, frozen_of_row x b 7 _ _ h⟩

/-- Only the block b was written to. -/
def OnlyAt (b : Nat) (w x : World) : Prop := Below b w x ∧ ∀ k, k ≠ b → x.heap[k]? = w.heap[k]?
theorem OnlyAt.refl (b : Nat) (w : World) : OnlyAt b w w := ⟨Below.refl _ _, fun _ _ => rfl⟩
theorem OnlyAt.set {b : Nat} {w x : World} (h : OnlyAt b w x) (o : Nat) (u : Value) : OnlyAt b w (x.setCell ⟨b, o, none⟩ u) :=
  ⟨h.1.setCell (Nat.le_refl _) u, fun k hk => by rw [Below.heap_setCell _ _ _ _ hk]; exact h.2 k hk⟩
theorem OnlyAt.row {b : Nat} {w x : World} (h : OnlyAt b w x) {base : Nat} {e : TypeId} {size : Nat} {v : Value} {n : Nat} {xs : List Value} {cs : Array Value} {t : TypeId} (hr : HasRow w base e size v n xs) (hb : w.heap[b]? = some (.cells cs t (0, 0))) (hne : e ≠ t) : HasRow x base e size v n xs :=
  hr.same fun k hk => h.2 k (by obtain ⟨_, _, c, hc⟩ := hr.lt k hk; exact ne_of_type hc hb hne)

theorem matchIs_mk {w w2 w' x : World} {RB : Nat} {r : Res} {fr : Int} {cv ev : Value} (hl : Later w w2) (hc : HasRow w' w2.heap.size TK 3 cv r.caps.length (capCells r.caps)) (he : HasRow w' w2.heap.size TK 3 ev r.events.length (capCells r.events)) (ha : cv.ownBlock = none ∨ cv.ownBlock ≠ ev.ownBlock) (hb : Below w2.heap.size w2 w') (hRB : w'.heap[RB]? = some (.cells zeroM TR (0, 0))) (hlt : w.heap.size ≤ RB) (ho : OnlyAt RB w' x) :
    MatchIs w r fr (.returned (matchV r fr cv ev)) x :=
  ⟨cv, ev, rfl, (ho.row hc hRB (by decide)).base_le hl.size, (ho.row he hRB (by decide)).base_le hl.size, ha, Below.trans (show Below w.heap.size w w' from Later.trans hl hb) (ho.1.mono hlt)⟩

theorem top_cells {j : Nat} {w0 w x : World} {M : Nat} {dv : Value} {s : ByteArray} {n : Nat} {m : Mst} {cv ev : Value} {a : List Value} {k g hc : Nat} {v0 v1 v2 v3 : Value}
    (h : ImplAt w0 w M dv s n m cv ev (.slice (some ⟨g, 0, none⟩) k hc) (a ++ [v0, v1, v2, v3])) (ha : a.length = j * 4) (hl : Later w x) :
    x.cell? ⟨g, j * 4, none⟩ = some v0 ∧ x.cell? ⟨g, j * 4 + 1, none⟩ = some v1 ∧ x.cell? ⟨g, j * 4 + 2, none⟩ = some v2 ∧ x.cell? ⟨g, j * 4 + 3, none⟩ = some v3 := by
  have hc := h.chs.cells (g := g) rfl
  have hg := (h.chs.lt g rfl).2.1
  have at_ : ∀ i u, (a ++ [v0, v1, v2, v3])[j * 4 + i]? = some u → x.cell? ⟨g, j * 4 + i, none⟩ = some u := fun i u hu => (hl.cell _ hg).trans (hc _ u hu)
  refine ⟨at_ 0 v0 ?_, at_ 1 v1 ?_, at_ 2 v2 ?_, at_ 3 v3 ?_⟩ <;> rw [← ha, List.getElem?_append_right (by omega)] <;> simp
theorem cells_c {x : World} {b : Nat} {v0 v1 v2 v3 : Value} (h : x.heap[b]? = some (.cells #[v0, v1, v2, v3] TC (0, 0))) :
    x.cell? ⟨b, 0, none⟩ = some v0 ∧ x.cell? ⟨b, 1, none⟩ = some v1 ∧ x.cell? ⟨b, 2, none⟩ = some v2 ∧ x.cell? ⟨b, 3, none⟩ = some v3 :=
  ⟨cell_of_row x b 0 _ _ _ h, cell_of_row x b 1 _ _ _ h, cell_of_row x b 2 _ _ _ h, cell_of_row x b 3 _ _ _ h⟩
theorem heap_set_other {w : World} {b M k : Nat} {o : Obj} {u : Value} (h : w.heap[b]? = some o) (hne : b ≠ M) : (w.setCell ⟨M, k, none⟩ u).heap[b]? = some o := by
  rw [Below.heap_setCell _ _ _ _ hne]; exact h

end Go.Proofs.Ytndefbecoahfhaa

/- The walk of a drawn region in one order, where what stays is a fact S of the worlds (not 'only new blocks'). -/
namespace Go.Proofs.Ytndefbecoahfhaa
open Go.RowKit

section
variable {P : Program} {ops : Array Oper} {Q : Exit → Act → World → Prop} {S : World → Prop}

/-- The state of the walk: S holds here and behind each operation that is not among the last ones. -/
def wpV (P : Program) (ops : Array Oper) (Q : Exit → Act → World → Prop) (L U : List Nat) (S : World → Prop) (fuel : Nat) (listed : Array Bool) (a : Act) (w : World) : Prop :=
  wpAnyU P .any ops Q (tlOf L U) (puOf U) S fuel listed a w

theorem wpV_begin (L U : List Nat) (S : World → Prop) {id : Nat} {a : Act} {w : World} (hm : P.follows .mixedOrders = true)
    (h : ∀ w1, w1 = w.drew → wpV P ops Q L U S ops.size (Array.replicate ops.size false) a w1) : (Code.region id ops true).wp P Q a w :=
  wp_region_any hm (wpAny_of_U _ _ _ _ (h w.drew rfl))

theorem wpV_take (i : Nat) (d : Option Tmp) {L U : List Nat} {oi : Oper} {v : Value} {fuel : Nat} {listed : Array Bool} {a : Act} {w : World} (hi : ops[i]? = some oi) (hd : oi.dst = d)
    (hB : takeU ops L listed i = true)
    (hQ : ∀ c a w, Q (.panic c) (a.put d v) w → Q (.panic c) a w)
    (hw : Region.wanted oi (yielded ops a.tmps) = true) (hS : S w) (hy : ∀ x, S x → (execOp a.eval oi).run P x = .ok (.value v) x)
    (h : wpV P ops Q L U S fuel (listed.setIfInBounds i true) (a.put d v) w) : wpV P ops Q L U S (fuel + 1) listed a w := by
  subst hd
  simp only [takeU, Bool.and_eq_true] at hB
  obtain ⟨⟨⟨⟨hs, hf⟩, hr⟩, hc⟩, ht⟩ := hB
  refine wpAnyU_first hi (Region.noSelect_spec hs) hQ (fun j _ htj => ?_) fuel listed a w (Region.free_spec hi hf) (closed_of hc) (by simpa using hr) (.inl ⟨hw, hy⟩) hS h
  simp only [tlOf, Bool.or_eq_true] at htj
  rcases htj with h1 | h1
  · exact .inr (List.all_eq_true.1 ht j (by simpa using h1))
  · exact .inl h1

theorem wpV_pure (i : Nat) (d : Option Tmp) {L U : List Nat} {oi : Oper} {v : Value} {fuel : Nat} {listed : Array Bool} {a : Act} {w : World} (hi : ops[i]? = some oi) (hd : oi.dst = d)
    (hB : pureU ops U listed i = true)
    (hQ : ∀ c a w, Q (.panic c) (a.put d v) w → Q (.panic c) a w)
    (hw : Region.wanted oi (yielded ops a.tmps) = true) (hy : ∀ x, (execOp a.eval oi).run P x = .ok (.value v) x)
    (h : wpV P ops Q L U S fuel (listed.setIfInBounds i true) (a.put d v) w) : wpV P ops Q L U S (fuel + 1) listed a w := by
  subst hd
  simp only [pureU, Bool.and_eq_true] at hB
  obtain ⟨⟨⟨hs, hf⟩, hr⟩, hu⟩ := hB
  exact wpAnyU_pure hi (Region.noSelect_spec hs) hQ (by simp only [tlOf, Bool.or_eq_true]; exact .inr hu) fuel listed a w (Region.free_spec hi hf) (by simpa using hr) (.inl ⟨hw, fun x _ => hy x⟩) h

/-- The post of one operation that comes up alone. -/
def StepV (Q : Exit → Act → World → Prop) (S : World → Prop) (K : Act → World → Prop) : Exit → Act → World → Prop
  | .normal, a', w' => S w' ∧ K a' w'
  | e, a', w' => Q e a' w'

theorem wpV_step (i : Nat) {L U : List Nat} {o : Oper} {fuel : Nat} {listed : Array Bool} {a : Act} {w : World} (hr : Region.ready .any ops listed = [i]) (hu : U.contains i = false) (ho : ops[i]? = some o)
    (h : wpList P ops (StepV Q S (fun a' w' => wpV P ops Q L U S fuel (listed.setIfInBounds i true) a' w')) [o] a w) : wpV P ops Q L U S (fuel + 1) listed a w := by
  refine ⟨fun h0 => (by rw [hr] at h0; cases h0), fun j hj => ?_⟩
  rw [hr] at hj
  obtain rfl : j = i := by simpa using hj
  unfold wpList at h
  unfold wpOp
  rw [ho]
  have hK : ∀ a' w', wpList P ops (StepV Q S (fun a' w' => wpV P ops Q L U S fuel (listed.setIfInBounds j true) a' w')) [] a' w' →
      (((tlOf L U j = false → S w') ∧ (puOf U j = true → w' = w)) ∧ wpAnyU P .any ops Q (tlOf L U) (puOf U) S fuel (listed.setIfInBounds j true) a' w') := fun a' w' h' =>
    ⟨⟨fun _ => h'.1, fun h0 => (by unfold puOf at h0; rw [hu] at h0; cases h0)⟩, h'.2⟩
  have hup : o.wp P a w (wpList P ops (StepV Q S (fun a' w' => wpV P ops Q L U S fuel (listed.setIfInBounds j true) a' w')) []) (StepV Q S (fun a' w' => wpV P ops Q L U S fuel (listed.setIfInBounds j true) a' w')) →
      o.wp P a w (wpList P ops (StepV Q S (fun a' w' => wpV P ops Q L U S fuel (listed.setIfInBounds j true) a' w')) []) Q := fun h' => by
    unfold Oper.wp at *
    generalize (execOp a.eval o).run P w = r at *
    cases r with
    | ok n w' => cases n <;> exact h'
    | halt x w' => cases x <;> exact h'
  show if Region.wanted o (yielded ops a.tmps) = true then _ else _
  split
  · rename_i hw
    rw [if_pos hw] at h
    rcases h with h | ⟨h1, h2⟩
    · exact .inl (Oper.wp_mono hK (hup h))
    · exact .inr ⟨h1, h2⟩
  · rename_i hw
    rw [if_neg hw] at h
    exact hK _ _ h

theorem wpV_last {L U : List Nat} (os : List Oper) {n : Nat} {listed : Array Bool} {a : Act} {w : World} (hB : lastB ops L U listed = true) (hn : L.length = n) (hos : L.map (ops[·]?) = os.map some)
    (h : wpList P ops Q os a w) : wpV P ops Q L U S n listed a w := by
  subst hn
  simp only [lastB, Bool.and_eq_true] at hB
  exact wpU_chain L L os listed a w hB.1 (fun i hi => ⟨by simpa using hi, by simpa using List.all_eq_true.1 hB.2 i hi⟩) hos h
end
end Go.Proofs.Ytndefbecoahfhaa

/- How spec's matcher lies in memory, and how it changes. No walk in sight. -/
namespace Go.Proofs.Ytndefbecoahfhaa
open Go.RowKit

abbrev TS : TypeId := 114
abbrev TQ : TypeId := 118
abbrev TD : TypeId := 121

/-- One of spec's goals. -/
structure SG where
  kind : Nat
  p : Pat
  kv : Value
  next : Int
  fr : Int
abbrev SG.cells (g : SG) : List Value := [.int .i64 g.kind, .int .i64 g.p.op, .string g.p.text, .int .i64 g.p.num, .int .i64 g.p.lo, .int .i64 g.p.hi, g.kv, .int .i64 g.next, .int .i64 g.fr]
def sgCells : List SG → List Value
  | [] => []
  | g :: gl => g.cells ++ sgCells gl
theorem sgCells_append : ∀ (a b : List SG), sgCells (a ++ b) = sgCells a ++ sgCells b
  | [], b => rfl
  | g :: a, b => by simp only [List.cons_append, sgCells, sgCells_append a b, List.append_assoc]
theorem sgCells_len : ∀ (a : List SG), (sgCells a).length = a.length * 9
  | [] => rfl
  | g :: a => by simp only [sgCells, List.length_append, sgCells_len a, List.length_cons, List.length_nil]; omega
theorem sgCells_at : ∀ (a : List SG) (i : Nat) (g : SG), a[i]? = some g → ∀ j u, g.cells[j]? = some u → (sgCells a)[i * 9 + j]? = some u
  | [], i, g, h, j, u, _ => by simp at h
  | x :: a, 0, g, h, j, u, hu => by
    simp at h
    subst h
    have hj : j < x.cells.length := (List.getElem?_eq_some_iff.1 hu).1
    simp only [sgCells]
    rw [List.getElem?_append_left (by omega)]
    simpa using hu
  | x :: a, i + 1, g, h, j, u, hu => by
    simp only [sgCells]
    have hl : x.cells.length = 9 := rfl
    rw [List.getElem?_append_right (by omega), hl, show (i + 1) * 9 + j - 9 = i * 9 + j by omega]
    exact sgCells_at a i g (by simpa using h) j u hu

/-- The goals that a number stands for. -/
def Chain (gl : List SG) : Int → List Goal → Prop
  | i, [] => i = -1
  | i, g :: gs => ∃ (j : Nat) (x : SG), i = (j : Int) ∧ gl[j]? = some x ∧ x.kind = g.kind ∧ x.p = g.p ∧ x.fr = g.fr ∧ Chain gl x.next gs
theorem Chain.more {gl : List SG} (x : List SG) : ∀ (gs : List Goal) (i : Int), Chain gl i gs → Chain (gl ++ x) i gs
  | [], _, h => h
  | g :: gs, _, h => by
    simp only [Chain] at h ⊢
    obtain ⟨j, y, e, hj, h1, h2, h3, h4⟩ := h
    have hlt : j < gl.length := (List.getElem?_eq_some_iff.1 hj).1
    exact ⟨j, y, e, by rw [List.getElem?_append_left hlt]; exact hj, h1, h2, h3, Chain.more x gs _ h4⟩
theorem Chain.push {gl : List SG} {gs : List Goal} (x : SG) (g : Goal) (h : Chain gl x.next gs) (h1 : x.kind = g.kind) (h2 : x.p = g.p) (h3 : x.fr = g.fr) : Chain (gl ++ [x]) (gl.length : Int) (g :: gs) :=
  ⟨gl.length, x, rfl, by simp, h1, h2, h3, h.more [x] gs _⟩

theorem Chain.push2 {gl : List SG} {gs : List Goal} (x y : SG) (g g' : Goal) (h : Chain gl x.next gs) (h1 : x.kind = g.kind) (h2 : x.p = g.p) (h3 : x.fr = g.fr) (hn : y.next = (gl.length : Int)) (k1 : y.kind = g'.kind) (k2 : y.p = g'.p) (k3 : y.fr = g'.fr) :
    Chain (gl ++ [x] ++ [y]) ((gl.length : Int) + 1) (g' :: g :: gs) := by
  rw [show ((gl.length : Int) + 1) = ((gl ++ [x]).length : Int) by simp]
  exact Chain.push y g' (by rw [hn]; exact Chain.push x g h h1 h2 h3) k1 k2 k3
/-- A choice's three cells. -/
def SChoiceIs (gl : List SG) (c : Choice) (vs : List Value) : Prop :=
  ∃ i : Int, vs = [.int .i64 i, .int .i64 c.at_, .int .i64 c.ncap] ∧ ((c.stop = true ∧ i = -2) ∨ (c.stop = false ∧ Chain gl i c.goals))
def SChoicesAre (gl : List SG) : List Choice → List Value → Prop
  | [], vs => vs = []
  | c :: cs, vs => ∃ a b, vs = a ++ b ∧ SChoiceIs gl c a ∧ SChoicesAre gl cs b
theorem SChoiceIs.more {gl : List SG} (x : List SG) {c : Choice} {vs : List Value} (h : SChoiceIs gl c vs) : SChoiceIs (gl ++ x) c vs := by
  obtain ⟨i, e, h⟩ := h
  refine ⟨i, e, ?_⟩
  rcases h with h | ⟨h1, h2⟩
  · exact .inl h
  · exact .inr ⟨h1, h2.more x⟩
theorem SChoicesAre.more {gl : List SG} (x : List SG) : ∀ (cs : List Choice) (vs : List Value), SChoicesAre gl cs vs → SChoicesAre (gl ++ x) cs vs
  | [], _, h => h
  | _ :: cs, _, h => by
    simp only [SChoicesAre] at h ⊢
    obtain ⟨a, b, e, h1, h2⟩ := h
    exact ⟨a, b, e, h1.more x, SChoicesAre.more x cs b h2⟩
theorem SChoiceIs.len {gl : List SG} {c : Choice} {vs : List Value} (h : SChoiceIs gl c vs) : vs.length = 3 := by
  obtain ⟨i, rfl, _⟩ := h; rfl
theorem SChoicesAre.len {gl : List SG} : ∀ (cs : List Choice) (vs : List Value), SChoicesAre gl cs vs → vs.length = cs.length * 3
  | [], _, h => by simp only [SChoicesAre] at h; subst h; rfl
  | c :: cs, _, h => by
    simp only [SChoicesAre] at h
    obtain ⟨a, b, rfl, h1, h2⟩ := h
    rw [List.length_append, h1.len, SChoicesAre.len cs b h2, List.length_cons]
    omega
theorem SChoicesAre.push {gl : List SG} {c : Choice} {vc : List Value} (hc : SChoiceIs gl c vc) : ∀ (cs : List Choice) (vs : List Value), SChoicesAre gl cs vs → SChoicesAre gl (cs ++ [c]) (vs ++ vc)
  | [], _, h => by
    simp only [SChoicesAre] at h
    subst h
    exact ⟨vc, [], by simp, hc, rfl⟩
  | _ :: cs, _, h => by
    simp only [SChoicesAre, List.cons_append] at h ⊢
    obtain ⟨a, b, rfl, h1, h2⟩ := h
    exact ⟨a, b ++ vc, by simp, h1, SChoicesAre.push hc cs b h2⟩
theorem SChoicesAre.pop {gl : List SG} {c : Choice} : ∀ (cs : List Choice) (vs : List Value), SChoicesAre gl (cs ++ [c]) vs → ∃ a b, vs = a ++ b ∧ SChoicesAre gl cs a ∧ SChoiceIs gl c b
  | [], vs, h => by
    simp only [List.nil_append, SChoicesAre] at h
    obtain ⟨a, b, rfl, h1, rfl⟩ := h
    exact ⟨[], a, by simp, rfl, h1⟩
  | d :: cs, vs, h => by
    simp only [List.cons_append, SChoicesAre] at h
    obtain ⟨a, b, rfl, h1, h2⟩ := h
    obtain ⟨a', b', rfl, h3, h4⟩ := SChoicesAre.pop cs b h2
    exact ⟨a ++ a', b', by simp, ⟨a, a', rfl, h1, h3⟩, h4⟩

/-- A block of another's, apart from the matcher's own. -/
structure Foreign (w : World) (x : Nat × Obj) (M : Nat) (gv hv cv ev : Value) : Prop where
  blk : w.heap[x.1]? = some x.2
  m : x.1 ≠ M
  g : gv.ownBlock ≠ some x.1
  h : hv.ownBlock ≠ some x.1
  c : cv.ownBlock ≠ some x.1
  e : ev.ownBlock ≠ some x.1

abbrev sCells (gv hv : Value) (gi ai : Int) (cv ev : Value) : Array Value := #[gv, hv, .int .i64 gi, .int .i64 ai, cv, ev]
/-- Spec's matcher at block M. -/
structure SpecAt (w0 w : World) (F : List (Nat × Obj)) (M : Nat) (m : Mst) (gl : List SG) (gi ai : Int) (gv hv cv ev : Value) (hs : List Value) : Prop where
  blk : w.heap[M]? = some (.cells (sCells gv hv gi ai cv ev) TS (0, 0))
  base : w0.heap.size ≤ M
  goals : HasRow w w0.heap.size TQ 9 gv gl.length (sgCells gl)
  kids : ∀ g ∈ gl, KidsIn w0 g.p g.kv
  chs : HasRow w w0.heap.size TD 3 hv m.choices.length hs
  are : SChoicesAre gl m.choices hs
  caps : HasRow w w0.heap.size TK 3 cv m.caps.length (capCells m.caps)
  evs : HasRow w w0.heap.size TK 3 ev m.events.length (capCells m.events)
  apart : cv.ownBlock = none ∨ cv.ownBlock ≠ ev.ownBlock
  foreign : ∀ x ∈ F, Foreign w x M gv hv cv ev
  below : Below w0.heap.size w0 w

section
variable {w0 w : World} {F : List (Nat × Obj)} {M : Nat} {m : Mst} {gl : List SG} {gi ai : Int} {gv hv cv ev : Value} {hs : List Value}

theorem SpecAt.later (h : SpecAt w0 w F M m gl gi ai gv hv cv ev hs) {x : World} (hl : Later w x) : SpecAt w0 x F M m gl gi ai gv hv cv ev hs :=
  ⟨hl.has h.blk, h.base, h.goals.same fun k hk => hl.block k (h.goals.lt k hk).2.1, h.kids, h.chs.same fun k hk => hl.block k (h.chs.lt k hk).2.1, h.are,
    h.caps.same fun k hk => hl.block k (h.caps.lt k hk).2.1, h.evs.same fun k hk => hl.block k (h.evs.lt k hk).2.1, h.apart,
    fun y hy => ⟨hl.has (h.foreign y hy).blk, (h.foreign y hy).m, (h.foreign y hy).g, (h.foreign y hy).h, (h.foreign y hy).c, (h.foreign y hy).e⟩, h.below.trans (Below.mono hl h.below.size)⟩

/-- A block made now is another's. -/
theorem SpecAt.make (h : SpecAt w0 w F M m gl gi ai gv hv cv ev hs) {x : World} (hl : Later w x) {b : Nat} {o : Obj} (hb : x.heap[b]? = some o) (hlt : w.heap.size ≤ b) : SpecAt w0 x ((b, o) :: F) M m gl gi ai gv hv cv ev hs := by
  have h' := h.later hl
  have hM := has_lt h.blk
  refine ⟨h'.blk, h'.base, h'.goals, h'.kids, h'.chs, h'.are, h'.caps, h'.evs, h'.apart, fun y hy => ?_, h'.below⟩
  rcases List.mem_cons.1 hy with rfl | hy
  · refine ⟨hb, by show b ≠ M; omega, ?_, ?_, ?_, ?_⟩
    · intro e; have := (h.goals.lt _ e).2.1; omega
    · intro e; have := (h.chs.lt _ e).2.1; omega
    · intro e; have := (h.caps.lt _ e).2.1; omega
    · intro e; have := (h.evs.lt _ e).2.1; omega
  · exact h'.foreign y hy
/-- Fewer of another's. -/
theorem SpecAt.fewer (h : SpecAt w0 w F M m gl gi ai gv hv cv ev hs) {F' : List (Nat × Obj)} (hF : ∀ x ∈ F', x ∈ F) : SpecAt w0 w F' M m gl gi ai gv hv cv ev hs :=
  ⟨h.blk, h.base, h.goals, h.kids, h.chs, h.are, h.caps, h.evs, h.apart, fun y hy => h.foreign y (hF y hy), h.below⟩

/-- A write into the matcher's own block. -/
theorem SpecAt.set {cur : Array Value} {k : Nat} {u : Value} (hb : w.heap[M]? = some (.cells cur TS (0, 0))) (he : cur.setIfInBounds k u = sCells gv hv gi ai cv ev) (base : w0.heap.size ≤ M)
    (goals : HasRow w w0.heap.size TQ 9 gv gl.length (sgCells gl)) (kids : ∀ g ∈ gl, KidsIn w0 g.p g.kv) (chs : HasRow w w0.heap.size TD 3 hv m.choices.length hs) (are : SChoicesAre gl m.choices hs)
    (caps : HasRow w w0.heap.size TK 3 cv m.caps.length (capCells m.caps)) (evs : HasRow w w0.heap.size TK 3 ev m.events.length (capCells m.events)) (apart : cv.ownBlock = none ∨ cv.ownBlock ≠ ev.ownBlock)
    (foreign : ∀ x ∈ F, Foreign w x M gv hv cv ev) (below : Below w0.heap.size w0 w) : SpecAt w0 (w.setCell ⟨M, k, none⟩ u) F M m gl gi ai gv hv cv ev hs := by
  have other : ∀ {e : TypeId} {size : Nat} {v : Value} {l : Nat} {xs : List Value}, HasRow w w0.heap.size e size v l xs → e ≠ TS → HasRow (w.setCell ⟨M, k, none⟩ u) w0.heap.size e size v l xs := fun h hne =>
    h.same fun b hbk => by
      obtain ⟨_, _, c, hc⟩ := h.lt b hbk
      exact Below.heap_setCell _ _ _ _ (ne_of_type hc hb hne)
  exact ⟨by rw [heap_set_own hb, he], base, other goals (by decide), kids, other chs (by decide), are, other caps (by decide), other evs (by decide), apart,
    fun y hy => ⟨heap_set_other (foreign y hy).blk (foreign y hy).m, (foreign y hy).m, (foreign y hy).g, (foreign y hy).h, (foreign y hy).c, (foreign y hy).e⟩, below.setCell base u⟩

/-- What a growth of one of the four rows leaves of the rest. -/
theorem grown_row {w w' : World} {r : Option Nat} (hg : w.grownBy w' r) {base : Nat} {e : TypeId} {size : Nat} {v : Value} {n : Nat} {xs : List Value} (h : HasRow w base e size v n xs) (hne : ∀ k, v.ownBlock = some k → r ≠ some k) : HasRow w' base e size v n xs :=
  h.same fun b hb => hg.block b (h.lt b hb).2.1 fun e => hne b hb e.symm
theorem row_ne {w : World} {base base' : Nat} {e e' : TypeId} {size size' : Nat} {v v' : Value} {n n' : Nat} {xs xs' : List Value} (h : HasRow w base e size v n xs) (h' : HasRow w base' e' size' v' n' xs') (hne : e ≠ e') : ∀ k, v.ownBlock = some k → v'.ownBlock ≠ some k := fun k hk hk' => by
  obtain ⟨_, _, c, hc⟩ := h.lt k hk
  obtain ⟨_, _, d, hd⟩ := h'.lt k hk'
  exact ne_of_type hc hd hne rfl
theorem grown_blk {w w' : World} {M : Nat} {o : Obj} {r : Option Nat} (hg : w.grownBy w' r) (hb : w.heap[M]? = some o) (hne : r ≠ some M) : w'.heap[M]? = some o := by
  rw [hg.block M (has_lt hb) (fun e => hne e.symm)]; exact hb
theorem row_ne_blk {w : World} {base M : Nat} {e t : TypeId} {size : Nat} {v : Value} {n : Nat} {xs : List Value} {cs : Array Value} (h : HasRow w base e size v n xs) (hb : w.heap[M]? = some (.cells cs t (0, 0))) (hne : e ≠ t) : v.ownBlock ≠ some M := fun hk => by
  obtain ⟨_, _, c, hc⟩ := h.lt M hk
  exact ne_of_type hc hb hne rfl
theorem new_ne {w : World} {v v' : Value} {b : Nat} {o : Obj} (hv : v'.ownBlock = v.ownBlock ∨ v'.ownBlock = some w.heap.size) (h : v.ownBlock ≠ some b) (hb : w.heap[b]? = some o) : v'.ownBlock ≠ some b := by
  rcases hv with hv | hv
  · rw [hv]; exact h
  · rw [hv]
    intro e
    have := has_lt hb
    have := Option.some.inj e
    omega

/-- The goals have grown. -/
theorem SpecAt.grownG (h : SpecAt w0 w F M m gl gi ai gv hv cv ev hs) {w' : World} {v' : Value} {x : SG} (hrow : HasRow w' w0.heap.size TQ 9 v' (gl.length + 1) (sgCells gl ++ x.cells)) (hg : w.grownBy w' gv.ownBlock) (hvo : v'.ownBlock = gv.ownBlock ∨ v'.ownBlock = some w.heap.size) (hx : KidsIn w0 x.p x.kv) :
    w'.heap[M]? = some (.cells (sCells gv hv gi ai cv ev) TS (0, 0)) ∧ SpecAt w0 (w'.setCell ⟨M, 0, none⟩ v') F M m (gl ++ [x]) gi ai v' hv cv ev hs := by
  have hM := grown_blk hg h.blk (row_ne_blk h.goals h.blk (by decide))
  refine ⟨hM, SpecAt.set hM rfl h.base ?_ ?_ (grown_row hg h.chs (row_ne h.chs h.goals (by decide))) (h.are.more [x] _ _) (grown_row hg h.caps (row_ne h.caps h.goals (by decide))) (grown_row hg h.evs (row_ne h.evs h.goals (by decide))) h.apart ?_ (h.below.grown hg h.below.size (fun k hk => (h.goals.lt k hk).1))⟩
  · simpa [sgCells_append, sgCells] using hrow
  · intro g hgm
    rcases List.mem_append.1 hgm with h1 | h1
    · exact h.kids g h1
    · rw [List.mem_singleton.1 h1]; exact hx
  · intro y hy
    have f := h.foreign y hy
    exact ⟨grown_blk hg f.blk f.g, f.m, new_ne hvo f.g f.blk, f.h, f.c, f.e⟩
/-- The choices have grown. -/
theorem SpecAt.grownH (h : SpecAt w0 w F M m gl gi ai gv hv cv ev hs) {w' : World} {v' : Value} {c : Choice} {vc : List Value} (hrow : HasRow w' w0.heap.size TD 3 v' (m.choices.length + 1) (hs ++ vc)) (hg : w.grownBy w' hv.ownBlock) (hv' : v'.ownBlock = hv.ownBlock ∨ v'.ownBlock = some w.heap.size) (hx : SChoiceIs gl c vc) :
    w'.heap[M]? = some (.cells (sCells gv hv gi ai cv ev) TS (0, 0)) ∧ SpecAt w0 (w'.setCell ⟨M, 1, none⟩ v') F M { m with choices := m.choices ++ [c] } gl gi ai gv v' cv ev (hs ++ vc) := by
  have hM := grown_blk hg h.blk (row_ne_blk h.chs h.blk (by decide))
  refine ⟨hM, SpecAt.set (m := { m with choices := m.choices ++ [c] }) hM rfl h.base (grown_row hg h.goals (row_ne h.goals h.chs (by decide))) h.kids (by simpa using hrow) (SChoicesAre.push hx _ _ h.are) (grown_row hg h.caps (row_ne h.caps h.chs (by decide))) (grown_row hg h.evs (row_ne h.evs h.chs (by decide))) h.apart ?_ (h.below.grown hg h.below.size (fun k hk => (h.chs.lt k hk).1))⟩
  intro y hy
  have f := h.foreign y hy
  exact ⟨grown_blk hg f.blk f.h, f.m, f.g, new_ne hv' f.h f.blk, f.c, f.e⟩
/-- The captures have grown. -/
theorem SpecAt.grownC (h : SpecAt w0 w F M m gl gi ai gv hv cv ev hs) {w' : World} {v' : Value} {c : Cap} (hrow : HasRow w' w0.heap.size TK 3 v' (m.caps.length + 1) (capCells m.caps ++ [.int .i64 c.var, .int .i64 c.fr, .int .i64 c.to])) (hg : w.grownBy w' cv.ownBlock) (hv' : v'.ownBlock = cv.ownBlock ∨ v'.ownBlock = some w.heap.size) :
    w'.heap[M]? = some (.cells (sCells gv hv gi ai cv ev) TS (0, 0)) ∧ SpecAt w0 (w'.setCell ⟨M, 4, none⟩ v') F M (m.cap c) gl gi ai gv hv v' ev hs := by
  have hM := grown_blk hg h.blk (row_ne_blk h.caps h.blk (by decide))
  have hce : ∀ k, ev.ownBlock = some k → cv.ownBlock ≠ some k := fun k hk e => by
    rcases h.apart with h1 | h1
    · rw [h1] at e; cases e
    · exact h1 (e.trans hk.symm)
  refine ⟨hM, SpecAt.set (m := m.cap c) hM rfl h.base (grown_row hg h.goals (row_ne h.goals h.caps (by decide))) h.kids (grown_row hg h.chs (row_ne h.chs h.caps (by decide))) h.are (by simpa [Mst.cap, capCells_append, capCells] using hrow) (grown_row hg h.evs hce) (apart_new' h.evs h.apart hv') ?_ (h.below.grown hg h.below.size (fun k hk => (h.caps.lt k hk).1))⟩
  intro y hy
  have f := h.foreign y hy
  exact ⟨grown_blk hg f.blk f.c, f.m, f.g, f.h, new_ne hv' f.c f.blk, f.e⟩
/-- The events have grown. -/
theorem SpecAt.grownE (h : SpecAt w0 w F M m gl gi ai gv hv cv ev hs) {w' : World} {v' : Value} {c : Cap} (hrow : HasRow w' w0.heap.size TK 3 v' (m.events.length + 1) (capCells m.events ++ [.int .i64 c.var, .int .i64 c.fr, .int .i64 c.to])) (hg : w.grownBy w' ev.ownBlock) (hv' : v'.ownBlock = ev.ownBlock ∨ v'.ownBlock = some w.heap.size) :
    w'.heap[M]? = some (.cells (sCells gv hv gi ai cv ev) TS (0, 0)) ∧ SpecAt w0 (w'.setCell ⟨M, 5, none⟩ v') F M (m.event c) gl gi ai gv hv cv v' hs := by
  have hM := grown_blk hg h.blk (row_ne_blk h.evs h.blk (by decide))
  have hce : ∀ k, cv.ownBlock = some k → ev.ownBlock ≠ some k := fun k hk e => by
    rcases h.apart with h1 | h1
    · rw [h1] at hk; cases hk
    · exact h1 (hk.trans e.symm)
  refine ⟨hM, SpecAt.set (m := m.event c) hM rfl h.base (grown_row hg h.goals (row_ne h.goals h.evs (by decide))) h.kids (grown_row hg h.chs (row_ne h.chs h.evs (by decide))) h.are (grown_row hg h.caps hce) (by simpa [Mst.event, capCells_append, capCells] using hrow) (apart_new h.caps h.apart hv') ?_ (h.below.grown hg h.below.size (fun k hk => (h.evs.lt k hk).1))⟩
  intro y hy
  have f := h.foreign y hy
  exact ⟨grown_blk hg f.blk f.e, f.m, f.g, f.h, f.c, new_ne hv' f.e f.blk⟩
/-- Another goal is at hand. -/
theorem SpecAt.setGoal (h : SpecAt w0 w F M m gl gi ai gv hv cv ev hs) (z : Int) : SpecAt w0 (w.setCell ⟨M, 2, none⟩ (.int .i64 z)) F M m gl z ai gv hv cv ev hs :=
  SpecAt.set h.blk rfl h.base h.goals h.kids h.chs h.are h.caps h.evs h.apart h.foreign h.below
theorem SpecAt.setAt (h : SpecAt w0 w F M m gl gi ai gv hv cv ev hs) (z : Int) : SpecAt w0 (w.setCell ⟨M, 3, none⟩ (.int .i64 z)) F M m gl gi z gv hv cv ev hs :=
  SpecAt.set h.blk rfl h.base h.goals h.kids h.chs h.are h.caps h.evs h.apart h.foreign h.below
/-- What the machine's own offset says does not matter here. -/
theorem SpecAt.with_at (h : SpecAt w0 w F M m gl gi ai gv hv cv ev hs) (z : Nat) : SpecAt w0 w F M { m with at_ := z } gl gi ai gv hv cv ev hs :=
  ⟨h.blk, h.base, h.goals, h.kids, h.chs, h.are, h.caps, h.evs, h.apart, h.foreign, h.below⟩
/-- No choice is left. -/
theorem SpecAt.noChoices (h : SpecAt w0 w F M m gl gi ai gv hv cv ev hs) : SpecAt w0 (w.setCell ⟨M, 1, none⟩ (.slice none 0 0)) F M { m with choices := [] } gl gi ai gv (.slice none 0 0) cv ev [] :=
  SpecAt.set (m := { m with choices := [] }) h.blk rfl h.base h.goals h.kids (HasRow.nil _ _ _ _) rfl h.caps h.evs h.apart
    (fun y hy => ⟨(h.foreign y hy).blk, (h.foreign y hy).m, (h.foreign y hy).g, by simp [Value.ownBlock], (h.foreign y hy).c, (h.foreign y hy).e⟩) h.below
end

theorem cells_s {x : World} {M : Nat} {gv hv cv ev : Value} {gi ai : Int} (h : x.heap[M]? = some (.cells (sCells gv hv gi ai cv ev) TS (0, 0))) :
    x.cell? ⟨M, 0, none⟩ = some gv ∧ x.cell? ⟨M, 1, none⟩ = some hv ∧ x.cell? ⟨M, 2, none⟩ = some (.int .i64 gi) ∧ x.cell? ⟨M, 3, none⟩ = some (.int .i64 ai) ∧ x.cell? ⟨M, 4, none⟩ = some cv ∧ x.cell? ⟨M, 5, none⟩ = some ev :=
  ⟨cell_of_row x M 0 _ _ _ h, cell_of_row x M 1 _ _ _ h, cell_of_row x M 2 _ _ _ h, cell_of_row x M 3 _ _ _ h, cell_of_row x M 4 _ _ _ h, cell_of_row x M 5 _ _ _ h⟩
theorem cells_q {x : World} {b : Nat} {t : TypeId} {v0 v1 v2 v3 v4 v5 v6 v7 v8 : Value} (h : x.heap[b]? = some (.cells #[v0, v1, v2, v3, v4, v5, v6, v7, v8] t (0, 0))) :
    x.cell? ⟨b, 0, none⟩ = some v0 ∧ x.cell? ⟨b, 1, none⟩ = some v1 ∧ x.cell? ⟨b, 2, none⟩ = some v2 ∧ x.cell? ⟨b, 3, none⟩ = some v3 ∧ x.cell? ⟨b, 4, none⟩ = some v4 ∧ x.cell? ⟨b, 5, none⟩ = some v5 ∧ x.cell? ⟨b, 6, none⟩ = some v6 ∧ x.cell? ⟨b, 7, none⟩ = some v7 ∧ x.cell? ⟨b, 8, none⟩ = some v8 :=
  ⟨cell_of_row x b 0 _ _ _ h, cell_of_row x b 1 _ _ _ h, cell_of_row x b 2 _ _ _ h, cell_of_row x b 3 _ _ _ h, cell_of_row x b 4 _ _ _ h, cell_of_row x b 5 _ _ _ h, cell_of_row x b 6 _ _ _ h, cell_of_row x b 7 _ _ _ h, cell_of_row x b 8 _ _ _ h⟩
theorem cells_nine (w : World) (v0 v1 v2 v3 v4 v5 v6 v7 v8 : Value) (t : TypeId) : ∀ j u, [v0, v1, v2, v3, v4, v5, v6, v7, v8][j]? = some u → (w.alloc (.cells #[v0, v1, v2, v3, v4, v5, v6, v7, v8] t)).cell? ((⟨w.heap.size, 0, none⟩ : Addr).add j) = some u := by
  intro j u hj
  match j, hj with
  | 0, hj => simp at hj; subst hj; simp [Addr.add]
  | 1, hj => simp at hj; subst hj; simp [Addr.add]
  | 2, hj => simp at hj; subst hj; simp [Addr.add]
  | 3, hj => simp at hj; subst hj; simp [Addr.add]
  | 4, hj => simp at hj; subst hj; simp [Addr.add]
  | 5, hj => simp at hj; subst hj; simp [Addr.add]
  | 6, hj => simp at hj; subst hj; simp [Addr.add]
  | 7, hj => simp at hj; subst hj; simp [Addr.add]
  | 8, hj => simp at hj; subst hj; simp [Addr.add]
  | j + 9, hj => simp at hj
theorem infoQ : (Try.prog.info? TQ).map (fun i => (i.zero, i.size, i.bytes)) = some (some (.agg #[.int .i64 0, .int .i64 0, .string ⟨#[]⟩, .int .i64 0, .int .i64 0, .int .i64 0, .slice none 0 0, .int .i64 0, .int .i64 0]), 9, 96) := by kernel_rfl
theorem infoD : (Try.prog.info? TD).map (fun i => (i.zero, i.size, i.bytes)) = some (some (.agg #[.int .i64 0, .int .i64 0, .int .i64 0]), 3, 24) := by kernel_rfl

end Go.Proofs.Ytndefbecoahfhaa

/- The laws' own patterns as they came in; patterns that the call has made; marks. No walk in sight. -/
namespace Go.Proofs.Ytndefbecoahfhaa
open Go.RowKit

/-! ### Patterns that came in: anywhere in a block -/
def LElem (w : World) (b o : Nat) (p : Pat) (kv : Value) : Prop :=
  w.cell? ⟨b, o, none⟩ = some (.int .i64 p.op) ∧ w.cell? ⟨b, o + 1, none⟩ = some (.string p.text) ∧ w.cell? ⟨b, o + 2, none⟩ = some (.int .i64 p.num) ∧
    w.cell? ⟨b, o + 3, none⟩ = some (.int .i64 p.lo) ∧ w.cell? ⟨b, o + 4, none⟩ = some (.int .i64 p.hi) ∧ w.cell? ⟨b, o + 5, none⟩ = some kv
mutual
def LKids (w : World) : Pat → Value → Prop
  | .mk _ t _ _ _ kids, kv => t.size ≤ maxLen ∧ ∃ A c, kv = .slice A kids.length c ∧ kids.length ≤ c ∧ c ≤ maxLen ∧ LRow w A 0 kids
def LRow (w : World) (A : Option Addr) : Nat → List Pat → Prop
  | _, [] => True
  | j, p :: ps => (∃ b o kv, A = some ⟨b, o, none⟩ ∧ b < w.heap.size ∧ LElem w b (o + j * 6) p kv ∧ LKids w p kv) ∧ LRow w A (j + 1) ps
end
theorem LElem.later {w x : World} {g o : Nat} {p : Pat} {kv : Value} (h : LElem w g o p kv) (hg : g < w.heap.size) (hl : Later w x) : LElem x g o p kv := by
  obtain ⟨h0, h1, h2, h3, h4, h5⟩ := h
  exact ⟨(hl.cell _ hg).trans h0, (hl.cell _ hg).trans h1, (hl.cell _ hg).trans h2, (hl.cell _ hg).trans h3, (hl.cell _ hg).trans h4, (hl.cell _ hg).trans h5⟩
mutual
theorem LKids.later {w x : World} (hl : Later w x) : ∀ (p : Pat) (kv : Value), LKids w p kv → LKids x p kv
  | .mk _ _ _ _ _ kids, kv, h => by
    simp only [LKids] at h ⊢
    obtain ⟨ht, A, c, e, hc, hm, hr⟩ := h
    exact ⟨ht, A, c, e, hc, hm, LRow.later hl A 0 kids hr⟩
theorem LRow.later {w x : World} (hl : Later w x) (A : Option Addr) : ∀ (j : Nat) (ps : List Pat), LRow w A j ps → LRow x A j ps
  | _, [], _ => by simp only [LRow]
  | j, p :: ps, h => by
    simp only [LRow] at h ⊢
    obtain ⟨⟨b, o, kv, e, hg, he, hk⟩, hr⟩ := h
    exact ⟨⟨b, o, kv, e, Nat.lt_of_lt_of_le hg hl.size, he.later hg hl, LKids.later hl p kv hk⟩, LRow.later hl A (j + 1) ps hr⟩
end
theorem LRow.at_ {w : World} {A : Option Addr} : ∀ (ps : List Pat) (j i : Nat) (hi : i < ps.length), LRow w A j ps → ∃ b o kv, A = some ⟨b, o, none⟩ ∧ b < w.heap.size ∧ LElem w b (o + (j + i) * 6) ps[i] kv ∧ LKids w ps[i] kv
  | [], _, i, hi, _ => by simp at hi
  | p :: ps, j, 0, _, h => by
    simp only [LRow] at h
    exact h.1
  | p :: ps, j, i + 1, hi, h => by
    simp only [LRow] at h
    have := LRow.at_ ps (j + 1) i (by simpa using hi) h.2
    rw [show j + 1 + i = j + (i + 1) by omega] at this
    simpa using this
theorem LKids.form {w : World} {p : Pat} {kv : Value} (h : LKids w p kv) : p.text.size ≤ maxLen ∧ ∃ A c, kv = .slice A p.kids.length c ∧ p.kids.length ≤ c ∧ c ≤ maxLen ∧ LRow w A 0 p.kids := by
  obtain ⟨op, text, num, lo, hi, kids⟩ := p
  simp only [LKids] at h
  exact h

/-! ### How much there is -/
mutual
def szP : Pat → Nat
  | .mk _ t _ _ _ kids => t.size + (kids.length + szAll kids)
def szAll : List Pat → Nat
  | [] => 0
  | p :: ps => szP p + szAll ps
end
theorem szP_eq (p : Pat) : szP p = p.text.size + (p.kids.length + szAll p.kids) := by cases p; simp [szP, Pat.text, Pat.kids]
theorem szAll_take_succ (ps : List Pat) (j : Nat) (h : j < ps.length) : szAll (ps.take (j + 1)) = szAll (ps.take j) + szP ps[j] := by
  induction ps generalizing j with
  | nil => simp at h
  | cons p ps ih =>
    cases j with
    | zero => simp [szAll]
    | succ j =>
      have := ih j (by simpa using h)
      simp only [List.take_succ_cons, szAll, this, List.getElem_cons_succ]
      omega
theorem szAll_take_le (ps : List Pat) (j : Nat) : szAll (ps.take j) ≤ szAll ps := by
  induction ps generalizing j with
  | nil => simp [szAll]
  | cons p ps ih =>
    cases j with
    | zero => simp [szAll]
    | succ j => have := ih j; simp only [List.take_succ_cons, szAll]; omega
mutual
theorem count_sz : ∀ p : Pat, count p ≤ szP p + 1
  | .mk _ _ _ _ _ kids => by
    have := countAll_sz kids
    simp only [count, szP]
    omega
theorem countAll_sz : ∀ ps : List Pat, countAll ps ≤ ps.length + szAll ps
  | [] => by simp [countAll]
  | p :: ps => by
    have h1 := count_sz p
    have h2 := countAll_sz ps
    simp only [countAll, szAll, List.length_cons]
    omega
end
/-- What is left after so much. -/
def leftOf (n : Nat) (l : Int) : Int := if (n : Int) ≤ l then l - n else -1

/-! ### Patterns that the call has made: whole blocks, from base on -/
mutual
def KidsB (base : Nat) (w : World) : Pat → Value → Prop
  | .mk _ _ _ _ _ kids, kv => ∃ A c, kv = .slice A kids.length c ∧ kids.length ≤ c ∧ RowB base w A 0 kids
def RowB (base : Nat) (w : World) (A : Option Addr) : Nat → List Pat → Prop
  | _, [] => True
  | j, p :: ps => (∃ g kv cur, A = some ⟨g, 0, none⟩ ∧ base ≤ g ∧ w.heap[g]? = some (.cells cur TP (0, 0)) ∧ ElemAt w g j p kv ∧ KidsB base w p kv) ∧ RowB base w A (j + 1) ps
end
mutual
theorem KidsB.in_ {base : Nat} {w : World} : ∀ (p : Pat) (kv : Value), KidsB base w p kv → KidsIn w p kv
  | .mk _ _ _ _ _ kids, kv, h => by
    simp only [KidsB] at h
    simp only [KidsIn]
    obtain ⟨A, c, e, hc, hr⟩ := h
    exact ⟨A, c, e, hc, RowB.in_ A 0 kids hr⟩
theorem RowB.in_ {base : Nat} {w : World} (A : Option Addr) : ∀ (j : Nat) (ps : List Pat), RowB base w A j ps → RowIn w A j ps
  | _, [], _ => by simp only [RowIn]
  | j, p :: ps, h => by
    simp only [RowB] at h
    simp only [RowIn]
    obtain ⟨⟨g, kv, cur, e, _, hg, he, hk⟩, hr⟩ := h
    exact ⟨⟨g, kv, e, has_lt hg, he, KidsB.in_ p kv hk⟩, RowB.in_ A (j + 1) ps hr⟩
end
mutual
theorem KidsB.later {base : Nat} {w x : World} (hl : Later w x) : ∀ (p : Pat) (kv : Value), KidsB base w p kv → KidsB base x p kv
  | .mk _ _ _ _ _ kids, kv, h => by
    simp only [KidsB] at h ⊢
    obtain ⟨A, c, e, hc, hr⟩ := h
    exact ⟨A, c, e, hc, RowB.later hl A 0 kids hr⟩
theorem RowB.later {base : Nat} {w x : World} (hl : Later w x) (A : Option Addr) : ∀ (j : Nat) (ps : List Pat), RowB base w A j ps → RowB base x A j ps
  | _, [], _ => by simp only [RowB]
  | j, p :: ps, h => by
    simp only [RowB] at h ⊢
    obtain ⟨⟨g, kv, cur, e, hb, hg, he, hk⟩, hr⟩ := h
    exact ⟨⟨g, kv, cur, e, hb, hl.has hg, he.later (has_lt hg) hl, KidsB.later hl p kv hk⟩, RowB.later hl A (j + 1) ps hr⟩
end
/-! ### A write into a block below the base -/
mutual
theorem KidsB.set {base : Nat} {w : World} {B k : Nat} {u : Value} (hB : B < base) : ∀ (p : Pat) (kv : Value), KidsB base w p kv → KidsB base (w.setCell ⟨B, k, none⟩ u) p kv
  | .mk _ _ _ _ _ kids, kv, h => by
    simp only [KidsB] at h ⊢
    obtain ⟨A, c, e, hc, hr⟩ := h
    exact ⟨A, c, e, hc, RowB.set hB A 0 kids hr⟩
theorem RowB.set {base : Nat} {w : World} {B k : Nat} {u : Value} (hB : B < base) (A : Option Addr) : ∀ (j : Nat) (ps : List Pat), RowB base w A j ps → RowB base (w.setCell ⟨B, k, none⟩ u) A j ps
  | _, [], _ => by simp only [RowB]
  | j, p :: ps, h => by
    simp only [RowB] at h ⊢
    obtain ⟨⟨g, kv, cur, e, hb, hg, he, hk⟩, hr⟩ := h
    have hne : g ≠ B := by omega
    have hh : (w.setCell ⟨B, k, none⟩ u).heap[g]? = some (.cells cur TP (0, 0)) := heap_set_other hg hne
    obtain ⟨e0, e1, e2, e3, e4, e5⟩ := he
    have at_ : ∀ o, (w.setCell ⟨B, k, none⟩ u).cell? ⟨g, o, none⟩ = w.cell? ⟨g, o, none⟩ := fun o => by rw [cell_of_row _ g o _ _ _ hh, cell_of_row _ g o _ _ _ hg]
    exact ⟨⟨g, kv, cur, e, hb, hh, ⟨(at_ _).trans e0, (at_ _).trans e1, (at_ _).trans e2, (at_ _).trans e3, (at_ _).trans e4, (at_ _).trans e5⟩, KidsB.set hB p kv hk⟩, RowB.set hB A (j + 1) ps hr⟩
end
mutual
theorem KidsB.mono {base base' : Nat} {w : World} (hb : base' ≤ base) : ∀ (p : Pat) (kv : Value), KidsB base w p kv → KidsB base' w p kv
  | .mk _ _ _ _ _ kids, kv, h => by
    simp only [KidsB] at h ⊢
    obtain ⟨A, c, e, hc, hr⟩ := h
    exact ⟨A, c, e, hc, RowB.mono hb A 0 kids hr⟩
theorem RowB.mono {base base' : Nat} {w : World} (hb : base' ≤ base) (A : Option Addr) : ∀ (j : Nat) (ps : List Pat), RowB base w A j ps → RowB base' w A j ps
  | _, [], _ => by simp only [RowB]
  | j, p :: ps, h => by
    simp only [RowB] at h ⊢
    obtain ⟨⟨g, kv, cur, e, hbg, hg, he, hk⟩, hr⟩ := h
    exact ⟨⟨g, kv, cur, e, Nat.le_trans hb hbg, hg, he, KidsB.mono hb p kv hk⟩, RowB.mono hb A (j + 1) ps hr⟩
end
/-- A row out of its elements. -/
theorem rowB_mk {base B : Nat} {w : World} {cur : Array Value} (hb : base ≤ B) (hB : w.heap[B]? = some (.cells cur TP (0, 0))) : ∀ (ps : List Pat) (j : Nat), (∀ i (h : i < ps.length), ∃ kv, ElemAt w B (j + i) ps[i] kv ∧ KidsB base w ps[i] kv) → RowB base w (some ⟨B, 0, none⟩) j ps
  | [], _, _ => by simp only [RowB]
  | p :: ps, j, h => by
    simp only [RowB]
    obtain ⟨kv, h1, h2⟩ := h 0 (by simp)
    exact ⟨⟨B, kv, cur, rfl, hb, hB, by simpa using h1, by simpa using h2⟩, rowB_mk hb hB ps (j + 1) (fun i hi => by
      obtain ⟨kv, h1, h2⟩ := h (i + 1) (by simpa using hi)
      exact ⟨kv, by rw [show j + 1 + i = j + (i + 1) by omega]; simpa using h1, by simpa using h2⟩)⟩
theorem RowB.at_ {base : Nat} {w : World} {A : Option Addr} : ∀ (ps : List Pat) (j i : Nat) (hi : i < ps.length), RowB base w A j ps → ∃ g kv cur, A = some ⟨g, 0, none⟩ ∧ base ≤ g ∧ w.heap[g]? = some (.cells cur TP (0, 0)) ∧ ElemAt w g (j + i) ps[i] kv ∧ KidsB base w ps[i] kv
  | [], _, i, hi, _ => by simp at hi
  | p :: ps, j, 0, _, h => by
    simp only [RowB] at h
    exact h.1
  | p :: ps, j, i + 1, hi, h => by
    simp only [RowB] at h
    have := RowB.at_ ps (j + 1) i (by simpa using hi) h.2
    rw [show j + 1 + i = j + (i + 1) by omega] at this
    simpa using this
theorem KidsB.form {base : Nat} {w : World} {p : Pat} {kv : Value} (h : KidsB base w p kv) : ∃ A c, kv = .slice A p.kids.length c ∧ p.kids.length ≤ c ∧ RowB base w A 0 p.kids := by
  obtain ⟨op, text, num, lo, hi, kids⟩ := p
  simp only [KidsB] at h
  exact h
end Go.Proofs.Ytndefbecoahfhaa

/- szPattern and szPatternS. -/
namespace Go.Proofs.Ytndefbecoahfhaa
open Go.RowKit

theorem leftOf_yes {n : Nat} {l : Int} (h : (n : Int) ≤ l) : leftOf n l = l - n := by unfold leftOf; rw [if_pos h]
theorem leftOf_no {n : Nat} {l : Int} (h : l < n) : leftOf n l = -1 := by unfold leftOf; rw [if_neg (by omega)]

set_option maxRecDepth 100000 in
set_option maxHeartbeats 1000000 in
theorem szS_of (ps : List Pat) (A : Option Addr) (c : Nat) (w : World) (l : Int) (hl0 : 0 ≤ l) (hl1 : l ≤ 1048576) (hc : ps.length ≤ c) (hcm : c ≤ maxLen) (hr : LRow w A 0 ps)
    (ih : ∀ (j : Nat) (h : j < ps.length) (kv : Value) (x : World) (l : Int), 0 ≤ l → l ≤ 1048576 → LKids x ps[j] kv →
      Calls Try.prog 15 #[ps[j].v kv, .int .i64 l] x fun e w' => e = .returned (.int .i64 (leftOf (szP ps[j]) l)) ∧ Below x.heap.size x w') :
    Calls Try.prog 14 #[.slice A ps.length c, .int .i64 l] w fun e w' => e = .returned (.int .i64 (leftOf (ps.length + szAll ps) l)) ∧ Below w.heap.size w w' := by
  unfold maxLen at hcm
  have IH := Lib.hid ih
  have HR := Lib.hid hr
  clear ih hr
  have hb1 : (ps.length : Int) ≤ 9223372036854775807 := by omega
  by_cases h0 : l < (ps.length : Int)
  · have HL := Lib.hid (leftOf_no (n := ps.length + szAll ps) (l := l) (by omega))
    have t1 : decide (l - (ps.length : Int) < 0) = true := by simp; omega
    go_enter Try.func14, Try.ntmps14
    go_wp2_with fail
    go_ret
    exact ⟨ret_int HL.out.symm, Below.refl _ _⟩
  · have t1 : decide (l - (ps.length : Int) < 0) = false := by simp; omega
    go_enter Try.func14, Try.ntmps14
    go_wp2_with fail
    go_loopw [1, 5] (fun lv i wr => ∃ j : Nat, j ≤ ps.length ∧ i = .int .i64 j ∧ lv = .int .i64 (l - ps.length - szAll (ps.take j)) ∧ 0 ≤ l - ps.length - szAll (ps.take j) ∧ LRow wr A 0 ps ∧ Below w.heap.size w wr) (fun _ i _ => ps.length - (intOf i).toNat)
    case atStart => exact ⟨0, Nat.zero_le _, rfl, by simp [szAll], by simp [szAll]; omega, HR.out, Below.refl _ _⟩
    case round =>
      obtain ⟨j, hj, rfl, rfl, hd, hr, hbel⟩ := hrel
      have hsz := hbel.size
      have hd1 : l - ps.length - szAll (ps.take j) ≤ 1048576 := by omega
      obtain ⟨d, hde⟩ : ∃ d, l - ps.length - szAll (ps.take j) = d := ⟨_, rfl⟩
      rw [hde] at hd hd1 ⊢
      have HDE := Lib.hid hde
      clear hde
      by_cases hlt : j < ps.length
      · obtain ⟨b, o, kv', rfl, hg, he, hkid⟩ := LRow.at_ ps 0 j hlt hr
        obtain ⟨_, A'', c'', rfl, _, _, _⟩ := hkid.form
        obtain ⟨e0, e1, e2, e3, e4, e5⟩ := he
        simp only [Nat.zero_add] at e0 e1 e2 e3 e4 e5
        have hlt' : (j : Int) < ps.length := by omega
        have HKid := Lib.hid hkid
        have HR := Lib.hid hr
        clear hkid hr
        go_wp2_with fail
        refine (IH.out j hlt _ _ d hd hd1 HKid.out).mono ?_
        rintro e w4 ⟨rfl, hb4⟩
        have hb5 : Below w.heap.size w w4 := hbel.trans (Below.mono hb4 hsz)
        have HR2 := Lib.hid (LRow.later hb4 _ 0 _ HR.out)
        have HS := Lib.hid (szAll_take_succ ps j hlt)
        have HT := Lib.hid (szAll_take_le ps (j + 1))
        clear hb4 e0 e1 e2 e3 e4 e5
        by_cases hin : (szP ps[j] : Int) ≤ d
        · rw [leftOf_yes hin]
          have t2 : decide (d - (szP ps[j] : Int) < 0) = false := by simp; omega
          go_wp2_with fail
          go_roundw
          case rel => exact ⟨j + 1, by omega, by go_num, by rw [HS.out, ← HDE.out]; congr 1; omega, by rw [HS.out]; have := HDE.out; omega, HR2.out, hb5⟩
          case measure => simp [intOf]; omega
        · rw [leftOf_no (by omega)]
          have HL : Hid (leftOf (ps.length + szAll ps) l = -1) := Lib.hid (leftOf_no (by have := HS.out; have := HT.out; have := HDE.out; omega))
          go_wp2_with fail
          go_ret
          exact ⟨ret_int HL.out.symm, hb5⟩
      · have hjl : j = ps.length := by omega
        have HL : Hid (leftOf (ps.length + szAll ps) l = d) := Lib.hid (by
          have := HDE.out
          rw [hjl, List.take_length] at this
          rw [leftOf_yes (by omega)]; omega)
        clear hr
        go_wp2_with fail
        go_ret
        exact ⟨ret_int HL.out.symm, hbel⟩

set_option maxRecDepth 100000 in
set_option maxHeartbeats 1000000 in
theorem sz_any (k : Nat) : ∀ (p : Pat) (kv : Value) (w : World) (l : Int), count p ≤ k → 0 ≤ l → l ≤ 1048576 → LKids w p kv →
    Calls Try.prog 15 #[p.v kv, .int .i64 l] w fun e w' => e = .returned (.int .i64 (leftOf (szP p) l)) ∧ Below w.heap.size w w' := by
  induction k with
  | zero => intro p kv w l h; have := count_pos p; omega
  | succ k ih =>
    intro p kv w l hcnt hl0 hl1 hin
    obtain ⟨ht, A, c, rfl, hc, hcm, hrow⟩ := hin.form
    have HE := Lib.hid (szP_eq p)
    have IH := Lib.hid ih
    have HR := Lib.hid hrow
    have HC := Lib.hid hcnt
    clear ih hin hrow hcnt
    unfold maxLen at ht
    have hb1 : (p.text.size : Int) ≤ 9223372036854775807 := by omega
    by_cases h0 : l < (p.text.size : Int)
    · have HL := Lib.hid (leftOf_no (n := szP p) (l := l) (by have := HE.out; omega))
      have t1 : decide (l - (p.text.size : Int) < 0) = true := by simp; omega
      go_enter Try.func15, Try.ntmps15
      go_wp2_with fail
      go_ret
      exact ⟨ret_int HL.out.symm, (Below.refl _ _).alloc (Nat.le_refl _) _⟩
    · have t1 : decide (l - (p.text.size : Int) < 0) = false := by simp; omega
      have hd0 : 0 ≤ l - (p.text.size : Int) := by omega
      have hd1 : l - (p.text.size : Int) ≤ 1048576 := by omega
      go_enter Try.func15, Try.ntmps15
      go_wp2_with fail
      refine (szS_of p.kids A c _ _ hd0 hd1 hc hcm (LRow.later ((Later.refl w).alloc _) _ _ _ HR.out) (fun j hj kv x l h0 h1 h2 => IH.out _ kv x l (by have := count_kid_lt p j hj; have := HC.out; omega) h0 h1 h2)).mono ?_
      rintro e w2 ⟨rfl, hb2⟩
      have hb3 : Below w.heap.size w w2 := ((Below.refl _ _).alloc (Nat.le_refl _) _).trans (Below.mono hb2 (by simp))
      clear hb2
      by_cases h2 : ((p.kids.length + szAll p.kids : Nat) : Int) ≤ l - (p.text.size : Int)
      · rw [leftOf_yes h2]
        have HL : Hid (leftOf (szP p) l = l - (p.text.size : Int) - ((p.kids.length + szAll p.kids : Nat) : Int)) := Lib.hid (by have := HE.out; rw [leftOf_yes (by omega)]; omega)
        obtain ⟨d, hde⟩ : ∃ d, l - (p.text.size : Int) - ((p.kids.length + szAll p.kids : Nat) : Int) = d := ⟨_, rfl⟩
        rw [hde] at HL ⊢
        have t3 : decide (d < 0) = false := by simp; omega
        clear hde h2
        go_wp2_with fail
        go_ret
        exact ⟨ret_int HL.out.symm, hb3⟩
      · rw [leftOf_no (by omega)]
        have HL := Lib.hid (leftOf_no (n := szP p) (l := l) (by have := HE.out; omega))
        go_wp2_with fail
        go_ret
        exact ⟨ret_int HL.out.symm, hb3⟩

end Go.Proofs.Ytndefbecoahfhaa

/- toCset, toPattern and toPatternS: copies of one's own. -/
namespace Go.Proofs.Ytndefbecoahfhaa
open Go.RowKit

set_option maxRecDepth 100000 in
set_option maxHeartbeats 1000000 in
theorem toCset_any (lo hi : Int) (w : World) :
    Calls Try.prog 42 #[.agg #[.int .i64 lo, .int .i64 hi]] w fun e w' => e = .returned (.agg #[.int .i64 lo, .int .i64 hi]) ∧ Below w.heap.size w w' := by
  go_enter Try.func42, Try.ntmps42
  go_wp2_with fail
  refine bodyPost_ret (v := .agg #[.int .i64 lo, .int .i64 hi]) (by simp [results, Try.results42, go_sem]) rfl ⟨rfl, ?_⟩
  exact (((Below.refl _ _).alloc (Nat.le_refl _) _).alloc (by simp) _).alloc (by simp; omega) _

theorem infoP : (Try.prog.info? TP).map (fun i => (i.zero, i.size, i.bytes)) = some (some (.agg #[.int .i64 0, .string ⟨#[]⟩, .int .i64 0, .int .i64 0, .int .i64 0, .slice none 0 0]), 6, 72) := by kernel_rfl
theorem make_pats (n : Nat) (hn : n ≤ 2097152) : ∃ cur : Array Value, cur.size = n * 6 ∧ ∀ w : World, (Instr.makeSlice 24 (.int .i64 (n : Int)) (.int .i64 (n : Int))).run Try.prog w = .ok (.slice (some ⟨w.heap.size, 0, none⟩) n n) (w.alloc (.cells cur TP)) := by
  obtain ⟨i, hi, hz0, hz1, hz2⟩ := info_parts infoP
  refine ⟨madeCells (Value.cells (.agg #[.int .i64 0, .string ⟨#[]⟩, .int .i64 0, .int .i64 0, .int .i64 0, .slice none 0 0])) (n * 6), size_madeCells _ _, fun w => ?_⟩
  have := run_make (P := Try.prog) w 24 TP i _ Try.underlying24 hi hz0 .i64 .i64 n n (by omega) (by omega) (by rw [hz2]; omega) (by omega)
  rw [hz1] at this
  simpa using this

theorem elem_store {x : World} {B j n : Nat} {cur : Array Value} {p : Pat} {kv : Value} (hB : x.heap[B]? = some (.cells cur TP (0, 0))) (hsz : cur.size = n * 6) (hj : j < n) :
    ∃ cur', ((((((x.setCell ⟨B, j * 6, none⟩ (.int .i64 p.op)).setCell ⟨B, j * 6 + 1, none⟩ (.string p.text)).setCell ⟨B, j * 6 + 2, none⟩ (.int .i64 p.num)).setCell ⟨B, j * 6 + 3, none⟩ (.int .i64 p.lo)).setCell ⟨B, j * 6 + 4, none⟩ (.int .i64 p.hi)).setCell ⟨B, j * 6 + 5, none⟩ kv).heap[B]? = some (.cells cur' TP (0, 0)) ∧ cur'.size = n * 6 ∧
      (∀ o, (o < j * 6 ∨ j * 6 + 5 < o) → cur'[o]? = cur[o]?) ∧ cur'[j * 6]? = some (.int .i64 p.op) ∧ cur'[j * 6 + 1]? = some (.string p.text) ∧ cur'[j * 6 + 2]? = some (.int .i64 p.num) ∧ cur'[j * 6 + 3]? = some (.int .i64 p.lo) ∧ cur'[j * 6 + 4]? = some (.int .i64 p.hi) ∧ cur'[j * 6 + 5]? = some kv := by
  have h1 := heap_set_own (o := j * 6) hB (.int .i64 p.op)
  have h2 := heap_set_own (o := j * 6 + 1) h1 (.string p.text)
  have h3 := heap_set_own (o := j * 6 + 2) h2 (.int .i64 p.num)
  have h4 := heap_set_own (o := j * 6 + 3) h3 (.int .i64 p.lo)
  have h5 := heap_set_own (o := j * 6 + 4) h4 (.int .i64 p.hi)
  have h6 := heap_set_own (o := j * 6 + 5) h5 kv
  have b0 : j * 6 + 5 < cur.size := by omega
  refine ⟨_, h6, by simp [hsz], fun o ho => ?_, ?_, ?_, ?_, ?_, ?_, ?_⟩
  · rw [Array.getElem?_setIfInBounds_ne (by omega), Array.getElem?_setIfInBounds_ne (by omega), Array.getElem?_setIfInBounds_ne (by omega), Array.getElem?_setIfInBounds_ne (by omega), Array.getElem?_setIfInBounds_ne (by omega), Array.getElem?_setIfInBounds_ne (by omega)]
  · rw [Array.getElem?_setIfInBounds_ne (by omega), Array.getElem?_setIfInBounds_ne (by omega), Array.getElem?_setIfInBounds_ne (by omega), Array.getElem?_setIfInBounds_ne (by omega), Array.getElem?_setIfInBounds_ne (by omega), Array.getElem?_setIfInBounds_self_of_lt (by first | omega | (simp; omega))]
  · rw [Array.getElem?_setIfInBounds_ne (by omega), Array.getElem?_setIfInBounds_ne (by omega), Array.getElem?_setIfInBounds_ne (by omega), Array.getElem?_setIfInBounds_ne (by omega), Array.getElem?_setIfInBounds_self_of_lt (by first | omega | (simp; omega))]
  · rw [Array.getElem?_setIfInBounds_ne (by omega), Array.getElem?_setIfInBounds_ne (by omega), Array.getElem?_setIfInBounds_ne (by omega), Array.getElem?_setIfInBounds_self_of_lt (by first | omega | (simp; omega))]
  · rw [Array.getElem?_setIfInBounds_ne (by omega), Array.getElem?_setIfInBounds_ne (by omega), Array.getElem?_setIfInBounds_self_of_lt (by first | omega | (simp; omega))]
  · rw [Array.getElem?_setIfInBounds_ne (by omega), Array.getElem?_setIfInBounds_self_of_lt (by first | omega | (simp; omega))]
  · rw [Array.getElem?_setIfInBounds_self_of_lt (by first | omega | (simp; omega))]
theorem elem_of {x : World} {B j : Nat} {cur : Array Value} {p : Pat} {kv : Value} (hB : x.heap[B]? = some (.cells cur TP (0, 0))) (h0 : cur[j * 6]? = some (.int .i64 p.op)) (h1 : cur[j * 6 + 1]? = some (.string p.text)) (h2 : cur[j * 6 + 2]? = some (.int .i64 p.num)) (h3 : cur[j * 6 + 3]? = some (.int .i64 p.lo)) (h4 : cur[j * 6 + 4]? = some (.int .i64 p.hi)) (h5 : cur[j * 6 + 5]? = some kv) : ElemAt x B j p kv :=
  ⟨(cell_of_row _ _ _ _ _ _ hB).trans h0, (cell_of_row _ _ _ _ _ _ hB).trans h1, (cell_of_row _ _ _ _ _ _ hB).trans h2, (cell_of_row _ _ _ _ _ _ hB).trans h3, (cell_of_row _ _ _ _ _ _ hB).trans h4, (cell_of_row _ _ _ _ _ _ hB).trans h5⟩
theorem elem_cur {x : World} {B j : Nat} {cur : Array Value} {p : Pat} {kv : Value} (hB : x.heap[B]? = some (.cells cur TP (0, 0))) (h : ElemAt x B j p kv) : cur[j * 6]? = some (.int .i64 p.op) ∧ cur[j * 6 + 1]? = some (.string p.text) ∧ cur[j * 6 + 2]? = some (.int .i64 p.num) ∧ cur[j * 6 + 3]? = some (.int .i64 p.lo) ∧ cur[j * 6 + 4]? = some (.int .i64 p.hi) ∧ cur[j * 6 + 5]? = some kv := by
  obtain ⟨h0, h1, h2, h3, h4, h5⟩ := h
  exact ⟨(cell_of_row _ _ _ _ _ _ hB).symm.trans h0, (cell_of_row _ _ _ _ _ _ hB).symm.trans h1, (cell_of_row _ _ _ _ _ _ hB).symm.trans h2, (cell_of_row _ _ _ _ _ _ hB).symm.trans h3, (cell_of_row _ _ _ _ _ _ hB).symm.trans h4, (cell_of_row _ _ _ _ _ _ hB).symm.trans h5⟩

theorem kidsB_mk {base : Nat} {w : World} {p : Pat} {A : Option Addr} {c : Nat} (hc : p.kids.length ≤ c) (h : RowB base w A 0 p.kids) : KidsB base w p (.slice A p.kids.length c) := by
  obtain ⟨op, text, num, lo, hi, kids⟩ := p
  simp only [KidsB]
  exact ⟨A, c, rfl, hc, h⟩
/-- What holds at the head of toPatternS' loop. -/
def ToRel (w : World) (A : Option Addr) (ps : List Pat) (B : Nat) (j : Nat) (wr : World) : Prop :=
  ∃ cur, wr.heap[B]? = some (.cells cur TP (0, 0)) ∧ cur.size = ps.length * 6 ∧ (∀ i (h : i < ps.length), i < j → ∃ kv, ElemAt wr B i ps[i] kv ∧ KidsB (B + 1) wr ps[i] kv) ∧ LRow wr A 0 ps ∧ Below w.heap.size w wr ∧ LRow w A 0 ps
theorem toRel_next {w x w4 : World} {A : Option Addr} {ps : List Pat} {B j : Nat} {kv : Value} (h : ToRel w A ps B j x) (hwB : w.heap.size ≤ B) (hj : j < ps.length) (hl : Below x.heap.size x w4) (hk : KidsB x.heap.size w4 ps[j] kv) :
    ToRel w A ps B (j + 1) ((((((w4.setCell ⟨B, j * 6, none⟩ (.int .i64 ps[j].op)).setCell ⟨B, j * 6 + 1, none⟩ (.string ps[j].text)).setCell ⟨B, j * 6 + 2, none⟩ (.int .i64 ps[j].num)).setCell ⟨B, j * 6 + 3, none⟩ (.int .i64 ps[j].lo)).setCell ⟨B, j * 6 + 4, none⟩ (.int .i64 ps[j].hi)).setCell ⟨B, j * 6 + 5, none⟩ kv) := by
  obtain ⟨cur, hB, hsz, hel, hrow, hbel, hrow0⟩ := h
  have hBx := has_lt hB
  have hB4 := Later.has hl hB
  obtain ⟨cur', hB', hsz', hoth, c0, c1, c2, c3, c4, c5⟩ := elem_store (p := ps[j]) (kv := kv) hB4 hsz hj
  have setK : ∀ (q : Pat) (v : Value), KidsB (B + 1) w4 q v → KidsB (B + 1) ((((((w4.setCell ⟨B, j * 6, none⟩ (.int .i64 ps[j].op)).setCell ⟨B, j * 6 + 1, none⟩ (.string ps[j].text)).setCell ⟨B, j * 6 + 2, none⟩ (.int .i64 ps[j].num)).setCell ⟨B, j * 6 + 3, none⟩ (.int .i64 ps[j].lo)).setCell ⟨B, j * 6 + 4, none⟩ (.int .i64 ps[j].hi)).setCell ⟨B, j * 6 + 5, none⟩ kv) q v := fun q v h =>
    KidsB.set (by omega) _ _ (KidsB.set (by omega) _ _ (KidsB.set (by omega) _ _ (KidsB.set (by omega) _ _ (KidsB.set (by omega) _ _ (KidsB.set (by omega) _ _ h)))))
  have hbel' : Below w.heap.size w ((((((w4.setCell ⟨B, j * 6, none⟩ (.int .i64 ps[j].op)).setCell ⟨B, j * 6 + 1, none⟩ (.string ps[j].text)).setCell ⟨B, j * 6 + 2, none⟩ (.int .i64 ps[j].num)).setCell ⟨B, j * 6 + 3, none⟩ (.int .i64 ps[j].lo)).setCell ⟨B, j * 6 + 4, none⟩ (.int .i64 ps[j].hi)).setCell ⟨B, j * 6 + 5, none⟩ kv) :=
    ((((((hbel.trans (Below.mono hl hbel.size)).setCell hwB _).setCell hwB _).setCell hwB _).setCell hwB _).setCell hwB _).setCell hwB _
  refine ⟨cur', hB', hsz', fun i hi hij => ?_, LRow.later hbel' A 0 ps hrow0, hbel', hrow0⟩
  by_cases e : i = j
  · subst e
    exact ⟨kv, elem_of hB' c0 c1 c2 c3 c4 c5, setK _ _ (KidsB.mono (by omega) _ _ hk)⟩
  · obtain ⟨v, h1, h2⟩ := hel i hi (by omega)
    obtain ⟨d0, d1, d2, d3, d4, d5⟩ := elem_cur hB h1
    exact ⟨v, elem_of hB' ((hoth _ (by omega)).trans d0) ((hoth _ (by omega)).trans d1) ((hoth _ (by omega)).trans d2) ((hoth _ (by omega)).trans d3) ((hoth _ (by omega)).trans d4) ((hoth _ (by omega)).trans d5), setK _ _ (KidsB.later hl _ _ h2)⟩

set_option maxRecDepth 100000 in
set_option maxHeartbeats 1000000 in
theorem toS_of (ps : List Pat) (A : Option Addr) (c : Nat) (w : World) (hn : ps.length ≤ 2097152) (hr : LRow w A 0 ps)
    (ih : ∀ (j : Nat) (h : j < ps.length) (kv : Value) (x : World), LKids x ps[j] kv →
      Calls Try.prog 17 #[ps[j].v kv] x fun e w' => ∃ kv', e = .returned (ps[j].v kv') ∧ KidsB x.heap.size w' ps[j] kv' ∧ Below x.heap.size x w') :
    Calls Try.prog 16 #[.slice A ps.length c] w fun e w' => ∃ A' c', e = .returned (.slice A' ps.length c') ∧ ps.length ≤ c' ∧ RowB w.heap.size w' A' 0 ps ∧ Below w.heap.size w w' := by
  have IH := Lib.hid ih
  have HR := Lib.hid hr
  clear ih hr
  have hb1 : (ps.length : Int) ≤ 2097152 := by omega
  obtain ⟨cur0, hcur0, hmk⟩ := make_pats ps.length hn
  have HC0 := Lib.hid hcur0
  clear hcur0
  go_enter Try.func16, Try.ntmps16
  go_wp2_with fail
  obtain ⟨B, hB⟩ : ∃ B, w.heap.size = B := ⟨_, rfl⟩
  have hwB : w.heap.size ≤ B := by omega
  have HS : Hid (ToRel w A ps B 0 (w.alloc (.cells cur0 TP))) := Lib.hid ⟨cur0, by rw [← hB]; exact heap_alloc_new w _, HC0.out, fun i _ h => (by omega), LRow.later ((Later.refl w).alloc _) A 0 ps HR.out, (Below.refl _ _).alloc (Nat.le_refl _) _, HR.out⟩
  rw [hB]
  have HBE := Lib.hid hB
  clear hmk hB HR HC0
  go_loopw [4] (fun i wr => ∃ j : Nat, j ≤ ps.length ∧ i = .int .i64 j ∧ ToRel w A ps B j wr) (fun i _ => ps.length - (intOf i).toNat)
  case atStart => exact ⟨0, Nat.zero_le _, rfl, HS.out⟩
  case round =>
    obtain ⟨j, hj, rfl, hrel⟩ := hrel
    have HT := Lib.hid hrel
    by_cases hlt : j < ps.length
    · obtain ⟨cur, hB, hsz, _, hr, _, _⟩ := hrel
      obtain ⟨b, o, kv', rfl, hg, he, hkid⟩ := LRow.at_ ps 0 j hlt hr
      obtain ⟨_, A'', c'', rfl, _, _, _⟩ := hkid.form
      obtain ⟨e0, e1, e2, e3, e4, e5⟩ := he
      simp only [Nat.zero_add] at e0 e1 e2 e3 e4 e5
      have hlt' : (j : Int) < ps.length := by omega
      have HKid := Lib.hid hkid
      have HB := Lib.hid hB
      have HSZ := Lib.hid hsz
      clear hkid hr hB hsz
      go_wp2_with fail
      refine (IH.out j hlt _ _ HKid.out).mono ?_
      rintro e w4 ⟨kv4, rfl, hk4, hb4⟩
      obtain ⟨kA4, kc4, rfl, _, _⟩ := hk4.form
      have HN := Lib.hid (toRel_next HT.out hwB hlt hb4 hk4)
      have hB4 := Later.has hb4 HB.out
      have cell_ : ∀ o, o < 6 → ∃ v, w4.cell? ⟨B, j * 6 + o, none⟩ = some v := fun o ho => by
        rw [cell_of_row _ _ _ _ _ _ hB4]
        exact ⟨_, Array.getElem?_eq_getElem (by have := HSZ.out; omega)⟩
      have froz_ : ∀ o, w4.frozen? ⟨B, o, none⟩ = false := fun o => frozen_of_row _ _ _ _ _ hB4
      obtain ⟨v0, c0⟩ := cell_ 0 (by omega)
      obtain ⟨v1, c1⟩ := cell_ 1 (by omega)
      obtain ⟨v2, c2⟩ := cell_ 2 (by omega)
      obtain ⟨v3, c3⟩ := cell_ 3 (by omega)
      obtain ⟨v4, c4⟩ := cell_ 4 (by omega)
      obtain ⟨v5, c5⟩ := cell_ 5 (by omega)
      have f0 := froz_ (j * 6)
      have f1 := froz_ (j * 6 + 1)
      have f2 := froz_ (j * 6 + 2)
      have f3 := froz_ (j * 6 + 3)
      have f4 := froz_ (j * 6 + 4)
      have f5 := froz_ (j * 6 + 5)
      simp only [Nat.add_zero] at c0
      clear hb4 hk4 hB4 cell_ froz_ e0 e1 e2 e3 e4 e5
      go_wp2_with fail
      go_roundw
      case rel => exact ⟨j + 1, by omega, by go_num, HN.out⟩
      case measure => simp [intOf]; omega
    · clear hrel
      go_wp2_with fail
      go_ret
      obtain ⟨cur, h1, h2, h3, h4, h5, _⟩ := HT.out
      exact ⟨_, _, rfl, Nat.le_refl _, rowB_mk hwB h1 ps 0 (fun i hi => by obtain ⟨kv, a, b⟩ := h3 i hi (by omega); exact ⟨kv, by simpa using a, KidsB.mono (by omega) _ _ b⟩), h5⟩

set_option maxRecDepth 100000 in
set_option maxHeartbeats 1000000 in
theorem to_any (k : Nat) : ∀ (p : Pat) (kv : Value) (w : World), count p ≤ k → k ≤ 2097152 → LKids w p kv →
    Calls Try.prog 17 #[p.v kv] w fun e w' => ∃ kv', e = .returned (p.v kv') ∧ KidsB w.heap.size w' p kv' ∧ Below w.heap.size w w' := by
  induction k with
  | zero => intro p kv w h; have := count_pos p; omega
  | succ k ih =>
    intro p kv w hcnt hk hin
    obtain ⟨_, A, c, rfl, _, _, hrow⟩ := hin.form
    have hlen : p.kids.length ≤ 2097152 := by have h1 := count_eq p; have h2 := countAll_len p.kids; omega
    have IH := Lib.hid ih
    have HR := Lib.hid hrow
    have HC := Lib.hid hcnt
    clear ih hin hrow hcnt
    go_enter Try.func17, Try.ntmps17
    go_wp2_with fail
    refine (toCset_any _ _ _).mono ?_
    rintro e w2 ⟨rfl, hb2⟩
    have h0 : w2.heap[w.heap.size]? = some (.cells #[.int .i64 p.op, .string p.text, .int .i64 p.num, .int .i64 p.lo, .int .i64 p.hi, .slice A p.kids.length c] 39 (0, 0)) := Later.has hb2 ((((Later.refl _).alloc _).alloc _).has (heap_alloc_new w _))
    have h1 : w2.heap[w.heap.size + 1]? = some (.cells #[.int .i64 0, .string ⟨#[]⟩, .int .i64 0, .int .i64 0, .int .i64 0, .slice none 0 0] TP (0, 0)) := Later.has hb2 (((Later.refl _).alloc _).has (by rw [show w.heap.size + 1 = (w.alloc _).heap.size by simp]; exact heap_alloc_new _ _))
    have h2 : w2.heap[w.heap.size + 2]? = some (.cells #[.int .i64 p.op, .string p.text, .int .i64 p.num, .int .i64 0, .int .i64 0, .slice none 0 0] TP (0, 0)) := Later.has hb2 (by rw [show w.heap.size + 2 = ((w.alloc _).alloc _).heap.size by simp]; exact heap_alloc_new _ _)
    have hL2 : Later w w2 := Later.trans ((((Later.refl w).alloc _).alloc _).alloc _) hb2
    clear hb2
    have h23 := heap_set_own (o := 3) h2 (.int .i64 p.lo)
    have h24 := heap_set_own (o := 4) h23 (.int .i64 p.hi)
    have hL3 : Below w.heap.size w ((w2.setCell ⟨w.heap.size + 2, 3, none⟩ (.int .i64 p.lo)).setCell ⟨w.heap.size + 2, 4, none⟩ (.int .i64 p.hi)) := (Below.setCell hL2 (by show w.heap.size ≤ w.heap.size + 2; omega) _).setCell (by show w.heap.size ≤ w.heap.size + 2; omega) _
    have h14 := heap_set_other (k := 4) (u := .int .i64 p.hi) (heap_set_other (k := 3) (u := .int .i64 p.lo) h1 (show w.heap.size + 1 ≠ w.heap.size + 2 by omega)) (show w.heap.size + 1 ≠ w.heap.size + 2 by omega)
    have H24 := Lib.hid h24
    have H14 := Lib.hid h14
    have HL3 := Lib.hid hL3
    obtain ⟨p0, p1, p2, p3, p4, p5⟩ := cells_p h0
    obtain ⟨q0, q1, q2, q3, q4, q5⟩ := cells_p h2
    have f3 := frozen_of_row _ _ 3 _ _ h2
    have f4 := frozen_of_row _ _ 4 _ _ h2
    have hne : ¬ w.heap.size = w.heap.size + 2 := by omega
    have hz := has_lt h2
    clear h0 h1 h2 h23 h24 hL2 hL3 h14
    go_wp2_with fail
    clear p0 p1 p2 p3 p4 p5 q0 q1 q2 q3 q4 q5 f3 f4
    refine (toS_of p.kids A c _ hlen (LRow.later HL3.out _ _ _ HR.out) (fun j hj kv x h => IH.out _ kv x (by have := count_kid_lt p j hj; have := HC.out; omega) (by omega) h)).mono ?_
    rintro e w3 ⟨kA, kc, rfl, hkc, hrow3, hb3⟩
    have h2 := Later.has hb3 H24.out
    have h1 := Later.has hb3 H14.out
    have hL4 : Below w.heap.size w w3 := HL3.out.trans (Below.mono hb3 (by simp; omega))
    have HROW3 := Lib.hid (RowB.mono (base' := w.heap.size + 3) (by simp; omega) _ _ _ hrow3)
    obtain ⟨q0, q1, q2, q3, q4, q5⟩ := cells_p (v3 := .int .i64 p.lo) (v4 := .int .i64 p.hi) h2
    have f5 := frozen_of_row _ _ 5 _ _ h2
    obtain ⟨r0, r1, r2, r3, r4, r5⟩ := cells_p h1
    have g0 := frozen_of_row _ _ 0 _ _ h1
    have g1 := frozen_of_row _ _ 1 _ _ h1
    have g2 := frozen_of_row _ _ 2 _ _ h1
    have g3 := frozen_of_row _ _ 3 _ _ h1
    have g4 := frozen_of_row _ _ 4 _ _ h1
    have g5 := frozen_of_row _ _ 5 _ _ h1
    have hne2 : ¬ w.heap.size + 1 = w.heap.size + 2 := by omega
    have hne3 : ¬ w.heap.size + 2 = w.heap.size + 1 := by omega
    have HL4 := Lib.hid hL4
    clear hb3 hrow3 h1 h2 hL4
    go_wp2_with fail
    refine bodyPost_ret (v := p.v (.slice kA p.kids.length kc)) (by simp [results, Try.results17, go_sem, r0, r1, r2, r3, r4, r5, q0, q1, q2, q3, q4, q5]) rfl ?_
    refine ⟨_, rfl, ?_, ?_⟩
    · have hk : KidsB (w.heap.size + 3) w3 p (.slice kA p.kids.length kc) := kidsB_mk hkc HROW3.out
      refine KidsB.mono (show w.heap.size ≤ w.heap.size + 3 by omega) _ _ ?_
      refine (KidsB.set ?_ _ _ (KidsB.set ?_ _ _ (KidsB.set ?_ _ _ (KidsB.set ?_ _ _ (KidsB.set ?_ _ _ (KidsB.set ?_ _ _ (KidsB.set ?_ _ _ hk))))))) <;> omega
    · have hk : Below w.heap.size w w3 := HL4.out
      refine (Below.setCell (Below.setCell (Below.setCell (Below.setCell (Below.setCell (Below.setCell (Below.setCell hk ?_ _) ?_ _) ?_ _) ?_ _) ?_ _) ?_ _) ?_ _) <;> first | (simp; done) | (simp; omega) | exact Nat.le_add_right _ _

end Go.Proofs.Ytndefbecoahfhaa

/- The laws' eqCset, eqPattern, eqPatternS, eqCapture, eqCaptureS and eqMatch: true where both are alike. Printed by gen_eq.py. -/
namespace Go.Proofs.Ytndefbecoahfhaa
open Go.RowKit

theorem capCells_at : ∀ (l : List Cap) (j : Nat) (h : j < l.length), (capCells l)[j * 3]? = some (.int .i64 l[j].var) ∧ (capCells l)[j * 3 + 1]? = some (.int .i64 l[j].fr) ∧ (capCells l)[j * 3 + 2]? = some (.int .i64 l[j].to)
  | [], j, h => by simp at h
  | c :: l, 0, _ => by simp [capCells]
  | c :: l, j + 1, h => by
    have := capCells_at l j (by simpa using h)
    simpa [capCells, show (j + 1) * 3 = j * 3 + 3 by omega, show (j + 1) * 3 + 1 = j * 3 + 1 + 3 by omega, show (j + 1) * 3 + 2 = j * 3 + 2 + 3 by omega] using this
theorem cap_cells {w x : World} {b : Nat} {v : Value} {l : List Cap} (h : HasRow w b TK 3 v l.length (capCells l)) {j : Nat} (hj : j < l.length) (hl : Below w.heap.size w x) :
    ∃ g c, v = .slice (some ⟨g, 0, none⟩) l.length c ∧ x.cell? ⟨g, j * 3, none⟩ = some (.int .i64 l[j].var) ∧ x.cell? ⟨g, j * 3 + 1, none⟩ = some (.int .i64 l[j].fr) ∧ x.cell? ⟨g, j * 3 + 2, none⟩ = some (.int .i64 l[j].to) := by
  obtain ⟨g, c, rfl, _, _, _⟩ := h.block_ (by omega)
  have hc := h.cells (g := g) rfl
  have hg := (h.lt g rfl).2.1
  obtain ⟨c0, c1, c2⟩ := capCells_at l j hj
  exact ⟨g, c, rfl, (Later.cell hl _ hg).trans (hc _ _ c0), (Later.cell hl _ hg).trans (hc _ _ c1), (Later.cell hl _ hg).trans (hc _ _ c2)⟩

set_option maxRecDepth 100000 in
set_option maxHeartbeats 1000000 in
theorem eqCset_any (lo hi : Int) (w : World) :
    Calls Try.prog 44 #[.agg #[.int .i64 lo, .int .i64 hi], .agg #[.int .i64 lo, .int .i64 hi]] w fun e w' => e = .returned (.bool true) ∧ Below w.heap.size w w' := by
  go_enter Try.func44, Try.ntmps44
  go_wp2_with fail
  go_ret
  exact ⟨rfl, ((Below.refl _ _).alloc (Nat.le_refl _) _).alloc (by simp) _⟩

set_option maxRecDepth 100000 in
set_option maxHeartbeats 1000000 in
theorem eqCapture_any (a b c : Int) (w : World) :
    Calls Try.prog 72 #[.agg #[.int .i64 a, .int .i64 b, .int .i64 c], .agg #[.int .i64 a, .int .i64 b, .int .i64 c]] w fun e w' => e = .returned (.bool true) ∧ Below w.heap.size w w' := by
  go_enter Try.func72, Try.ntmps72
  go_wp2_with fail
  go_ret
  exact ⟨rfl, ((Below.refl _ _).alloc (Nat.le_refl _) _).alloc (by simp) _⟩

set_option maxRecDepth 100000 in
set_option maxHeartbeats 1000000 in
theorem eqCaptureS_any (l : List Cap) (u v : Value) (w : World) (b1 b2 : Nat) (hu : HasRow w b1 TK 3 u l.length (capCells l)) (hv : HasRow w b2 TK 3 v l.length (capCells l)) (hn : l.length ≤ 1000000) :
    Calls Try.prog 43 #[u, v] w fun e w' => e = .returned (.bool true) ∧ Below w.heap.size w w' := by
  obtain ⟨uA, uc, rfl, _, _⟩ := hu.form
  obtain ⟨vA, vc, rfl, _, _⟩ := hv.form
  have HU := Lib.hid hu
  have HV := Lib.hid hv
  clear hu hv
  have hb1 : (l.length : Int) ≤ 1000000 := by omega
  go_enter Try.func43, Try.ntmps43
  go_wp2_with fail
  go_loopw [5] (fun i wr => ∃ j : Nat, j ≤ l.length ∧ i = .int .i64 j ∧ Below w.heap.size w wr) (fun i _ => l.length - (intOf i).toNat)
  case atStart => exact ⟨0, Nat.zero_le _, rfl, Below.refl _ _⟩
  case round =>
    obtain ⟨j, hj, rfl, hbel⟩ := hrel
    have hsz := hbel.size
    by_cases hlt : j < l.length
    · obtain ⟨g1, c1, hv1, a0, a1, a2⟩ := cap_cells HU.out hlt hbel
      obtain ⟨rfl, rfl⟩ : uA = some ⟨g1, 0, none⟩ ∧ uc = c1 := by simpa using hv1
      obtain ⟨g2, c2, hv2, d0, d1, d2⟩ := cap_cells HV.out hlt hbel
      obtain ⟨rfl, rfl⟩ : vA = some ⟨g2, 0, none⟩ ∧ vc = c2 := by simpa using hv2
      clear hv1 hv2
      have hlt' : (j : Int) < l.length := by omega
      have HA := Lib.hid (And.intro a0 (And.intro a1 a2))
      have HD := Lib.hid (And.intro d0 (And.intro d1 d2))
      have HG1 := Lib.hid (Nat.lt_of_lt_of_le (HU.out.lt g1 rfl).2.1 hsz)
      have HG2 := Lib.hid (Nat.lt_of_lt_of_le (HV.out.lt g2 rfl).2.1 hsz)
      clear a0 a1 a2 d0 d1 d2
      go_wp2_with fail
      -- region 6: 10 operations, the last [8, 9]
      refine wpU_begin [8, 9] [] (by kernel_rfl) (fun w3 hw3 => ?_)
      have hl3 := drew_later hw3
      have HG1' := Lib.hid (Nat.lt_of_lt_of_le HG1.out hl3.size)
      have HG2' := Lib.hid (Nat.lt_of_lt_of_le HG2.out hl3.size)
      have HA' := Lib.hid (And.intro ((hl3.cell _ (show g1 < _ from HG1.out)).trans HA.out.1) (And.intro ((hl3.cell _ (show g1 < _ from HG1.out)).trans HA.out.2.1) ((hl3.cell _ (show g1 < _ from HG1.out)).trans HA.out.2.2)))
      have HD' := Lib.hid (And.intro ((hl3.cell _ (show g2 < _ from HG2.out)).trans HD.out.1) (And.intro ((hl3.cell _ (show g2 < _ from HG2.out)).trans HD.out.2.1) ((hl3.cell _ (show g2 < _ from HG2.out)).trans HD.out.2.2)))
      have HL3 := Lib.hid (Below.trans hbel (Below.mono hl3 hsz))
      clear hw3 hl3
      refine wpU_take 0 (some 17) (v := ?_) rfl rfl (by kernel_rfl) (fun _ _ _ h => h) rfl (fun x hx => ?_) ?_
      rotate_left 1
      · go_simp; first | done | with_reducible rfl | rw [if_neg (by omega)] | rw [if_pos (by omega)]
      simp only [Act.put, List.setIfInBounds_toArray, List.set_cons_zero, List.set_cons_succ]
      refine wpU_take 1 (some 18) (v := ?_) rfl rfl (by kernel_rfl) (fun _ _ _ h => h) rfl (fun x hx => ?_) ?_
      rotate_left 1
      · go_simp; first | done | with_reducible rfl | rw [if_neg (by omega)] | rw [if_pos (by omega)]
      simp only [Act.put, List.setIfInBounds_toArray, List.set_cons_zero, List.set_cons_succ]
      refine wpU_take 2 (some 19) (v := ?_) rfl rfl (by kernel_rfl) (fun _ _ _ h => h) rfl (fun x hx => ?_) ?_
      rotate_left 1
      · go_simp; first | done | with_reducible rfl | rw [if_neg (by omega)] | rw [if_pos (by omega)]
      simp only [Act.put, List.setIfInBounds_toArray, List.set_cons_zero, List.set_cons_succ]
      refine wpU_take 3 (some 20) (v := ?_) rfl rfl (by kernel_rfl) (fun _ _ _ h => h) rfl (fun x hx => ?_) ?_
      rotate_left 1
      · have a0 := (hx.cell _ (show g1 < _ from HG1'.out)).trans HA'.out.1; have a1 := (hx.cell _ (show g1 < _ from HG1'.out)).trans HA'.out.2.1; have a2 := (hx.cell _ (show g1 < _ from HG1'.out)).trans HA'.out.2.2; have d0 := (hx.cell _ (show g2 < _ from HG2'.out)).trans HD'.out.1; have d1 := (hx.cell _ (show g2 < _ from HG2'.out)).trans HD'.out.2.1; have d2 := (hx.cell _ (show g2 < _ from HG2'.out)).trans HD'.out.2.2; go_simp; first | done | with_reducible rfl | rw [if_neg (by omega)] | rw [if_pos (by omega)]
      simp only [Act.put, List.setIfInBounds_toArray, List.set_cons_zero, List.set_cons_succ]
      refine wpU_take 4 (some 21) (v := ?_) rfl rfl (by kernel_rfl) (fun _ _ _ h => h) rfl (fun x hx => ?_) ?_
      rotate_left 1
      · go_simp; first | done | with_reducible rfl | rw [if_neg (by omega)] | rw [if_pos (by omega)]
      simp only [Act.put, List.setIfInBounds_toArray, List.set_cons_zero, List.set_cons_succ]
      refine wpU_take 5 (some 22) (v := ?_) rfl rfl (by kernel_rfl) (fun _ _ _ h => h) rfl (fun x hx => ?_) ?_
      rotate_left 1
      · go_simp; first | done | with_reducible rfl | rw [if_neg (by omega)] | rw [if_pos (by omega)]
      simp only [Act.put, List.setIfInBounds_toArray, List.set_cons_zero, List.set_cons_succ]
      refine wpU_take 6 (some 23) (v := ?_) rfl rfl (by kernel_rfl) (fun _ _ _ h => h) rfl (fun x hx => ?_) ?_
      rotate_left 1
      · go_simp; first | done | with_reducible rfl | rw [if_neg (by omega)] | rw [if_pos (by omega)]
      simp only [Act.put, List.setIfInBounds_toArray, List.set_cons_zero, List.set_cons_succ]
      refine wpU_take 7 (some 24) (v := ?_) rfl rfl (by kernel_rfl) (fun _ _ _ h => h) rfl (fun x hx => ?_) ?_
      rotate_left 1
      · have a0 := (hx.cell _ (show g1 < _ from HG1'.out)).trans HA'.out.1; have a1 := (hx.cell _ (show g1 < _ from HG1'.out)).trans HA'.out.2.1; have a2 := (hx.cell _ (show g1 < _ from HG1'.out)).trans HA'.out.2.2; have d0 := (hx.cell _ (show g2 < _ from HG2'.out)).trans HD'.out.1; have d1 := (hx.cell _ (show g2 < _ from HG2'.out)).trans HD'.out.2.1; have d2 := (hx.cell _ (show g2 < _ from HG2'.out)).trans HD'.out.2.2; go_simp; first | done | with_reducible rfl | rw [if_neg (by omega)] | rw [if_pos (by omega)]
      simp only [Act.put, List.setIfInBounds_toArray, List.set_cons_zero, List.set_cons_succ]
      refine wpU_last [_, _] (by kernel_rfl) rfl rfl ?_
      simp only [List.getElem_toArray, List.getElem_cons_succ, List.getElem_cons_zero]
      go_wp2_with fail
      refine (eqCapture_any _ _ _ _).mono ?_
      rintro e w4 ⟨rfl, hb4⟩
      have hb5 : Below w.heap.size w w4 := HL3.out.trans (Below.mono hb4 HL3.out.size)
      clear hb4
      go_wp2_with fail
      go_roundw
      case rel => exact ⟨j + 1, by omega, by go_num, hb5⟩
      case measure => simp [intOf]; omega
    · go_wp2_with fail
      go_ret
      exact ⟨rfl, hbel⟩

set_option maxRecDepth 100000 in
set_option maxHeartbeats 1000000 in
theorem eqMatch_any (r : Res) (fr : Int) (cv ev cv' ev' : Value) (w : World) (b1 b2 : Nat) (h1 : HasRow w b1 TK 3 cv r.caps.length (capCells r.caps)) (h2 : HasRow w b1 TK 3 ev r.events.length (capCells r.events)) (h3 : HasRow w b2 TK 3 cv' r.caps.length (capCells r.caps)) (h4 : HasRow w b2 TK 3 ev' r.events.length (capCells r.events)) (hn : r.caps.length ≤ 1000000) (hm : r.events.length ≤ 1000000) :
    Calls Try.prog 18 #[matchV r fr cv ev, matchV r fr cv' ev'] w fun e w' => e = .returned (.bool true) ∧ Below w.heap.size w w' := by
  obtain ⟨cA, cc, rfl, _, _⟩ := h1.form
  obtain ⟨eA, ec, rfl, _, _⟩ := h2.form
  obtain ⟨cA', cc', rfl, _, _⟩ := h3.form
  obtain ⟨eA', ec', rfl, _, _⟩ := h4.form
  have H1 := Lib.hid h1
  have H2 := Lib.hid h2
  have H3 := Lib.hid h3
  have H4 := Lib.hid h4
  clear h1 h2 h3 h4
  obtain ⟨found, stopped, exhausted, at_, steps, caps, events⟩ := r
  cases found <;> cases stopped <;> cases exhausted
  · go_enter Try.func18, Try.ntmps18
    go_wp2_with fail
    have HLA := Lib.hid (((Later.refl w).alloc (Obj.cells #[.bool false, .bool false, .bool false, .int .i64 fr, .int .i64 at_, .int .i64 steps, .slice cA caps.length cc, .slice eA events.length ec] TR)).alloc (Obj.cells #[.bool false, .bool false, .bool false, .int .i64 fr, .int .i64 at_, .int .i64 steps, .slice cA' caps.length cc', .slice eA' events.length ec'] TR))
    refine (eqCaptureS_any caps _ _ _ b1 b2 (H1.out.same fun k hk => HLA.out.block k (H1.out.lt k hk).2.1) (H3.out.same fun k hk => HLA.out.block k (H3.out.lt k hk).2.1) hn).mono ?_
    rintro e w2 ⟨rfl, hb2⟩
    have hr1 := Later.has hb2 (((Later.refl _).alloc _).has (heap_alloc_new w _))
    have hr2 := Later.has hb2 (heap_alloc_new _ _)
    simp only [World.size_alloc] at hr2
    have HL2 := Lib.hid (HLA.out.trans hb2)
    obtain ⟨r0, r1, r2, r3, r4, r5, r6, r7⟩ := cells_r hr1
    obtain ⟨s0, s1, s2, s3, s4, s5, s6, s7⟩ := cells_r hr2
    clear hb2 hr1 hr2 HLA
    go_wp2_with fail
    refine (eqCaptureS_any events _ _ _ b1 b2 (H2.out.same fun k hk => HL2.out.block k (H2.out.lt k hk).2.1) (H4.out.same fun k hk => HL2.out.block k (H4.out.lt k hk).2.1) hm).mono ?_
    rintro e w3 ⟨rfl, hb3⟩
    have HL3 := Lib.hid (HL2.out.trans hb3)
    clear hb3
    go_wp2_with fail
    go_ret
    exact ⟨rfl, HL3.out⟩
  · go_enter Try.func18, Try.ntmps18
    go_wp2_with fail
    have HLA := Lib.hid (((Later.refl w).alloc (Obj.cells #[.bool false, .bool false, .bool true, .int .i64 fr, .int .i64 at_, .int .i64 steps, .slice cA caps.length cc, .slice eA events.length ec] TR)).alloc (Obj.cells #[.bool false, .bool false, .bool true, .int .i64 fr, .int .i64 at_, .int .i64 steps, .slice cA' caps.length cc', .slice eA' events.length ec'] TR))
    refine (eqCaptureS_any caps _ _ _ b1 b2 (H1.out.same fun k hk => HLA.out.block k (H1.out.lt k hk).2.1) (H3.out.same fun k hk => HLA.out.block k (H3.out.lt k hk).2.1) hn).mono ?_
    rintro e w2 ⟨rfl, hb2⟩
    have hr1 := Later.has hb2 (((Later.refl _).alloc _).has (heap_alloc_new w _))
    have hr2 := Later.has hb2 (heap_alloc_new _ _)
    simp only [World.size_alloc] at hr2
    have HL2 := Lib.hid (HLA.out.trans hb2)
    obtain ⟨r0, r1, r2, r3, r4, r5, r6, r7⟩ := cells_r hr1
    obtain ⟨s0, s1, s2, s3, s4, s5, s6, s7⟩ := cells_r hr2
    clear hb2 hr1 hr2 HLA
    go_wp2_with fail
    refine (eqCaptureS_any events _ _ _ b1 b2 (H2.out.same fun k hk => HL2.out.block k (H2.out.lt k hk).2.1) (H4.out.same fun k hk => HL2.out.block k (H4.out.lt k hk).2.1) hm).mono ?_
    rintro e w3 ⟨rfl, hb3⟩
    have HL3 := Lib.hid (HL2.out.trans hb3)
    clear hb3
    go_wp2_with fail
    go_ret
    exact ⟨rfl, HL3.out⟩
  · go_enter Try.func18, Try.ntmps18
    go_wp2_with fail
    have HLA := Lib.hid (((Later.refl w).alloc (Obj.cells #[.bool false, .bool true, .bool false, .int .i64 fr, .int .i64 at_, .int .i64 steps, .slice cA caps.length cc, .slice eA events.length ec] TR)).alloc (Obj.cells #[.bool false, .bool true, .bool false, .int .i64 fr, .int .i64 at_, .int .i64 steps, .slice cA' caps.length cc', .slice eA' events.length ec'] TR))
    refine (eqCaptureS_any caps _ _ _ b1 b2 (H1.out.same fun k hk => HLA.out.block k (H1.out.lt k hk).2.1) (H3.out.same fun k hk => HLA.out.block k (H3.out.lt k hk).2.1) hn).mono ?_
    rintro e w2 ⟨rfl, hb2⟩
    have hr1 := Later.has hb2 (((Later.refl _).alloc _).has (heap_alloc_new w _))
    have hr2 := Later.has hb2 (heap_alloc_new _ _)
    simp only [World.size_alloc] at hr2
    have HL2 := Lib.hid (HLA.out.trans hb2)
    obtain ⟨r0, r1, r2, r3, r4, r5, r6, r7⟩ := cells_r hr1
    obtain ⟨s0, s1, s2, s3, s4, s5, s6, s7⟩ := cells_r hr2
    clear hb2 hr1 hr2 HLA
    go_wp2_with fail
    refine (eqCaptureS_any events _ _ _ b1 b2 (H2.out.same fun k hk => HL2.out.block k (H2.out.lt k hk).2.1) (H4.out.same fun k hk => HL2.out.block k (H4.out.lt k hk).2.1) hm).mono ?_
    rintro e w3 ⟨rfl, hb3⟩
    have HL3 := Lib.hid (HL2.out.trans hb3)
    clear hb3
    go_wp2_with fail
    go_ret
    exact ⟨rfl, HL3.out⟩
  · go_enter Try.func18, Try.ntmps18
    go_wp2_with fail
    have HLA := Lib.hid (((Later.refl w).alloc (Obj.cells #[.bool false, .bool true, .bool true, .int .i64 fr, .int .i64 at_, .int .i64 steps, .slice cA caps.length cc, .slice eA events.length ec] TR)).alloc (Obj.cells #[.bool false, .bool true, .bool true, .int .i64 fr, .int .i64 at_, .int .i64 steps, .slice cA' caps.length cc', .slice eA' events.length ec'] TR))
    refine (eqCaptureS_any caps _ _ _ b1 b2 (H1.out.same fun k hk => HLA.out.block k (H1.out.lt k hk).2.1) (H3.out.same fun k hk => HLA.out.block k (H3.out.lt k hk).2.1) hn).mono ?_
    rintro e w2 ⟨rfl, hb2⟩
    have hr1 := Later.has hb2 (((Later.refl _).alloc _).has (heap_alloc_new w _))
    have hr2 := Later.has hb2 (heap_alloc_new _ _)
    simp only [World.size_alloc] at hr2
    have HL2 := Lib.hid (HLA.out.trans hb2)
    obtain ⟨r0, r1, r2, r3, r4, r5, r6, r7⟩ := cells_r hr1
    obtain ⟨s0, s1, s2, s3, s4, s5, s6, s7⟩ := cells_r hr2
    clear hb2 hr1 hr2 HLA
    go_wp2_with fail
    refine (eqCaptureS_any events _ _ _ b1 b2 (H2.out.same fun k hk => HL2.out.block k (H2.out.lt k hk).2.1) (H4.out.same fun k hk => HL2.out.block k (H4.out.lt k hk).2.1) hm).mono ?_
    rintro e w3 ⟨rfl, hb3⟩
    have HL3 := Lib.hid (HL2.out.trans hb3)
    clear hb3
    go_wp2_with fail
    go_ret
    exact ⟨rfl, HL3.out⟩
  · go_enter Try.func18, Try.ntmps18
    go_wp2_with fail
    have HLA := Lib.hid (((Later.refl w).alloc (Obj.cells #[.bool true, .bool false, .bool false, .int .i64 fr, .int .i64 at_, .int .i64 steps, .slice cA caps.length cc, .slice eA events.length ec] TR)).alloc (Obj.cells #[.bool true, .bool false, .bool false, .int .i64 fr, .int .i64 at_, .int .i64 steps, .slice cA' caps.length cc', .slice eA' events.length ec'] TR))
    refine (eqCaptureS_any caps _ _ _ b1 b2 (H1.out.same fun k hk => HLA.out.block k (H1.out.lt k hk).2.1) (H3.out.same fun k hk => HLA.out.block k (H3.out.lt k hk).2.1) hn).mono ?_
    rintro e w2 ⟨rfl, hb2⟩
    have hr1 := Later.has hb2 (((Later.refl _).alloc _).has (heap_alloc_new w _))
    have hr2 := Later.has hb2 (heap_alloc_new _ _)
    simp only [World.size_alloc] at hr2
    have HL2 := Lib.hid (HLA.out.trans hb2)
    obtain ⟨r0, r1, r2, r3, r4, r5, r6, r7⟩ := cells_r hr1
    obtain ⟨s0, s1, s2, s3, s4, s5, s6, s7⟩ := cells_r hr2
    clear hb2 hr1 hr2 HLA
    go_wp2_with fail
    refine (eqCaptureS_any events _ _ _ b1 b2 (H2.out.same fun k hk => HL2.out.block k (H2.out.lt k hk).2.1) (H4.out.same fun k hk => HL2.out.block k (H4.out.lt k hk).2.1) hm).mono ?_
    rintro e w3 ⟨rfl, hb3⟩
    have HL3 := Lib.hid (HL2.out.trans hb3)
    clear hb3
    go_wp2_with fail
    go_ret
    exact ⟨rfl, HL3.out⟩
  · go_enter Try.func18, Try.ntmps18
    go_wp2_with fail
    have HLA := Lib.hid (((Later.refl w).alloc (Obj.cells #[.bool true, .bool false, .bool true, .int .i64 fr, .int .i64 at_, .int .i64 steps, .slice cA caps.length cc, .slice eA events.length ec] TR)).alloc (Obj.cells #[.bool true, .bool false, .bool true, .int .i64 fr, .int .i64 at_, .int .i64 steps, .slice cA' caps.length cc', .slice eA' events.length ec'] TR))
    refine (eqCaptureS_any caps _ _ _ b1 b2 (H1.out.same fun k hk => HLA.out.block k (H1.out.lt k hk).2.1) (H3.out.same fun k hk => HLA.out.block k (H3.out.lt k hk).2.1) hn).mono ?_
    rintro e w2 ⟨rfl, hb2⟩
    have hr1 := Later.has hb2 (((Later.refl _).alloc _).has (heap_alloc_new w _))
    have hr2 := Later.has hb2 (heap_alloc_new _ _)
    simp only [World.size_alloc] at hr2
    have HL2 := Lib.hid (HLA.out.trans hb2)
    obtain ⟨r0, r1, r2, r3, r4, r5, r6, r7⟩ := cells_r hr1
    obtain ⟨s0, s1, s2, s3, s4, s5, s6, s7⟩ := cells_r hr2
    clear hb2 hr1 hr2 HLA
    go_wp2_with fail
    refine (eqCaptureS_any events _ _ _ b1 b2 (H2.out.same fun k hk => HL2.out.block k (H2.out.lt k hk).2.1) (H4.out.same fun k hk => HL2.out.block k (H4.out.lt k hk).2.1) hm).mono ?_
    rintro e w3 ⟨rfl, hb3⟩
    have HL3 := Lib.hid (HL2.out.trans hb3)
    clear hb3
    go_wp2_with fail
    go_ret
    exact ⟨rfl, HL3.out⟩
  · go_enter Try.func18, Try.ntmps18
    go_wp2_with fail
    have HLA := Lib.hid (((Later.refl w).alloc (Obj.cells #[.bool true, .bool true, .bool false, .int .i64 fr, .int .i64 at_, .int .i64 steps, .slice cA caps.length cc, .slice eA events.length ec] TR)).alloc (Obj.cells #[.bool true, .bool true, .bool false, .int .i64 fr, .int .i64 at_, .int .i64 steps, .slice cA' caps.length cc', .slice eA' events.length ec'] TR))
    refine (eqCaptureS_any caps _ _ _ b1 b2 (H1.out.same fun k hk => HLA.out.block k (H1.out.lt k hk).2.1) (H3.out.same fun k hk => HLA.out.block k (H3.out.lt k hk).2.1) hn).mono ?_
    rintro e w2 ⟨rfl, hb2⟩
    have hr1 := Later.has hb2 (((Later.refl _).alloc _).has (heap_alloc_new w _))
    have hr2 := Later.has hb2 (heap_alloc_new _ _)
    simp only [World.size_alloc] at hr2
    have HL2 := Lib.hid (HLA.out.trans hb2)
    obtain ⟨r0, r1, r2, r3, r4, r5, r6, r7⟩ := cells_r hr1
    obtain ⟨s0, s1, s2, s3, s4, s5, s6, s7⟩ := cells_r hr2
    clear hb2 hr1 hr2 HLA
    go_wp2_with fail
    refine (eqCaptureS_any events _ _ _ b1 b2 (H2.out.same fun k hk => HL2.out.block k (H2.out.lt k hk).2.1) (H4.out.same fun k hk => HL2.out.block k (H4.out.lt k hk).2.1) hm).mono ?_
    rintro e w3 ⟨rfl, hb3⟩
    have HL3 := Lib.hid (HL2.out.trans hb3)
    clear hb3
    go_wp2_with fail
    go_ret
    exact ⟨rfl, HL3.out⟩
  · go_enter Try.func18, Try.ntmps18
    go_wp2_with fail
    have HLA := Lib.hid (((Later.refl w).alloc (Obj.cells #[.bool true, .bool true, .bool true, .int .i64 fr, .int .i64 at_, .int .i64 steps, .slice cA caps.length cc, .slice eA events.length ec] TR)).alloc (Obj.cells #[.bool true, .bool true, .bool true, .int .i64 fr, .int .i64 at_, .int .i64 steps, .slice cA' caps.length cc', .slice eA' events.length ec'] TR))
    refine (eqCaptureS_any caps _ _ _ b1 b2 (H1.out.same fun k hk => HLA.out.block k (H1.out.lt k hk).2.1) (H3.out.same fun k hk => HLA.out.block k (H3.out.lt k hk).2.1) hn).mono ?_
    rintro e w2 ⟨rfl, hb2⟩
    have hr1 := Later.has hb2 (((Later.refl _).alloc _).has (heap_alloc_new w _))
    have hr2 := Later.has hb2 (heap_alloc_new _ _)
    simp only [World.size_alloc] at hr2
    have HL2 := Lib.hid (HLA.out.trans hb2)
    obtain ⟨r0, r1, r2, r3, r4, r5, r6, r7⟩ := cells_r hr1
    obtain ⟨s0, s1, s2, s3, s4, s5, s6, s7⟩ := cells_r hr2
    clear hb2 hr1 hr2 HLA
    go_wp2_with fail
    refine (eqCaptureS_any events _ _ _ b1 b2 (H2.out.same fun k hk => HL2.out.block k (H2.out.lt k hk).2.1) (H4.out.same fun k hk => HL2.out.block k (H4.out.lt k hk).2.1) hm).mono ?_
    rintro e w3 ⟨rfl, hb3⟩
    have HL3 := Lib.hid (HL2.out.trans hb3)
    clear hb3
    go_wp2_with fail
    go_ret
    exact ⟨rfl, HL3.out⟩

set_option maxRecDepth 100000 in
set_option maxHeartbeats 1000000 in
theorem eqS_of (ps : List Pat) (A B : Option Addr) (c d : Nat) (w : World) (hn : ps.length ≤ 2097152) (hr : RowIn w A 0 ps) (hq : RowIn w B 0 ps)
    (ih : ∀ (j : Nat) (h : j < ps.length) (kv kv' : Value) (x : World), KidsIn x ps[j] kv → KidsIn x ps[j] kv' →
      Calls Try.prog 20 #[ps[j].v kv, ps[j].v kv'] x fun e w' => e = .returned (.bool true) ∧ Below x.heap.size x w') :
    Calls Try.prog 19 #[.slice A ps.length c, .slice B ps.length d] w fun e w' => e = .returned (.bool true) ∧ Below w.heap.size w w' := by
  have IH := Lib.hid ih
  have HR := Lib.hid hr
  have HQ := Lib.hid hq
  clear ih hr hq
  have hb1 : (ps.length : Int) ≤ 2097152 := by omega
  go_enter Try.func19, Try.ntmps19
  go_wp2_with fail
  go_loopw [5] (fun i wr => ∃ j : Nat, j ≤ ps.length ∧ i = .int .i64 j ∧ Below w.heap.size w wr) (fun i _ => ps.length - (intOf i).toNat)
  case atStart => exact ⟨0, Nat.zero_le _, rfl, Below.refl _ _⟩
  case round =>
    obtain ⟨j, hj, rfl, hbel⟩ := hrel
    have hsz := hbel.size
    by_cases hlt : j < ps.length
    · have hlt' : (j : Int) < ps.length := by omega
      obtain ⟨g1, kv1, hA, hg1, he1, hk1⟩ := rowOf _ ps (RowIn.later hbel A 0 ps HR.out) hlt
      obtain ⟨g2, kv2, hB, hg2, he2, hk2⟩ := rowOf _ ps (RowIn.later hbel B 0 ps HQ.out) hlt
      obtain ⟨k1A, k1c, rfl, _, _⟩ := hk1.form
      obtain ⟨k2A, k2c, rfl, _, _⟩ := hk2.form
      subst hA hB
      have HE1 := Lib.hid he1
      have HE2 := Lib.hid he2
      have HK1 := Lib.hid hk1
      have HK2 := Lib.hid hk2
      clear he1 he2 hk1 hk2
      go_wp2_with fail
      -- region 6: 10 operations, the last [8, 9]
      refine wpU_begin [8, 9] [] (by kernel_rfl) (fun w3 hw3 => ?_)
      have hl3 := drew_later hw3
      have HE1' := Lib.hid (HE1.out.below hl3)
      have HE2' := Lib.hid (HE2.out.below hl3)
      have HK1' := Lib.hid (KidsIn.later hl3 _ _ HK1.out)
      have HK2' := Lib.hid (KidsIn.later hl3 _ _ HK2.out)
      have HL3 := Lib.hid (Below.trans hbel (Below.mono hl3 hsz))
      clear hw3 hl3
      refine wpU_take 0 (some 17) (v := ?_) rfl rfl (by kernel_rfl) (fun _ _ _ h => h) rfl (fun x hx => ?_) ?_
      rotate_left 1
      · go_simp; first | done | with_reducible rfl | rw [if_neg (by omega)] | rw [if_pos (by omega)]
      simp only [Act.put, List.setIfInBounds_toArray, List.set_cons_zero, List.set_cons_succ]
      refine wpU_take 1 (some 18) (v := ?_) rfl rfl (by kernel_rfl) (fun _ _ _ h => h) rfl (fun x hx => ?_) ?_
      rotate_left 1
      · go_simp; first | done | with_reducible rfl | rw [if_neg (by omega)] | rw [if_pos (by omega)]
      simp only [Act.put, List.setIfInBounds_toArray, List.set_cons_zero, List.set_cons_succ]
      refine wpU_take 2 (some 19) (v := ?_) rfl rfl (by kernel_rfl) (fun _ _ _ h => h) rfl (fun x hx => ?_) ?_
      rotate_left 1
      · go_simp; first | done | with_reducible rfl | rw [if_neg (by omega)] | rw [if_pos (by omega)]
      simp only [Act.put, List.setIfInBounds_toArray, List.set_cons_zero, List.set_cons_succ]
      refine wpU_take 3 (some 20) (v := ?_) rfl rfl (by kernel_rfl) (fun _ _ _ h => h) rfl (fun x hx => ?_) ?_
      rotate_left 1
      · obtain ⟨a0, a1, a2, a3, a4, a5⟩ := HE1'.out.below hx; obtain ⟨d0, d1, d2, d3, d4, d5⟩ := HE2'.out.below hx; go_simp; first | done | with_reducible rfl | rw [if_neg (by omega)] | rw [if_pos (by omega)]
      simp only [Act.put, List.setIfInBounds_toArray, List.set_cons_zero, List.set_cons_succ]
      refine wpU_take 4 (some 21) (v := ?_) rfl rfl (by kernel_rfl) (fun _ _ _ h => h) rfl (fun x hx => ?_) ?_
      rotate_left 1
      · go_simp; first | done | with_reducible rfl | rw [if_neg (by omega)] | rw [if_pos (by omega)]
      simp only [Act.put, List.setIfInBounds_toArray, List.set_cons_zero, List.set_cons_succ]
      refine wpU_take 5 (some 22) (v := ?_) rfl rfl (by kernel_rfl) (fun _ _ _ h => h) rfl (fun x hx => ?_) ?_
      rotate_left 1
      · go_simp; first | done | with_reducible rfl | rw [if_neg (by omega)] | rw [if_pos (by omega)]
      simp only [Act.put, List.setIfInBounds_toArray, List.set_cons_zero, List.set_cons_succ]
      refine wpU_take 6 (some 23) (v := ?_) rfl rfl (by kernel_rfl) (fun _ _ _ h => h) rfl (fun x hx => ?_) ?_
      rotate_left 1
      · go_simp; first | done | with_reducible rfl | rw [if_neg (by omega)] | rw [if_pos (by omega)]
      simp only [Act.put, List.setIfInBounds_toArray, List.set_cons_zero, List.set_cons_succ]
      refine wpU_take 7 (some 24) (v := ?_) rfl rfl (by kernel_rfl) (fun _ _ _ h => h) rfl (fun x hx => ?_) ?_
      rotate_left 1
      · obtain ⟨a0, a1, a2, a3, a4, a5⟩ := HE1'.out.below hx; obtain ⟨d0, d1, d2, d3, d4, d5⟩ := HE2'.out.below hx; go_simp; first | done | with_reducible rfl | rw [if_neg (by omega)] | rw [if_pos (by omega)]
      simp only [Act.put, List.setIfInBounds_toArray, List.set_cons_zero, List.set_cons_succ]
      refine wpU_last [_, _] (by kernel_rfl) rfl rfl ?_
      simp only [List.getElem_toArray, List.getElem_cons_succ, List.getElem_cons_zero]
      go_wp2_with fail
      refine (IH.out j hlt _ _ _ HK1'.out HK2'.out).mono ?_
      rintro e w4 ⟨rfl, hb4⟩
      have hb5 : Below w.heap.size w w4 := HL3.out.trans (Below.mono hb4 HL3.out.size)
      clear hb4
      go_wp2_with fail
      go_roundw
      case rel => exact ⟨j + 1, by omega, by go_num, hb5⟩
      case measure => simp [intOf]; omega
    · go_wp2_with fail
      go_ret
      exact ⟨rfl, hbel⟩

set_option maxRecDepth 100000 in
set_option maxHeartbeats 1000000 in
theorem eq_any (k : Nat) : ∀ (p : Pat) (kv kv' : Value) (w : World), count p ≤ k → k ≤ 2097152 → KidsIn w p kv → KidsIn w p kv' →
    Calls Try.prog 20 #[p.v kv, p.v kv'] w fun e w' => e = .returned (.bool true) ∧ Below w.heap.size w w' := by
  induction k with
  | zero => intro p kv kv' w h; have := count_pos p; omega
  | succ k ih =>
    intro p kv kv' w hcnt hk hin hin'
    obtain ⟨A, c, rfl, _, hrow⟩ := hin.form
    obtain ⟨B, d, rfl, _, hrow'⟩ := hin'.form
    have hlen : p.kids.length ≤ 2097152 := by have h1 := count_eq p; have h2 := countAll_len p.kids; omega
    have IH := Lib.hid ih
    have HR := Lib.hid hrow
    have HQ := Lib.hid hrow'
    have HC := Lib.hid hcnt
    clear ih hin hin' hrow hrow' hcnt
    go_enter Try.func20, Try.ntmps20
    go_wp2_with fail
    have HLA := Lib.hid (((Later.refl w).alloc (Obj.cells #[.int .i64 p.op, .string p.text, .int .i64 p.num, .int .i64 p.lo, .int .i64 p.hi, .slice A p.kids.length c] TP)).alloc (Obj.cells #[.int .i64 p.op, .string p.text, .int .i64 p.num, .int .i64 p.lo, .int .i64 p.hi, .slice B p.kids.length d] TP))
    refine (eqCset_any _ _ _).mono ?_
    rintro e w2 ⟨rfl, hb2⟩
    have hr1 := Later.has hb2 (((Later.refl _).alloc _).has (heap_alloc_new w _))
    have hr2 := Later.has hb2 (heap_alloc_new _ _)
    simp only [World.size_alloc] at hr2
    have HL2 := Lib.hid (HLA.out.trans hb2)
    obtain ⟨r0, r1, r2, r3, r4, r5⟩ := cells_p hr1
    obtain ⟨s0, s1, s2, s3, s4, s5⟩ := cells_p hr2
    clear hb2 hr1 hr2 HLA
    go_wp2_with fail
    refine (eqS_of p.kids A B c d _ hlen (RowIn.later HL2.out _ _ _ HR.out) (RowIn.later HL2.out _ _ _ HQ.out) (fun j hj kv kv' x h h' => IH.out _ kv kv' x (by have := count_kid_lt p j hj; have := HC.out; omega) (by omega) h h')).mono ?_
    rintro e w3 ⟨rfl, hb3⟩
    have HL3 := Lib.hid (HL2.out.trans hb3)
    clear hb3
    go_wp2_with fail
    go_ret
    exact ⟨rfl, HL3.out⟩

end Go.Proofs.Ytndefbecoahfhaa

/- markCaptureS, heldCaptureS, markMatch, heldMatch: what is marked is held. -/
namespace Go.Proofs.Ytndefbecoahfhaa
open Go.RowKit

/-- The row v of n captures bears the marks from k on. -/
def Held (w : World) (v : Value) (n : Nat) (k : Int) : Prop :=
  ∃ A c, v = .slice A n c ∧ (0 < n → ∃ g, A = some ⟨g, 0, none⟩ ∧ g < w.heap.size ∧ ∀ i, i < n → w.cell? ⟨g, i * 3, none⟩ = some (.int .i64 (k + 3 * i)) ∧ w.cell? ⟨g, i * 3 + 1, none⟩ = some (.int .i64 (k + 3 * i + 1)) ∧ w.cell? ⟨g, i * 3 + 2, none⟩ = some (.int .i64 (k + 3 * i + 2)))
theorem Held.same {w x : World} {v : Value} {n : Nat} {k : Int} (h : Held w v n k) (hs : w.heap.size ≤ x.heap.size) (hb : ∀ b, v.ownBlock = some b → x.heap[b]? = w.heap[b]?) : Held x v n k := by
  obtain ⟨A, c, rfl, h⟩ := h
  refine ⟨A, c, rfl, fun hn => ?_⟩
  obtain ⟨g, rfl, hg, h⟩ := h hn
  have hg' := hb g rfl
  have at_ : ∀ o, x.cell? ⟨g, o, none⟩ = w.cell? ⟨g, o, none⟩ := fun o => by simp only [World.cell?, hg']
  refine ⟨g, rfl, by omega, fun i hi => ?_⟩
  rw [at_, at_, at_]
  exact h i hi
theorem Held.later {w x : World} {v : Value} {n : Nat} {k : Int} (h : Held w v n k) (hl : Later w x) : Held x v n k := by
  by_cases hn : 0 < n
  · refine h.same hl.size fun b hb => ?_
    obtain ⟨A, c, rfl, h⟩ := h
    obtain ⟨g, rfl, hg, _⟩ := h hn
    simp [Value.ownBlock] at hb
    subst hb
    exact hl.block g hg
  · obtain ⟨A, c, rfl, _⟩ := h
    exact ⟨A, c, rfl, fun h => absurd h hn⟩

set_option maxRecDepth 100000 in
set_option maxHeartbeats 1000000 in
theorem heldCaptureS_any (v : Value) (n : Nat) (k : Int) (w : World) (h : Held w v n k) (hk : 0 ≤ k) (hk1 : k ≤ 1099511627776) (hn : n ≤ 1000000) :
    Calls Try.prog 47 #[v, .int .i64 k] w fun e w' => e = .returned (.int .i64 (k + 3 * n)) ∧ w = w' := by
  obtain ⟨A, c, rfl, h⟩ := h
  have HH := Lib.hid h
  clear h
  have hn1 : (n : Int) ≤ 1000000 := by omega
  go_enter Try.func47, Try.ntmps47
  go_wp2_with fail
  go_loop [1, 5] (fun kv i => ∃ j : Nat, j ≤ n ∧ i = .int .i64 j ∧ kv = .int .i64 (k + 3 * j)) (fun _ i => n - (intOf i).toNat)
  case atStart => exact ⟨0, Nat.zero_le _, rfl, by simp⟩
  case round =>
    obtain ⟨j, hj, rfl, rfl⟩ := hrel
    have hj1 : (j : Int) ≤ 1000000 := by omega
    by_cases hlt : j < n
    · obtain ⟨g, rfl, _, hc⟩ := HH.out (by omega)
      obtain ⟨c0, c1, c2⟩ := hc j hlt
      have hlt' : (j : Int) < n := by omega
      clear hc
      obtain ⟨z, hz⟩ : ∃ z : Int, k + 3 * j = z := ⟨_, rfl⟩
      have hz0 : 0 ≤ z := by omega
      have hz1 : z ≤ 1099520000000 := by omega
      rw [hz] at c0 c1 c2 ⊢
      have HZ := Lib.hid hz
      clear hz
      have a1 : z + 1 + 1 = z + 2 := by omega
      go_wp2_with fail
      go_round
      case rel => exact ⟨j + 1, by omega, by go_num, by have := HZ.out; congr 1; push_cast; omega⟩
      case measure => simp [intOf]; omega
    · obtain rfl : j = n := by omega
      go_wp2_with fail
      go_ret
      exact ⟨rfl, rfl⟩

/-- The head of markCaptureS' loop. -/
def MarkRel (w : World) (base g n : Nat) (k : Int) (j : Nat) (wr : World) : Prop :=
  ∃ cur, wr.heap[g]? = some (.cells cur TK (0, 0)) ∧ n * 3 ≤ cur.size ∧ OnlyAt g w wr ∧ base ≤ g ∧ wr.heap.size = w.heap.size ∧
    ∀ i, i < j → cur[i * 3]? = some (.int .i64 (k + 3 * i)) ∧ cur[i * 3 + 1]? = some (.int .i64 (k + 3 * i + 1)) ∧ cur[i * 3 + 2]? = some (.int .i64 (k + 3 * i + 2))
theorem markRel_next {w x : World} {base g n : Nat} {k : Int} {j : Nat} (h : MarkRel w base g n k j x) (hj : j < n) :
    MarkRel w base g n k (j + 1) (((x.setCell ⟨g, j * 3, none⟩ (.int .i64 (k + 3 * j))).setCell ⟨g, j * 3 + 1, none⟩ (.int .i64 (k + 3 * j + 1))).setCell ⟨g, j * 3 + 2, none⟩ (.int .i64 (k + 3 * j + 2))) := by
  obtain ⟨cur, hB, hsz, ho, hb, hhs, hall⟩ := h
  have h1 := heap_set_own (o := j * 3) hB (.int .i64 (k + 3 * j))
  have h2 := heap_set_own (o := j * 3 + 1) h1 (.int .i64 (k + 3 * j + 1))
  have h3 := heap_set_own (o := j * 3 + 2) h2 (.int .i64 (k + 3 * j + 2))
  refine ⟨_, h3, by simpa using hsz, ((ho.set _ _).set _ _).set _ _, hb, by simpa using hhs, fun i hi => ?_⟩
  by_cases e : i = j
  · subst e
    refine ⟨?_, ?_, ?_⟩
    · rw [Array.getElem?_setIfInBounds_ne (by omega), Array.getElem?_setIfInBounds_ne (by omega), Array.getElem?_setIfInBounds_self_of_lt (by omega)]
    · rw [Array.getElem?_setIfInBounds_ne (by omega), Array.getElem?_setIfInBounds_self_of_lt (by simp; omega)]
    · rw [Array.getElem?_setIfInBounds_self_of_lt (by simp; omega)]
  · obtain ⟨a, b, c⟩ := hall i (by omega)
    refine ⟨?_, ?_, ?_⟩
    · rw [Array.getElem?_setIfInBounds_ne (by omega), Array.getElem?_setIfInBounds_ne (by omega), Array.getElem?_setIfInBounds_ne (by omega)]; exact a
    · rw [Array.getElem?_setIfInBounds_ne (by omega), Array.getElem?_setIfInBounds_ne (by omega), Array.getElem?_setIfInBounds_ne (by omega)]; exact b
    · rw [Array.getElem?_setIfInBounds_ne (by omega), Array.getElem?_setIfInBounds_ne (by omega), Array.getElem?_setIfInBounds_ne (by omega)]; exact c

set_option maxRecDepth 100000 in
set_option maxHeartbeats 1000000 in
theorem markCaptureS_any (v : Value) (n base : Nat) (xs : List Value) (k : Int) (w : World) (h : HasRow w base TK 3 v n xs) (hk : 0 ≤ k) (hk1 : k ≤ 1099511627776) (hn : n ≤ 1000000) :
    Calls Try.prog 46 #[v, .int .i64 k] w fun e w' => e = .returned (.int .i64 (k + 3 * n)) ∧ Held w' v n k ∧ w'.heap.size = w.heap.size ∧ (∀ b, v.ownBlock ≠ some b → w'.heap[b]? = w.heap[b]?) ∧ Below base w w' := by
  have hn1 : (n : Int) ≤ 1000000 := by omega
  by_cases h0 : n = 0
  · subst h0
    obtain ⟨A, c, rfl, _, _⟩ := h.form
    clear h
    go_enter Try.func46, Try.ntmps46
    go_wp2_with fail
    refine wp_loop_rounds 1 ?_
    rw [rounds_succ]
    go_wp2_with fail
    go_ret
    exact ⟨by simp, ⟨A, c, rfl, fun h => (by omega)⟩, rfl, fun _ _ => rfl, Below.refl _ _⟩
  · rcases h.2 with ⟨_, e⟩ | ⟨g, cap, cur, rfl, hb, hg, hc1, hc2, hc3, _⟩
    · omega
    · have HS : Hid (MarkRel w base g n k 0 w) := Lib.hid ⟨cur, hg, by omega, OnlyAt.refl _ _, hb, rfl, fun i hi => (by omega)⟩
      clear h hg hc3
      go_enter Try.func46, Try.ntmps46
      go_wp2_with fail
      go_loopw [1, 5] (fun kv i wr => ∃ j : Nat, j ≤ n ∧ i = .int .i64 j ∧ kv = .int .i64 (k + 3 * j) ∧ MarkRel w base g n k j wr) (fun _ i _ => n - (intOf i).toNat)
      case atStart => exact ⟨0, Nat.zero_le _, rfl, by simp, HS.out⟩
      case round =>
        obtain ⟨j, hj, rfl, rfl, hrel⟩ := hrel
        have hj1 : (j : Int) ≤ 1000000 := by omega
        have HT := Lib.hid hrel
        obtain ⟨cur', hB, hsz, _, _, _, _⟩ := hrel
        by_cases hlt : j < n
        · have hlt' : (j : Int) < n := by omega
          have HN := Lib.hid (markRel_next HT.out hlt)
          have cell_ : ∀ o, o < 3 → ∃ u, wr.cell? ⟨g, j * 3 + o, none⟩ = some u := fun o ho => by
            rw [cell_of_row _ _ _ _ _ _ hB]
            exact ⟨_, Array.getElem?_eq_getElem (by omega)⟩
          obtain ⟨u0, c0⟩ := cell_ 0 (by omega)
          obtain ⟨u1, c1⟩ := cell_ 1 (by omega)
          obtain ⟨u2, c2⟩ := cell_ 2 (by omega)
          simp only [Nat.add_zero] at c0
          have f0 := frozen_of_row wr g (j * 3) _ _ hB
          have f1 := frozen_of_row wr g (j * 3 + 1) _ _ hB
          have f2 := frozen_of_row wr g (j * 3 + 2) _ _ hB
          clear cell_ hB hsz
          obtain ⟨z, hz⟩ : ∃ z : Int, k + 3 * j = z := ⟨_, rfl⟩
          have hz0 : 0 ≤ z := by omega
          have hz1 : z ≤ 1099520000000 := by omega
          rw [hz] at HN ⊢
          have HZ := Lib.hid hz
          clear hz
          have a1 : z + 1 + 1 = z + 2 := by omega
          go_wp2_with fail
          go_roundw
          case rel => exact ⟨j + 1, by omega, by go_num, by have := HZ.out; congr 1; push_cast; omega, HN.out⟩
          case measure => simp [intOf]; omega
        · obtain rfl : j = n := by omega
          clear hB hsz
          go_wp2_with fail
          go_ret
          obtain ⟨cur2, h1, h2, h3, h4, h5, h6⟩ := HT.out
          refine ⟨rfl, ⟨some ⟨g, 0, none⟩, cap, rfl, fun _ => ⟨g, rfl, has_lt h1, fun i hi => ?_⟩⟩, h5, fun b hb' => h3.2 b (fun e => hb' (by simp [Value.ownBlock, e])), h3.1.mono h4⟩
          obtain ⟨a, b, c⟩ := h6 i hi
          exact ⟨(cell_of_row _ _ _ _ _ _ h1).trans a, (cell_of_row _ _ _ _ _ _ h1).trans b, (cell_of_row _ _ _ _ _ _ h1).trans c⟩

set_option maxRecDepth 100000 in
set_option maxHeartbeats 1000000 in
theorem markMatch_any (r : Res) (fr : Int) (cv ev : Value) (base : Nat) (w : World) (h1 : HasRow w base TK 3 cv r.caps.length (capCells r.caps)) (h2 : HasRow w base TK 3 ev r.events.length (capCells r.events)) (ha : cv.ownBlock = none ∨ cv.ownBlock ≠ ev.ownBlock) (hb : base ≤ w.heap.size) (hn : r.caps.length ≤ 1000000) (hm : r.events.length ≤ 1000000) :
    Calls Try.prog 23 #[matchV r fr cv ev, .int .i64 1] w fun e w' => e = .returned (.int .i64 (1 + 3 * r.caps.length + 3 * r.events.length)) ∧ Held w' cv r.caps.length 1 ∧ Held w' ev r.events.length (1 + 3 * r.caps.length) ∧ (∀ b, b < w.heap.size → cv.ownBlock ≠ some b → ev.ownBlock ≠ some b → w'.heap[b]? = w.heap[b]?) ∧ Below base w w' := by
  obtain ⟨cA, cc, rfl, _, _⟩ := h1.form
  obtain ⟨eA, ec, rfl, _, _⟩ := h2.form
  have H1 := Lib.hid h1
  have H2 := Lib.hid h2
  have HA := Lib.hid ha
  clear h1 h2 ha
  have hn1 : (r.caps.length : Int) ≤ 1000000 := by omega
  go_enter Try.func23, Try.ntmps23
  go_wp2_with fail
  have HLA := Lib.hid ((Later.refl w).alloc (Obj.cells #[.bool r.found, .bool r.stopped, .bool r.exhausted, .int .i64 fr, .int .i64 r.at_, .int .i64 r.steps, .slice cA r.caps.length cc, .slice eA r.events.length ec] TR))
  have HB1 := Lib.hid (heap_alloc_new w (Obj.cells #[.bool r.found, .bool r.stopped, .bool r.exhausted, .int .i64 fr, .int .i64 r.at_, .int .i64 r.steps, .slice cA r.caps.length cc, .slice eA r.events.length ec] TR))
  have HC1 := Lib.hid (H1.out.same fun k hk => HLA.out.block k (H1.out.lt k hk).2.1)
  have HC2 := Lib.hid (H2.out.same fun k hk => HLA.out.block k (H2.out.lt k hk).2.1)
  refine (markCaptureS_any _ r.caps.length base _ 1 _ HC1.out (by omega) (by omega) hn).mono ?_
  rintro e w2 ⟨rfl, hh2, hs2, hk2, hb2⟩
  have hr2 := (hk2 w.heap.size (fun e => by have := (H1.out.lt _ e).2.1; omega)).trans HB1.out
  obtain ⟨r0, r1, r2, r3, r4, r5, r6, r7⟩ := cells_r hr2
  have HC3 := Lib.hid (HC2.out.same fun b hb => hk2 b (fun e => by
    rcases HA.out with h | h
    · rw [h] at e; cases e
    · exact h (e.trans hb.symm)))
  have HH2 := Lib.hid hh2
  have HK2 := Lib.hid hk2
  have HS2 := Lib.hid hs2
  have hB2 : Below base w w2 := ((Below.refl _ _).alloc hb _).trans hb2
  clear hh2 hk2 hs2 hb2 hr2
  obtain ⟨z, hz⟩ : ∃ z : Int, 1 + 3 * (r.caps.length : Int) = z := ⟨_, rfl⟩
  have hz0 : 0 ≤ z := by omega
  have hz1 : z ≤ 10000000 := by omega
  rw [hz]
  have HZ := Lib.hid hz
  clear hz
  go_wp2_with fail
  refine (markCaptureS_any _ r.events.length base _ z _ HC3.out hz0 (by omega) hm).mono ?_
  rintro e w3 ⟨rfl, hh3, hs3, hk3, hb3⟩
  have hB3 : Below base w w3 := hB2.trans hb3
  have HH3 := Lib.hid hh3
  have HH4 := Lib.hid (HH2.out.same (by omega) (fun b hb => hk3 b (fun e => by
    rcases HA.out with h | h
    · rw [h] at hb; cases hb
    · exact h (hb.trans e.symm))))
  have HK3 := Lib.hid hk3
  clear hh3 hk3 hs3 hb3
  go_wp2_with fail
  go_ret
  obtain rfl := HZ.out
  exact ⟨rfl, HH4.out, HH3.out, fun b hlt h1 h2 => ((HK3.out b h2).trans (HK2.out b h1)).trans (HLA.out.block b hlt), hB3⟩

set_option maxRecDepth 100000 in
set_option maxHeartbeats 1000000 in
theorem heldMatch_any (r : Res) (fr : Int) (cv ev : Value) (w : World) (h1 : Held w cv r.caps.length 1) (h2 : Held w ev r.events.length (1 + 3 * r.caps.length)) (hn : r.caps.length ≤ 1000000) (hm : r.events.length ≤ 1000000) :
    Calls Try.prog 24 #[matchV r fr cv ev, .int .i64 1] w fun e w' => e = .returned (.int .i64 (1 + 3 * r.caps.length + 3 * r.events.length)) ∧ Below w.heap.size w w' := by
  obtain ⟨cA, cc, rfl, _⟩ := id h1
  obtain ⟨eA, ec, rfl, _⟩ := id h2
  have H1 := Lib.hid h1
  have H2 := Lib.hid h2
  clear h1 h2
  have hn1 : (r.caps.length : Int) ≤ 1000000 := by omega
  have hm1 : (r.events.length : Int) ≤ 1000000 := by omega
  obtain ⟨z, hz⟩ : ∃ z : Int, 1 + 3 * (r.caps.length : Int) = z := ⟨_, rfl⟩
  have hz0 : 0 ≤ z := by omega
  have hz1 : z ≤ 10000000 := by omega
  have tz : decide (z < 0) = false := by simp; omega
  rw [hz] at H2 ⊢
  have HZ := Lib.hid hz
  clear hz
  go_enter Try.func24, Try.ntmps24
  go_wp2_with fail
  refine (heldCaptureS_any _ r.caps.length 1 _ (H1.out.later ((Later.refl w).alloc _)) (by omega) (by omega) hn).mono ?_
  rw [HZ.out]
  rintro e w2 ⟨rfl, rfl⟩
  go_wp2_with fail
  refine (heldCaptureS_any _ r.events.length z _ (H2.out.later ((Later.refl w).alloc _)) hz0 (by omega) hm).mono ?_
  rintro e w3 ⟨rfl, rfl⟩
  obtain ⟨y, hy⟩ : ∃ y : Int, z + 3 * (r.events.length : Int) = y := ⟨_, rfl⟩
  have ty : decide (y < 0) = false := by simp; omega
  rw [hy]
  have HY := Lib.hid hy
  clear hy
  go_wp2_with fail
  go_ret
  exact ⟨ret_int HY.out.symm, (Below.refl _ _).alloc (Nat.le_refl _) _⟩

end Go.Proofs.Ytndefbecoahfhaa
