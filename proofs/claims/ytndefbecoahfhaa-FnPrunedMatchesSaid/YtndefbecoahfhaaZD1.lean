/- Both searches answer as one plain function. -/
import Derived.Test.YtndefbecoahfhaaZC9
import Derived.BigQuiet

/- What a search is said with; append of a whole row. No walk in sight. -/
namespace Go.Proofs.Ytndefbecoahfhaa
open Go.RowKit

section
variable {P : Program} (w : World)
/-- append(xs, ys...): both rows known. -/
theorem run_append_row (base base2 : Nat) (t ty e : TypeId) (i : TypeInfo) (z : Value) (size bytes : Nat) (ht : P.underlying t = some (.slice e)) (hi : P.info? e = some i) (hz : i.zero = some z)
    (hsize : i.size = size) (hby : i.bytes = bytes) (hzs : z.cells.size = size) {v : Value} {n : Nat} {xs : List Value} (hown : HasRow w base e size v n xs)
    {v2 : Value} {m : Nat} {ys : List Value} (hsrc : HasRow w base2 e size v2 m ys) (h1 : ∀ u ∈ ys, u.oneCell' = true) (hn : n ≤ 10000000) (hm : m ≤ 10000000) (hbytes : bytes ≤ 1000) (hbase : base ≤ w.heap.size) :
    ∃ v' w', (Builtin.append_ #[t, t] ty #[v, v2]).run P w = .ok v' w' ∧ HasRow w' base e size v' (n + m) (xs ++ ys) ∧ w.grownBy w' v.ownBlock ∧ (v'.ownBlock = v.ownBlock ∨ v'.ownBlock = some w.heap.size) := by
  by_cases h0 : m = 0
  · subst h0
    have hy : ys = [] := List.eq_nil_of_length_eq_zero (by simpa using hsrc.1)
    subst hy
    refine ⟨v, w, ?_, by simpa using hown, World.grownBy.refl w _, .inl rfl⟩
    obtain ⟨A, c, rfl, _, _⟩ := hsrc.form
    obtain ⟨B, d, rfl, hd, _⟩ := hown.form
    cases A <;> cases B <;> simp [Builtin.append_, run_underlying ht, sizeOf, typeInfo, hi, Builtin.lenOf, Builtin.firstCells, loadCells, loadCellsFrom, storeCells, hd]
  · obtain ⟨g, c, rfl, _, _, _⟩ := hsrc.block_ (by omega)
    have hcells := hsrc.cells (g := g) rfl
    have hnews : ∀ j u, ys[j]? = some u → w.cell? ((⟨g, 0, none⟩ : Addr).add j) = some u := fun j u hu => by
      have hadd : (⟨g, 0, none⟩ : Addr).add j = ⟨g, j, none⟩ := by unfold Addr.add; split <;> simp_all
      rw [hadd]
      exact hcells j u hu
    exact run_append_has w base t ty e i z size bytes ht hi hz hsize hby hzs v n xs hown ⟨g, 0, none⟩ m c ys hsrc.1 hnews h1 (by omega) (by simp only [maxLen]; omega)
      (by have := Nat.mul_le_mul (show n + m ≤ 20000000 by omega) hbytes; omega) hbase

theorem wpList_append_row {ops : Array Oper} {rest : List Oper} {o : Oper} {a : Act} {Q : Exit → Act → World → Prop} (hgd : o.guard = none) (s x : Operand) (t : TypeId)
    (ho : o.op = .call { callee := .builtin .append, args := #[s, x], argTypes := #[t, t] })
    (base base2 : Nat) (e : TypeId) (i : TypeInfo) (z : Value) (size bytes : Nat) (ht : P.underlying t = some (.slice e)) (hi : P.info? e = some i) (hz : i.zero = some z)
    (hsize : i.size = size) (hby : i.bytes = bytes) (hzs : z.cells.size = size) {v : Value} {n : Nat} {xs : List Value} (hs : a.eval s = v) (hown : HasRow w base e size v n xs)
    {v2 : Value} {m : Nat} {ys : List Value} (hx : a.eval x = v2) (hsrc : HasRow w base2 e size v2 m ys) (h1 : ∀ u ∈ ys, u.oneCell' = true) (hn : n ≤ 10000000) (hm : m ≤ 10000000) (hbytes : bytes ≤ 1000) (hbase : base ≤ w.heap.size)
    (h : ∀ v' w', HasRow w' base e size v' (n + m) (xs ++ ys) → w.grownBy w' v.ownBlock → (v'.ownBlock = v.ownBlock ∨ v'.ownBlock = some w.heap.size) → wpList P ops Q rest (a.put o.dst v') w') : wpList P ops Q (o :: rest) a w := by
  refine wpList_plain hgd fun _ hK => ?_
  obtain ⟨v', w', hr, h2, h3, h4⟩ := run_append_row (P := P) w base base2 t o.type e i z size bytes ht hi hz hsize hby hzs hown hsrc h1 hn hm hbytes hbase
  unfold Oper.wp execOp
  simp only [ho, resolve, invoke, builtin, Sem.run_bind, Sem.run_pure, Result.andThen_ok, List.map_toArray, List.map_cons, List.map_nil, hs, hx, hr]
  exact hK _ _ (h v' w' h2 h3 h4)
end

theorem capCells_one : ∀ (l : List Cap), ∀ u ∈ capCells l, u.oneCell' = true
  | [], u, h => by simp [capCells] at h
  | c :: l, u, h => by
    simp only [capCells, List.mem_append, List.mem_cons, List.not_mem_nil, or_false] at h
    rcases h with (rfl | rfl | rfl) | h
    · rfl
    · rfl
    · rfl
    · exact capCells_one l u h

/-! ### The search as a plain function -/
/-- One try at an offset, joined to what was tried before. -/
def tryAt (defs : List Pat) (p : Pat) (s : ByteArray) (fuel at_ : Nat) (r : Res) : Res × Res :=
  let q := play defs s (fuel - r.steps) 0 [⟨0, p, 0⟩] (.start at_)
  (q, { q with steps := r.steps + q.steps, events := r.events ++ q.events })
def Res.ends (q : Res) : Bool := q.found || q.stopped || q.exhausted
/-- k offsets are left, from at_ on. -/
def srch (defs : List Pat) (p : Pat) (s : ByteArray) (fuel : Nat) (take : Nat → Bool) : Nat → Nat → Res → Int → Res × Int
  | 0, _, r, fr => (r, fr)
  | k + 1, at_, r, fr =>
    if take at_ then
      (if (tryAt defs p s fuel at_ r).1.ends then ((tryAt defs p s fuel at_ r).2, matchFrom (tryAt defs p s fuel at_ r).1 at_)
       else srch defs p s fuel take k (at_ + 1) (tryAt defs p s fuel at_ r).2 (matchFrom (tryAt defs p s fuel at_ r).1 at_))
    else srch defs p s fuel take k (at_ + 1) r fr
/-- What SearchPattern answers. -/
def searches (defs : List Pat) (p : Pat) (s : ByteArray) (fuel : Int) : Bool := validD defs p && decide (s.size ≤ 120) && decide (0 ≤ fuel) && decide (fuel ≤ 4000)
def searchRes (defs : List Pat) (p : Pat) (s : ByteArray) (fuel : Int) : Res × Int := if searches defs p s fuel then srch defs p s fuel.toNat (fun _ => true) (s.size + 1) 0 .none 0 else (.none, 0)

theorem play_steps {defs : List Pat} {s : ByteArray} : ∀ (k n : Nat) (gs : List Goal) (m : Mst), (play defs s k n gs m).steps ≤ n + k
  | k, n, [], m => by rw [play_nil]; exact Nat.le_add_right _ _
  | 0, n, g :: gs, m => by rw [play_zero]; exact Nat.le_refl _
  | k + 1, n, g :: gs, m => by
    cases hst : step defs s g gs m with
    | go gs' m' => rw [play_go hst]; have := play_steps (defs := defs) (s := s) k (n + 1) gs' m'; omega
    | stop => rw [play_stop hst]; show n + 1 ≤ _; omega
    | fail =>
      rcases List.eq_nil_or_concat m.choices with hc | ⟨cs, c, hc⟩
      · rw [play_none hst hc]; show n + 1 ≤ _; omega
      · rw [List.concat_eq_append] at hc
        rw [play_last hst hc]
        by_cases hst' : c.stop = true
        · rw [if_pos hst']; show n + 1 ≤ _; omega
        · rw [if_neg hst']; have := play_steps (defs := defs) (s := s) k (n + 1) c.goals ⟨c.at_, m.caps.take c.ncap, m.events, cs⟩; omega

end Go.Proofs.Ytndefbecoahfhaa

/- impl's searchFrom, with the test that is always true, and SearchPattern. Printed by gen_srch.py. -/
namespace Go.Proofs.Ytndefbecoahfhaa
open Go.RowKit

theorem take_true (z : Int) (w : World) : Calls Try.prog 50 #[.int .i64 z] w fun e w' => e = .returned (.bool true) ∧ w = w' := by
  go_enter Try.func50, Try.ntmps50
  go_wp2_with fail
  go_ret
  exact ⟨rfl, rfl⟩

theorem matchPattern_z (defs : List Pat) (dA : Option Addr) (dc : Nat) (p : Pat) (kv : Value) (s : ByteArray) (fr fuel : Nat) (w : World) (hs : Smalls defs) (hp : Small p) (hd : RowIn w dA 0 defs) (hin : KidsIn w p kv) (hvd : validD defs p = true)
    (hss : s.size ≤ 120) (hfr : fr ≤ s.size) (hfu : fuel ≤ 4000) (z : Int) (hz : z = (fuel : Int)) :
    Calls Try.prog 11 #[.slice dA defs.length dc, p.v kv, .string s, .int .i64 fr, .int .i64 z] w (MatchIs w (play defs s fuel 0 [⟨0, p, 0⟩] (.start fr)) (matchFrom (play defs s fuel 0 [⟨0, p, 0⟩] (.start fr)) fr)) := by
  subst hz
  exact matchPattern_play defs dA dc p kv s fr fuel w hs hp hd hin hvd hss hfr hfu

/-- What holds at the head of searchFrom's loop: PB, RB, OB are the blocks of p's box, the result, 'out'; q is the last match, st and es what was gathered. -/
structure SFrom (w wr : World) (PB RB OB : Nat) (box : Array Value) (q : Res) (fr : Int) (cv xv ev : Value) (es : List Cap) : Prop where
  pb : wr.heap[PB]? = some (.cells box TP (0, 0))
  rb : wr.heap[RB]? = some (.cells zeroM TR (0, 0))
  out : MAt wr OB w.heap.size q fr cv xv
  evs : HasRow wr w.heap.size TK 3 ev es.length (capCells es)
  apart : cv.ownBlock = none ∨ cv.ownBlock ≠ ev.ownBlock
  later : Later w wr

/-- The answer is put into the result's variable. -/
theorem searchIs_mk {w wr x y : World} {PB RB OB : Nat} {box : Array Value} {q : Res} {fr : Int} {cv xv ev : Value} {es : List Cap} {st : Nat} (h : SFrom w wr PB RB OB box q fr cv xv ev es) (hob : w.heap.size ≤ OB) (hrb : w.heap.size ≤ RB) (hne : RB ≠ OB)
    (o1 : OnlyAt OB wr x) (o2 : OnlyAt RB x y) : MatchIs w { q with steps := st, events := es } fr (.returned (matchV { q with steps := st, events := es } fr cv ev)) y := by
  have hRB : x.heap[RB]? = some (.cells zeroM TR (0, 0)) := (o1.2 RB hne).trans h.rb
  exact ⟨cv, ev, rfl, o2.row (o1.row h.out.caps h.out.blk (by decide)) hRB (by decide), o2.row (o1.row h.evs h.out.blk (by decide)) hRB (by decide), h.apart, Later.trans_set (Later.trans_set h.later o1 hob) o2 hrb⟩

/-- A try's match is stored in 'out' and its events are appended. -/
theorem SFrom.next {w wr w2 w3 w4 : World} {PB RB OB : Nat} {box : Array Value} {q q2 : Res} {fr fr2 : Int} {cv xv ev cv2 xv2 ev2 : Value} {es : List Cap} (h : SFrom w wr PB RB OB box q fr cv xv ev es) (hob : w.heap.size ≤ OB)
    (hl : Below wr.heap.size wr w2) (h1 : HasRow w2 wr.heap.size TK 3 cv2 q2.caps.length (capCells q2.caps)) (h2 : HasRow w2 wr.heap.size TK 3 xv2 q2.events.length (capCells q2.events)) (ha : cv2.ownBlock = none ∨ cv2.ownBlock ≠ xv2.ownBlock)
    (ho : OnlyAt OB w2 w3) (hpb : PB ≠ OB) (hrb : RB ≠ OB) (hb3 : w3.heap[OB]? = some (.cells #[.bool q2.found, .bool q2.stopped, .bool q2.exhausted, .int .i64 fr2, .int .i64 q2.at_, .int .i64 q2.steps, cv2, xv2] TR (0, 0)))
    (hrow : HasRow w4 w.heap.size TK 3 ev2 (es.length + q2.events.length) (capCells es ++ capCells q2.events)) (hg : w3.grownBy w4 ev.ownBlock) (hbl : ev2.ownBlock = ev.ownBlock ∨ ev2.ownBlock = some w2.heap.size) :
    SFrom w w4 PB RB OB box q2 fr2 cv2 xv2 ev2 (es ++ q2.events) := by
  have hob2 : w2.heap[OB]? = _ := (hl.block OB (has_lt h.out.blk)).trans h.out.blk
  have hev3 : HasRow w3 w.heap.size TK 3 ev es.length (capCells es) := ho.row (row_keep h.evs (KeepT.later hl)) hob2 (by decide)
  have hty : ∀ k, ev.ownBlock = some k → ∃ cur, w3.heap[k]? = some (.cells cur TK (0, 0)) := fun k hk => (hev3.lt k hk).2.2
  have kP : KeepT TP w3 w4 := KeepT.grown hg hty (by decide)
  have kR : KeepT TR w3 w4 := KeepT.grown hg hty (by decide)
  have old : ∀ k, ev.ownBlock = some k → k < wr.heap.size := fun k hk => (h.evs.lt k hk).2.1
  have c3 := ho.row h1 hob2 (by decide)
  have x3 := ho.row h2 hob2 (by decide)
  have nc : ∀ k, cv2.ownBlock = some k → some k ≠ ev.ownBlock := fun k hk e => by have := (c3.lt k hk).1; have := old k e.symm; omega
  have nx : ∀ k, xv2.ownBlock = some k → some k ≠ ev.ownBlock := fun k hk e => by have := (x3.lt k hk).1; have := old k e.symm; omega
  have hsz := h.later.size
  refine ⟨kP PB _ ((ho.2 PB hpb).trans ((hl.block PB (has_lt h.pb)).trans h.pb)), kR RB _ ((ho.2 RB hrb).trans ((hl.block RB (has_lt h.rb)).trans h.rb)),
    ⟨kR OB _ hb3, (c3.same fun k hk => hg.block k (c3.lt k hk).2.1 (nc k hk)).base_le hsz, (x3.same fun k hk => hg.block k (x3.lt k hk).2.1 (nx k hk)).base_le hsz, ha⟩, ?_, ?_, ?_⟩
  · simpa [capCells_append] using hrow
  · rcases hbl with e | e
    · rw [e]
      cases hc : cv2.ownBlock with
      | none => exact .inl rfl
      | some k => exact .inr (nc k hc)
    · rw [e]
      cases hc : cv2.ownBlock with
      | none => exact .inl rfl
      | some k => exact .inr fun e => by have := (h1.lt k hc).2.1; cases e; omega
  · have h3 : Later w w3 := Later.trans_set (h.later.trans hl) ho hob
    exact Below.grown h3 hg h3.size fun k hk => (hev3.lt k hk).1
end Go.Proofs.Ytndefbecoahfhaa

/- impl's searchFrom with the test that is always true: the walk. Printed by gen_srchb.py. -/
namespace Go.Proofs.Ytndefbecoahfhaa
open Go.RowKit

theorem play_events {defs : List Pat} {s : ByteArray} (hd : DefsOk defs) (hs : s.size ≤ 120) : ∀ (k n : Nat) (gs : List Goal) (m : Mst), Ok defs s n gs m → (play defs s k n gs m).events.length ≤ (play defs s k n gs m).steps
  | k, n, [], m, h => by rw [play_nil]; exact h.nev
  | 0, n, g :: gs, m, h => by rw [play_zero]; exact h.nev
  | k + 1, n, g :: gs, m, h => by
    have hn := h.nev
    cases hst : step defs s g gs m with
    | go gs' m' => rw [play_go hst]; exact play_events hd hs k (n + 1) gs' m' (step_ok hd hs h hst)
    | stop => rw [play_stop hst]; show m.events.length ≤ n + 1; omega
    | fail =>
      rcases List.eq_nil_or_concat m.choices with hc | ⟨cs, c, hc⟩
      · rw [play_none hst hc]; show m.events.length ≤ n + 1; omega
      · rw [List.concat_eq_append] at hc
        rw [play_last hst hc]
        by_cases hst' : c.stop = true
        · rw [if_pos hst']; show m.events.length ≤ n + 1; omega
        · rw [if_neg hst']; exact play_events hd hs k (n + 1) c.goals ⟨c.at_, m.caps.take c.ncap, m.events, cs⟩ (h.pop hc)

theorem row_fresh {w : World} {base B : Nat} {e : TypeId} {size : Nat} (hB : w.heap[B]? = some (.cells #[] e (0, 0))) (hb : base ≤ B) : HasRow w base e size (.slice (some ⟨B, 0, none⟩) 0 0) 0 [] :=
  ⟨by simp, .inr ⟨B, 0, #[], rfl, hb, hB, Nat.le_refl _, Nat.zero_le _, by simp, by simp⟩⟩

theorem stored_blk {w : World} {b : Nat} {a0 a1 a2 a3 a4 a5 a6 a7 : Value} {T : TypeId} (h : w.heap[b]? = some (.cells #[a0, a1, a2, a3, a4, a5, a6, a7] T (0, 0))) (v0 v1 v2 v3 v4 v5 v6 v7 : Value) :
    ((((((((w.setCell ⟨b, 0, none⟩ v0).setCell ⟨b, 1, none⟩ v1).setCell ⟨b, 2, none⟩ v2).setCell ⟨b, 3, none⟩ v3).setCell ⟨b, 4, none⟩ v4).setCell ⟨b, 5, none⟩ v5).setCell ⟨b, 6, none⟩ v6).setCell ⟨b, 7, none⟩ v7).heap[b]? = some (.cells #[v0, v1, v2, v3, v4, v5, v6, v7] T (0, 0)) := by
  have h7 := heap_set_own (o := 7) (heap_set_own (o := 6) (heap_set_own (o := 5) (heap_set_own (o := 4) (heap_set_own (o := 3) (heap_set_own (o := 2) (heap_set_own (o := 1) (heap_set_own (o := 0) h v0) v1) v2) v3) v4) v5) v6) v7
  simpa only [List.setIfInBounds_toArray, List.set_cons_zero, List.set_cons_succ] using h7

theorem srch_step {defs : List Pat} {p : Pat} {s : ByteArray} {fuel : Nat} {take : Nat → Bool} {k st : Nat} {q q2 : Res} {es : List Cap} {fr : Int} (hk : k ≤ s.size) (ht : take k = true) (hq : play defs s (fuel - st) 0 [⟨0, p, 0⟩] (.start k) = q2) :
    srch defs p s fuel take (s.size + 1 - k) k { q with steps := st, events := es } fr = if q2.ends then ({ q2 with steps := st + q2.steps, events := es ++ q2.events }, matchFrom q2 k) else srch defs p s fuel take (s.size + 1 - (k + 1)) (k + 1) { q2 with steps := st + q2.steps, events := es ++ q2.events } (matchFrom q2 k) := by
  rw [show s.size + 1 - k = (s.size - k) + 1 by omega, show s.size + 1 - (k + 1) = s.size - k by omega]
  simp only [srch, tryAt, ht, if_true, hq]

theorem sfrom_start (w : World) (box : Array Value) : SFrom w ((((w.alloc (.cells box TP)).alloc (.cells zeroM TR)).alloc (.cells zeroM TR)).alloc (.cells #[] TK)) w.heap.size (w.heap.size + 1) (w.heap.size + 1 + 1) box .none 0 (.slice none 0 0) (.slice none 0 0) (.slice (some ⟨w.heap.size + 1 + 1 + 1, 0, none⟩) 0 0) [] := by
  have h1 := heap_alloc_new w (.cells box TP)
  have h2 := heap_alloc_new (w.alloc (.cells box TP)) (.cells zeroM TR)
  have h3 := heap_alloc_new ((w.alloc (.cells box TP)).alloc (.cells zeroM TR)) (.cells zeroM TR)
  have h4 := heap_alloc_new (((w.alloc (.cells box TP)).alloc (.cells zeroM TR)).alloc (.cells zeroM TR)) (.cells #[] TK)
  simp only [World.size_alloc] at h2 h3 h4
  exact ⟨((((Later.refl _).alloc _).alloc _).alloc _).has h1, (((Later.refl _).alloc _).alloc _).has h2, ⟨((Later.refl _).alloc _).has h3, HasRow.nil _ _ _ _, HasRow.nil _ _ _ _, .inl rfl⟩, row_fresh h4 (by omega), .inl rfl, ((((Later.refl w).alloc _).alloc _).alloc _).alloc _⟩

/-- The relation at the head of the loop. -/
def LoopF (w : World) (PB RB OB : Nat) (box : Array Value) (defs : List Pat) (p : Pat) (s : ByteArray) (fuel : Nat) (RES : Res × Int) (sv ev av : Value) (wr : World) : Prop :=
  ∃ (k st : Nat) (q : Res) (fr : Int) (cv xv : Value) (es : List Cap), av = .int .i64 k ∧ k ≤ s.size + 1 ∧ sv = .int .i64 st ∧ st ≤ fuel ∧ es.length ≤ st ∧ SFrom w wr PB RB OB box q fr cv xv ev es ∧
    srch defs p s fuel (fun _ => true) (s.size + 1 - k) k { q with steps := st, events := es } fr = RES

set_option maxRecDepth 100000 in
set_option maxHeartbeats 2000000 in
theorem searchFrom_true (defs : List Pat) (dA : Option Addr) (dc : Nat) (p : Pat) (kv : Value) (s : ByteArray) (fuel : Nat) (w : World) (hs : Smalls defs) (hp : Small p) (hd : RowIn w dA 0 defs) (hin : KidsIn w p kv) (hvd : validD defs p = true)
    (hss : s.size ≤ 120) (hfu : fuel ≤ 4000) (RES : Res × Int) (hR : srch defs p s fuel (fun _ => true) (s.size + 1) 0 .none 0 = RES) :
    Calls Try.prog 49 #[.slice dA defs.length dc, p.v kv, .string s, .int .i64 fuel, .func (.func 50) #[] #[]] w (MatchIs w RES.1 RES.2) := by
  obtain ⟨kA, kc, rfl, _, _⟩ := hin.form
  obtain ⟨hdok, hpv⟩ := validD_defs hvd hs
  have hlen := hdok.len
  have HD := Lib.hid hdok
  have HPV := Lib.hid hpv
  have HROW := Lib.hid hd
  have HIN := Lib.hid hin
  have HS := Lib.hid hs
  have HP := Lib.hid hp
  have HVD := Lib.hid hvd
  have HRES := Lib.hid hR
  clear hR hdok hpv hd hin hs hp hvd
  have i1 : (s.size : Int) ≤ 120 := by omega
  have i3 : (fuel : Int) ≤ 4000 := by omega
  go_enter Try.func49, Try.ntmps49
  go_wp2_with fail
  have HST := Lib.hid (sfrom_start w #[.int .i64 p.op, .string p.text, .int .i64 p.num, .int .i64 p.lo, .int .i64 p.hi, .slice kA p.kids.length kc])
  obtain ⟨RB, hRB⟩ : ∃ b, w.heap.size + 1 = b := ⟨_, rfl⟩
  obtain ⟨OB, hOB⟩ : ∃ b, RB + 1 = b := ⟨_, rfl⟩
  obtain ⟨PB, hPB⟩ : ∃ b, w.heap.size = b := ⟨_, rfl⟩
  have hob : w.heap.size ≤ OB := by omega
  have hrb : w.heap.size ≤ RB := by omega
  have hRO : ¬ RB = OB := by omega
  have hOR : ¬ OB = RB := by omega
  have hPO : ¬ PB = OB := by omega
  have HST : Hid (SFrom w _ PB RB OB #[.int .i64 p.op, .string p.text, .int .i64 p.num, .int .i64 p.lo, .int .i64 p.hi, .slice kA p.kids.length kc] .none 0 (.slice none 0 0) (.slice none 0 0) (.slice (some ⟨OB + 1, 0, none⟩) 0 0) []) := Lib.hid (by have h := HST.out; rw [hRB, hOB, hPB] at h; exact h)
  rw [hRB, hOB, hPB]
  clear hRB hOB hPB
  go_loopw [12, 13, 14] (fun sv ev av wr => LoopF w PB RB OB #[.int .i64 p.op, .string p.text, .int .i64 p.num, .int .i64 p.lo, .int .i64 p.hi, .slice kA p.kids.length kc] defs p s fuel RES sv ev av wr) (fun _ _ av _ => s.size + 1 - (intOf av).toNat)
  case atStart => exact ⟨0, 0, .none, 0, _, _, [], rfl, by omega, rfl, by omega, by simp, HST.out, HRES.out⟩
  case round =>
    obtain ⟨k, st, q, fr, cv, xv, es, rfl, hk, rfl, hst, hes, hF, hsr⟩ := hrel
    obtain ⟨eA, ec, rfl, hec, _⟩ := hF.evs.form
    obtain ⟨cA, cc, rfl, _, _⟩ := hF.out.caps.form
    obtain ⟨xA, xc, rfl, _, _⟩ := hF.out.evs.form
    have HF := Lib.hid hF
    have HSR := Lib.hid hsr
    clear hF hsr HST HRES
    have i5 : (st : Int) ≤ fuel := by omega
    by_cases hle : k ≤ s.size
    · have hle' : (k : Int) ≤ s.size := by omega
      obtain ⟨p0, p1, p2, p3, p4, p5⟩ := cells_p HF.out.pb
      go_wp2_with fail
      refine (take_true _ _).mono ?_
      rintro e w1 ⟨rfl, rfl⟩
      go_wp2_with fail
      refine (matchPattern_z defs dA dc p _ s k (fuel - st) _ HS.out HP.out (RowIn.later HF.out.later _ _ _ HROW.out) (KidsIn.later HF.out.later _ _ HIN.out) HVD.out hss hle (by omega) _ (by omega)).mono ?_
      clear p0 p1 p2 p3 p4 p5
      have hev := play_events HD.out hss (fuel - st) 0 [⟨0, p, 0⟩] (.start k) (ok_start HPV.out HP.out hle)
      have hstep := play_steps (defs := defs) (s := s) (fuel - st) 0 [⟨0, p, 0⟩] (.start k)
      obtain ⟨q2, hq2⟩ : ∃ q2, play defs s (fuel - st) 0 [⟨0, p, 0⟩] (.start k) = q2 := ⟨_, rfl⟩
      rw [srch_step hle rfl hq2] at HSR
      rw [hq2] at hev hstep ⊢
      clear hq2
      rintro e w2 ⟨cv2, xv2, rfl, hc2, hx2, ha2, hl2⟩
      obtain ⟨cA2, cc2, rfl, _, _⟩ := hc2.form
      obtain ⟨xA2, xc2, rfl, _, _⟩ := hx2.form
      have HC2 := Lib.hid hc2
      have HX2 := Lib.hid hx2
      have HA2 := Lib.hid ha2
      have HL2 := Lib.hid hl2
      have HOB2 := Lib.hid ((hl2.block OB (has_lt HF.out.out.blk)).trans HF.out.out.blk)
      clear hc2 hx2 ha2 hl2
      have HO3 : Hid (OnlyAt OB w2 ((((((((w2.setCell ⟨OB, 0, none⟩ (.bool q2.found)).setCell ⟨OB, 1, none⟩ (.bool q2.stopped)).setCell ⟨OB, 2, none⟩ (.bool q2.exhausted)).setCell ⟨OB, 3, none⟩ (.int .i64 (matchFrom q2 k))).setCell ⟨OB, 4, none⟩ (.int .i64 q2.at_)).setCell ⟨OB, 5, none⟩ (.int .i64 q2.steps)).setCell ⟨OB, 6, none⟩ (.slice cA2 q2.caps.length cc2)).setCell ⟨OB, 7, none⟩ (.slice xA2 q2.events.length xc2))) := Lib.hid (((((((((OnlyAt.refl _ _).set _ _).set _ _).set _ _).set _ _).set _ _).set _ _).set _ _).set _ _)
      have HB3 := Lib.hid (stored_blk HOB2.out (.bool q2.found) (.bool q2.stopped) (.bool q2.exhausted) (.int .i64 (matchFrom q2 k)) (.int .i64 q2.at_) (.int .i64 q2.steps) (.slice cA2 q2.caps.length cc2) (.slice xA2 q2.events.length xc2))
      have HE3 := Lib.hid (HO3.out.row (row_keep HF.out.evs (KeepT.later HL2.out)) HOB2.out (by decide))
      have HX3 := Lib.hid (HO3.out.row HX2.out HOB2.out (by decide))
      obtain ⟨r0, r1, r2, r3, r4, r5, r6, r7⟩ := cells_r HOB2.out
      obtain ⟨f0, f1, f2, f3, f4, f5, f6, f7⟩ := frozen_r HOB2.out
      have i6 : (st : Int) + q2.steps ≤ 4000 := by omega
      obtain ⟨i, hi, hz0, hz1, hz2⟩ := info_parts infoK
      go_wp2_with (at_builtin; refine wpList_append_row _ rfl _ _ _ rfl w.heap.size wr.heap.size TK i _ 3 24 Try.underlying31 hi hz0 hz1 hz2 rfl rfl HE3.out rfl HX3.out (capCells_one _) ?a3 ?a4 (by omega) ?a5 ?_; fail_if_success done)
      case a3 => omega
      case a4 => omega
      case a5 => have := HL2.out.size; have := HF.out.later.size; simp; omega
      intro v' w4 hrow hgrow hbl
      have HF4 := Lib.hid (HF.out.next (fr2 := matchFrom q2 k) hob HL2.out HC2.out HX2.out HA2.out HO3.out hPO hRO HB3.out hrow hgrow hbl)
      obtain ⟨vA, vc, rfl, _, _⟩ := hrow.form
      clear hrow hgrow hbl r0 r1 r2 r3 r4 r5 r6 r7 f0 f1 f2 f3 f4 f5 f6 f7 hi hz0 hz1 hz2
      cases hf : q2.found with
      | true =>
        rw [if_pos (by simp [Res.ends, hf])] at HSR
        obtain ⟨r0, r1, r2, r3, r4, r5, r6, r7⟩ := cells_r HF4.out.out.blk
        obtain ⟨f0, f1, f2, f3, f4, f5, f6, f7⟩ := frozen_r HF4.out.out.blk
        obtain ⟨z0, z1, z2, z3, z4, z5, z6, z7⟩ := cells_r HF4.out.rb
        obtain ⟨g0, g1, g2, g3, g4, g5, g6, g7⟩ := frozen_r HF4.out.rb
        rw [hf] at r0
        go_wp2_with fail
        refine bodyPost_ret (v := matchV { q2 with steps := st + q2.steps, events := es ++ q2.events } (matchFrom q2 k) (.slice cA2 q2.caps.length cc2) (.slice vA (es.length + q2.events.length) vc)) (by simp [results, Try.results49, go_sem, r0, r1, r2, r3, r4, r5, r6, r7, z0, z1, z2, z3, z4, z5, z6, z7, hRO, hOR, hf]) rfl ?_
        obtain rfl := HSR.out
        exact searchIs_mk HF4.out hob hrb hRO (((OnlyAt.refl _ _).set _ _).set _ _) (((((((((OnlyAt.refl _ _).set _ _).set _ _).set _ _).set _ _).set _ _).set _ _).set _ _).set _ _)
      | false =>
        cases hp : q2.stopped with
        | true =>
          rw [if_pos (by simp [Res.ends, hf, hp])] at HSR
          obtain ⟨r0, r1, r2, r3, r4, r5, r6, r7⟩ := cells_r HF4.out.out.blk
          obtain ⟨f0, f1, f2, f3, f4, f5, f6, f7⟩ := frozen_r HF4.out.out.blk
          obtain ⟨z0, z1, z2, z3, z4, z5, z6, z7⟩ := cells_r HF4.out.rb
          obtain ⟨g0, g1, g2, g3, g4, g5, g6, g7⟩ := frozen_r HF4.out.rb
          rw [hf] at r0
          rw [hp] at r1
          go_wp2_with fail
          refine bodyPost_ret (v := matchV { q2 with steps := st + q2.steps, events := es ++ q2.events } (matchFrom q2 k) (.slice cA2 q2.caps.length cc2) (.slice vA (es.length + q2.events.length) vc)) (by simp [results, Try.results49, go_sem, r0, r1, r2, r3, r4, r5, r6, r7, z0, z1, z2, z3, z4, z5, z6, z7, hRO, hOR, hf, hp]) rfl ?_
          obtain rfl := HSR.out
          exact searchIs_mk HF4.out hob hrb hRO (((OnlyAt.refl _ _).set _ _).set _ _) (((((((((OnlyAt.refl _ _).set _ _).set _ _).set _ _).set _ _).set _ _).set _ _).set _ _).set _ _)
        | false =>
          cases hx : q2.exhausted with
          | true =>
            rw [if_pos (by simp [Res.ends, hf, hp, hx])] at HSR
            obtain ⟨r0, r1, r2, r3, r4, r5, r6, r7⟩ := cells_r HF4.out.out.blk
            obtain ⟨f0, f1, f2, f3, f4, f5, f6, f7⟩ := frozen_r HF4.out.out.blk
            obtain ⟨z0, z1, z2, z3, z4, z5, z6, z7⟩ := cells_r HF4.out.rb
            obtain ⟨g0, g1, g2, g3, g4, g5, g6, g7⟩ := frozen_r HF4.out.rb
            rw [hf] at r0
            rw [hp] at r1
            rw [hx] at r2
            go_wp2_with fail
            refine bodyPost_ret (v := matchV { q2 with steps := st + q2.steps, events := es ++ q2.events } (matchFrom q2 k) (.slice cA2 q2.caps.length cc2) (.slice vA (es.length + q2.events.length) vc)) (by simp [results, Try.results49, go_sem, r0, r1, r2, r3, r4, r5, r6, r7, z0, z1, z2, z3, z4, z5, z6, z7, hRO, hOR, hf, hp, hx]) rfl ?_
            obtain rfl := HSR.out
            exact searchIs_mk HF4.out hob hrb hRO (((OnlyAt.refl _ _).set _ _).set _ _) (((((((((OnlyAt.refl _ _).set _ _).set _ _).set _ _).set _ _).set _ _).set _ _).set _ _).set _ _)
          | false =>
            rw [if_neg (by simp [Res.ends, hf, hp, hx])] at HSR
            obtain ⟨r0, r1, r2, r3, r4, r5, r6, r7⟩ := cells_r HF4.out.out.blk
            rw [hf] at r0
            rw [hp] at r1
            rw [hx] at r2
            go_wp2_with fail
            go_roundw
            case rel => exact ⟨k + 1, st + q2.steps, q2, matchFrom q2 k, _, _, es ++ q2.events, by go_num, by omega, by go_num, by omega, by simp; omega, HF4.out, HSR.out⟩
            case measure => simp [intOf]; omega
    · skip
      have hgt : (s.size : Int) < k := by omega
      rw [show s.size + 1 - k = 0 by omega] at HSR
      simp only [srch] at HSR
      obtain ⟨r0, r1, r2, r3, r4, r5, r6, r7⟩ := cells_r HF.out.out.blk
      obtain ⟨f0, f1, f2, f3, f4, f5, f6, f7⟩ := frozen_r HF.out.out.blk
      obtain ⟨z0, z1, z2, z3, z4, z5, z6, z7⟩ := cells_r HF.out.rb
      obtain ⟨g0, g1, g2, g3, g4, g5, g6, g7⟩ := frozen_r HF.out.rb
      go_wp2_with fail
      refine bodyPost_ret (v := matchV { q with steps := st, events := es } (fr) (.slice cA q.caps.length cc) (.slice eA es.length ec)) (by simp [results, Try.results49, go_sem, r0, r1, r2, r3, r4, r5, r6, r7, z0, z1, z2, z3, z4, z5, z6, z7, hRO, hOR]) rfl ?_
      obtain rfl := HSR.out
      exact searchIs_mk HF.out hob hrb hRO (((OnlyAt.refl _ _).set _ _).set _ _) (((((((((OnlyAt.refl _ _).set _ _).set _ _).set _ _).set _ _).set _ _).set _ _).set _ _).set _ _)

end Go.Proofs.Ytndefbecoahfhaa

/- SearchPattern of impl at every argument. Printed by gen_srchi.py. -/
namespace Go.Proofs.Ytndefbecoahfhaa
open Go.RowKit

set_option maxRecDepth 100000 in
set_option maxHeartbeats 4000000 in
theorem implSearch_no (defs : List Pat) (dA : Option Addr) (dc : Nat) (p : Pat) (kv : Value) (s : ByteArray) (fuel : Int) (w : World) (hs : Smalls defs) (hp : Small p) (hd : RowIn w dA 0 defs) (hin : KidsIn w p kv) (hdl : defs.length ≤ 1099511627776) (hsl : s.size ≤ 1099511627776) (hno : searches defs p s fuel = false) :
    Calls Try.prog 26 #[.slice dA defs.length dc, p.v kv, .string s, .int .i64 fuel] w (MatchIs w .none 0) := by
  obtain ⟨kA, kc, rfl, _, _⟩ := hin.form
  have HS := Lib.hid hs
  have HP := Lib.hid hp
  have HD := Lib.hid hd
  have HIN := Lib.hid hin
  clear hs hp hd hin
  by_cases hv : validD defs p = true
  · by_cases c1 : s.size ≤ 120
    · have c1 : ¬ ((120 : Int) < s.size) := by omega
      by_cases c2 : fuel < 0
      · skip
        have HV := Lib.hid hv
        clear hv hno
        have t1 : decide ((120 : Int) < s.size) = false := by simpa using c1
        have t2 : decide (fuel < 0) = true := by simpa using c2
        go_enter Try.func26, Try.ntmps26
        go_wp2_with fail
        have HLA := Lib.hid (((Later.refl w).alloc (Obj.cells #[.int .i64 p.op, .string p.text, .int .i64 p.num, .int .i64 p.lo, .int .i64 p.hi, .slice kA p.kids.length kc] TP)).alloc (Obj.cells zeroM TR))
        refine (validDefinitions_is true defs dA dc p _ _ HS.out HP.out (RowIn.later HLA.out _ _ _ HD.out) (KidsIn.later HLA.out _ _ HIN.out) hdl HV.out).mono ?_
        rintro e w2 ⟨rfl, hb2⟩
        have HR2 := Lib.hid (Later.has hb2 (heap_alloc_new _ _))
        simp only [World.size_alloc] at HR2
        have HL2 := Lib.hid (HLA.out.trans hb2)
        clear hb2 HLA
        obtain ⟨r0, r1, r2, r3, r4, r5, r6, r7⟩ := cells_r HR2.out
        obtain ⟨f0, f1, f2, f3, f4, f5, f6, f7⟩ := frozen_r HR2.out
        go_wp2_with fail
        refine bodyPost_ret (v := matchV .none 0 (.slice none 0 0) (.slice none 0 0)) (by simp [results, Try.results26, go_sem, r0, r1, r2, r3, r4, r5, r6, r7, Res.none]) rfl ?_
        exact ⟨_, _, rfl, HasRow.nil _ _ _ _, HasRow.nil _ _ _ _, .inl rfl, Below.trans HL2.out ((((((((((OnlyAt.refl _ _).set _ _).set _ _).set _ _).set _ _).set _ _).set _ _).set _ _).set _ _).1.mono (by omega))⟩
      · by_cases c3 : (4000 : Int) < fuel
        · skip
          have HV := Lib.hid hv
          clear hv hno
          have t1 : decide ((120 : Int) < s.size) = false := by simpa using c1
          have t2 : decide (fuel < 0) = false := by simpa using c2
          have t3 : decide ((4000 : Int) < fuel) = true := by simpa using c3
          go_enter Try.func26, Try.ntmps26
          go_wp2_with fail
          have HLA := Lib.hid (((Later.refl w).alloc (Obj.cells #[.int .i64 p.op, .string p.text, .int .i64 p.num, .int .i64 p.lo, .int .i64 p.hi, .slice kA p.kids.length kc] TP)).alloc (Obj.cells zeroM TR))
          refine (validDefinitions_is true defs dA dc p _ _ HS.out HP.out (RowIn.later HLA.out _ _ _ HD.out) (KidsIn.later HLA.out _ _ HIN.out) hdl HV.out).mono ?_
          rintro e w2 ⟨rfl, hb2⟩
          have HR2 := Lib.hid (Later.has hb2 (heap_alloc_new _ _))
          simp only [World.size_alloc] at HR2
          have HL2 := Lib.hid (HLA.out.trans hb2)
          clear hb2 HLA
          obtain ⟨r0, r1, r2, r3, r4, r5, r6, r7⟩ := cells_r HR2.out
          obtain ⟨f0, f1, f2, f3, f4, f5, f6, f7⟩ := frozen_r HR2.out
          go_wp2_with fail
          refine bodyPost_ret (v := matchV .none 0 (.slice none 0 0) (.slice none 0 0)) (by simp [results, Try.results26, go_sem, r0, r1, r2, r3, r4, r5, r6, r7, Res.none]) rfl ?_
          exact ⟨_, _, rfl, HasRow.nil _ _ _ _, HasRow.nil _ _ _ _, .inl rfl, Below.trans HL2.out ((((((((((OnlyAt.refl _ _).set _ _).set _ _).set _ _).set _ _).set _ _).set _ _).set _ _).set _ _).1.mono (by omega))⟩
        · exfalso
          simp [searches, hv] at hno
          omega
    · have c1 : (120 : Int) < s.size := by omega
      have HV := Lib.hid hv
      clear hv hno
      have t1 : decide ((120 : Int) < s.size) = true := by simpa using c1
      go_enter Try.func26, Try.ntmps26
      go_wp2_with fail
      have HLA := Lib.hid (((Later.refl w).alloc (Obj.cells #[.int .i64 p.op, .string p.text, .int .i64 p.num, .int .i64 p.lo, .int .i64 p.hi, .slice kA p.kids.length kc] TP)).alloc (Obj.cells zeroM TR))
      refine (validDefinitions_is true defs dA dc p _ _ HS.out HP.out (RowIn.later HLA.out _ _ _ HD.out) (KidsIn.later HLA.out _ _ HIN.out) hdl HV.out).mono ?_
      rintro e w2 ⟨rfl, hb2⟩
      have HR2 := Lib.hid (Later.has hb2 (heap_alloc_new _ _))
      simp only [World.size_alloc] at HR2
      have HL2 := Lib.hid (HLA.out.trans hb2)
      clear hb2 HLA
      obtain ⟨r0, r1, r2, r3, r4, r5, r6, r7⟩ := cells_r HR2.out
      obtain ⟨f0, f1, f2, f3, f4, f5, f6, f7⟩ := frozen_r HR2.out
      go_wp2_with fail
      refine bodyPost_ret (v := matchV .none 0 (.slice none 0 0) (.slice none 0 0)) (by simp [results, Try.results26, go_sem, r0, r1, r2, r3, r4, r5, r6, r7, Res.none]) rfl ?_
      exact ⟨_, _, rfl, HasRow.nil _ _ _ _, HasRow.nil _ _ _ _, .inl rfl, Below.trans HL2.out ((((((((((OnlyAt.refl _ _).set _ _).set _ _).set _ _).set _ _).set _ _).set _ _).set _ _).set _ _).1.mono (by omega))⟩
  · have hv : validD defs p = false := by simpa using hv
    have HV := Lib.hid hv
    clear hv hno
    go_enter Try.func26, Try.ntmps26
    go_wp2_with fail
    have HLA := Lib.hid (((Later.refl w).alloc (Obj.cells #[.int .i64 p.op, .string p.text, .int .i64 p.num, .int .i64 p.lo, .int .i64 p.hi, .slice kA p.kids.length kc] TP)).alloc (Obj.cells zeroM TR))
    refine (validDefinitions_is false defs dA dc p _ _ HS.out HP.out (RowIn.later HLA.out _ _ _ HD.out) (KidsIn.later HLA.out _ _ HIN.out) hdl HV.out).mono ?_
    rintro e w2 ⟨rfl, hb2⟩
    have HR2 := Lib.hid (Later.has hb2 (heap_alloc_new _ _))
    simp only [World.size_alloc] at HR2
    have HL2 := Lib.hid (HLA.out.trans hb2)
    clear hb2 HLA
    obtain ⟨r0, r1, r2, r3, r4, r5, r6, r7⟩ := cells_r HR2.out
    obtain ⟨f0, f1, f2, f3, f4, f5, f6, f7⟩ := frozen_r HR2.out
    go_wp2_with fail
    refine bodyPost_ret (v := matchV .none 0 (.slice none 0 0) (.slice none 0 0)) (by simp [results, Try.results26, go_sem, r0, r1, r2, r3, r4, r5, r6, r7, Res.none]) rfl ?_
    exact ⟨_, _, rfl, HasRow.nil _ _ _ _, HasRow.nil _ _ _ _, .inl rfl, Below.trans HL2.out ((((((((((OnlyAt.refl _ _).set _ _).set _ _).set _ _).set _ _).set _ _).set _ _).set _ _).set _ _).1.mono (by omega))⟩

set_option maxRecDepth 100000 in
set_option maxHeartbeats 4000000 in
theorem implSearch_play (defs : List Pat) (dA : Option Addr) (dc : Nat) (p : Pat) (kv : Value) (s : ByteArray) (fuel : Nat) (w : World) (hs : Smalls defs) (hp : Small p) (hd : RowIn w dA 0 defs) (hin : KidsIn w p kv) (hvd : validD defs p = true)
    (hss : s.size ≤ 120) (hfu : fuel ≤ 4000) (R : Res) (FR : Int) (hR : srch defs p s fuel (fun _ => true) (s.size + 1) 0 .none 0 = (R, FR)) :
    Calls Try.prog 26 #[.slice dA defs.length dc, p.v kv, .string s, .int .i64 fuel] w (MatchIs w R FR) := by
  obtain ⟨kA, kc, rfl, _, _⟩ := hin.form
  have hlen : defs.length ≤ 24 := (validD_defs hvd hs).1.len
  have HS := Lib.hid hs
  have HP := Lib.hid hp
  have HD := Lib.hid hd
  have HIN := Lib.hid hin
  clear hs hp hd hin
  have HV := Lib.hid hvd
  have HRES := Lib.hid hR
  clear hR
  have t1 : decide ((120 : Int) < s.size) = false := by simp; omega
  have t2 : decide ((fuel : Int) < 0) = false := by simp
  have t3 : decide ((4000 : Int) < fuel) = false := by simp; omega
  have HU : Hid ((decide (0 ≤ (fuel : Int)) && decide ((fuel : Int) ≤ (4000 : Int))) = true) := Lib.hid (by simp; omega)
  clear hvd
  go_enter Try.func26, Try.ntmps26
  go_wp2_with fail
  have HLA := Lib.hid (((Later.refl w).alloc (Obj.cells #[.int .i64 p.op, .string p.text, .int .i64 p.num, .int .i64 p.lo, .int .i64 p.hi, .slice kA p.kids.length kc] TP)).alloc (Obj.cells zeroM TR))
  refine (validDefinitions_is true defs dA dc p _ _ HS.out HP.out (RowIn.later HLA.out _ _ _ HD.out) (KidsIn.later HLA.out _ _ HIN.out) (by omega) HV.out).mono ?_
  rintro e w2 ⟨rfl, hb2⟩
  have HR2 := Lib.hid (Later.has hb2 (heap_alloc_new _ _))
  have HP2 := Lib.hid (Later.has hb2 (((Later.refl _).alloc _).has (heap_alloc_new w _)))
  simp only [World.size_alloc] at HR2
  have HL2 := Lib.hid (HLA.out.trans hb2)
  clear hb2 HLA
  obtain ⟨p0, p1, p2, p3, p4, p5⟩ := cells_p HP2.out
  go_wp2_with fail
  refine (searchFrom_true defs dA dc p _ s fuel _ HS.out HP.out (RowIn.later HL2.out _ _ _ HD.out) (KidsIn.later HL2.out _ _ HIN.out) HV.out hss hfu _ HRES.out).mono ?_
  rintro e w4 ⟨cv, ev, rfl, h1, h2, h3, h4⟩
  dsimp only at h1 h2
  obtain ⟨cA, cc, rfl, _, _⟩ := h1.form
  obtain ⟨eA, ec, rfl, _, _⟩ := h2.form
  have H1 := Lib.hid h1
  have H2 := Lib.hid h2
  have H3 := Lib.hid h3
  have H4 := Lib.hid h4
  have HR4 := Lib.hid (Later.has h4 HR2.out)
  clear h1 h2 h3 h4 p0 p1 p2 p3 p4 p5
  obtain ⟨r0, r1, r2, r3, r4, r5, r6, r7⟩ := cells_r HR4.out
  obtain ⟨f0, f1, f2, f3, f4, f5, f6, f7⟩ := frozen_r HR4.out
  go_wp2_with fail
  refine bodyPost_ret (v := matchV R FR (.slice cA R.caps.length cc) (.slice eA R.events.length ec)) (by simp [results, Try.results26, go_sem, r0, r1, r2, r3, r4, r5, r6, r7]) rfl ?_
  exact matchIs_mk HL2.out H1.out H2.out H3.out H4.out HR4.out (by omega) (((((((((OnlyAt.refl _ _).set _ _).set _ _).set _ _).set _ _).set _ _).set _ _).set _ _).set _ _)

theorem implSearch_any (defs : List Pat) (dA : Option Addr) (dc : Nat) (p : Pat) (kv : Value) (s : ByteArray) (fuel : Int) (w : World) (hs : Smalls defs) (hp : Small p) (hd : RowIn w dA 0 defs) (hin : KidsIn w p kv) (hdl : defs.length ≤ 1099511627776) (hsl : s.size ≤ 1099511627776) : Calls Try.prog 26 #[.slice dA defs.length dc, p.v kv, .string s, .int .i64 fuel] w (MatchIs w (searchRes defs p s fuel).1 (searchRes defs p s fuel).2) := by
  cases ha : searches defs p s fuel with
  | false =>
    rw [show searchRes defs p s fuel = (.none, 0) by simp [searchRes, ha]]
    exact implSearch_no defs dA dc p kv s fuel w hs hp hd hin hdl hsl ha
  | true =>
    have hb := ha
    simp only [searches, Bool.and_eq_true, decide_eq_true_eq] at hb
    obtain ⟨⟨⟨h1, h2⟩, h3⟩, h4⟩ := hb
    have := implSearch_play defs dA dc p kv s fuel.toNat w hs hp hd hin h1 h2 (by omega) _ _ rfl
    rw [Int.toNat_of_nonneg h3] at this
    rw [show searchRes defs p s fuel = srch defs p s fuel.toNat (fun _ => true) (s.size + 1) 0 .none 0 by simp [searchRes, ha]]
    exact this

end Go.Proofs.Ytndefbecoahfhaa

/- spec's l20Search where every offset is tried. Printed by gen_srchs.py. -/
namespace Go.Proofs.Ytndefbecoahfhaa
open Go.RowKit

theorem l20Match_z (defs : List Pat) (dA : Option Addr) (dc : Nat) (p : Pat) (kv : Value) (s : ByteArray) (fr fuel : Nat) (w : World) (hs : Smalls defs) (hp : Small p) (hd : RowIn w dA 0 defs) (hin : KidsIn w p kv) (hvd : validD defs p = true)
    (hss : s.size ≤ 120) (hfr : fr ≤ s.size) (hfu : fuel ≤ 4000) (z : Int) (hz : z = (fuel : Int)) :
    Calls Try.prog 41 #[.slice dA defs.length dc, p.v kv, .string s, .int .i64 fr, .int .i64 z] w (MatchIs w (play defs s fuel 0 [⟨0, p, 0⟩] (.start fr)) (matchFrom (play defs s fuel 0 [⟨0, p, 0⟩] (.start fr)) fr)) := by
  subst hz
  exact l20Match_play defs dA dc p kv s fr fuel w hs hp hd hin hvd hss hfr hfu

/-- What holds at the head of l20Search's loop: PB, SB, RB, OB are the blocks of p's box, the set's box, the result, 'out'. -/
structure SLoop (w wr : World) (PB RB OB : Nat) (box : Array Value) (r : Res) (fr : Int) (cv ev : Value) : Prop where
  pb : wr.heap[PB]? = some (.cells box TP (0, 0))
  rb : wr.heap[RB]? = some (.cells zeroM TR (0, 0))
  out : MAt wr OB w.heap.size r fr cv ev
  later : Later w wr
theorem SLoop.later' {w wr x : World} {PB RB OB : Nat} {box : Array Value} {r : Res} {fr : Int} {cv ev : Value} (h : SLoop w wr PB RB OB box r fr cv ev) (hl : Later wr x) : SLoop w x PB RB OB box r fr cv ev :=
  ⟨hl.has h.pb, hl.has h.rb, h.out.later hl, h.later.trans hl⟩
theorem sloop_start (w : World) (box sbox : Array Value) (T : TypeId) : SLoop w ((((w.alloc (.cells box TP)).alloc (.cells sbox T)).alloc (.cells zeroM TR)).alloc (.cells zeroM TR)) w.heap.size (w.heap.size + 1 + 1) (w.heap.size + 1 + 1 + 1) box .none 0 (.slice none 0 0) (.slice none 0 0) := by
  have h1 := heap_alloc_new w (.cells box TP)
  have h3 := heap_alloc_new ((w.alloc (.cells box TP)).alloc (.cells sbox T)) (.cells zeroM TR)
  have h4 := heap_alloc_new (((w.alloc (.cells box TP)).alloc (.cells sbox T)).alloc (.cells zeroM TR)) (.cells zeroM TR)
  simp only [World.size_alloc] at h3 h4
  exact ⟨((((Later.refl _).alloc _).alloc _).alloc _).has h1, ((Later.refl _).alloc _).has h3, ⟨h4, HasRow.nil _ _ _ _, HasRow.nil _ _ _ _, .inl rfl⟩, ((((Later.refl w).alloc _).alloc _).alloc _).alloc _⟩
section
variable {w w6 x y z : World} {PB RB OB NB b1 b2 : Nat} {box cs : Array Value} {r r2 : Res} {fr fr2 : Int} {cv ev cv2 ev2 : Value}
/-- The new match is copied into 'out'. -/
theorem SLoop.put (h : SLoop w w6 PB RB OB box r fr cv ev) (hN : w6.heap[NB]? = some (.cells cs TR (0, 0))) (hc : HasRow w6 b1 TK 3 cv2 r2.caps.length (capCells r2.caps)) (he : HasRow w6 b2 TK 3 ev2 r2.events.length (capCells r2.events)) (hb1 : w.heap.size ≤ b1) (hb2 : w.heap.size ≤ b2)
    (ha : cv2.ownBlock = none ∨ cv2.ownBlock ≠ ev2.ownBlock) (hob : w.heap.size ≤ OB) (hnb : w.heap.size ≤ NB) (hPN : PB ≠ NB) (hRN : RB ≠ NB) (hON : OB ≠ NB) (hPO : PB ≠ OB) (hRO : RB ≠ OB) (o1 : OnlyAt NB w6 x) (o2 : OnlyAt OB x y)
    (hblk : y.heap[OB]? = some (.cells #[.bool r2.found, .bool r2.stopped, .bool r2.exhausted, .int .i64 fr2, .int .i64 r2.at_, .int .i64 r2.steps, cv2, ev2] TR (0, 0))) : SLoop w y PB RB OB box r2 fr2 cv2 ev2 := by
  have hO := (o1.2 OB hON).trans h.out.blk
  exact ⟨(o2.2 PB hPO).trans ((o1.2 PB hPN).trans h.pb), (o2.2 RB hRO).trans ((o1.2 RB hRN).trans h.rb),
    ⟨hblk, (o2.row (o1.row hc hN (by decide)) hO (by decide)).base_le hb1, (o2.row (o1.row he hN (by decide)) hO (by decide)).base_le hb2, ha⟩, Later.trans_set (Later.trans_set h.later o1 hnb) o2 hob⟩
/-- The match of 'out' is the answer. -/
theorem SLoop.ret (h : SLoop w y PB RB OB box r2 fr2 cv2 ev2) (hrb : w.heap.size ≤ RB) (o : OnlyAt RB y z) : MatchIs w r2 fr2 (.returned (matchV r2 fr2 cv2 ev2)) z :=
  ⟨cv2, ev2, rfl, o.row h.out.caps h.rb (by decide), o.row h.out.evs h.rb (by decide), h.out.apart, Later.trans_set h.later o hrb⟩
end
/-- The relation at the head of the loop. -/
def LoopL (w : World) (PB RB OB : Nat) (box : Array Value) (defs : List Pat) (p : Pat) (s : ByteArray) (fuel : Nat) (RES : Res × Int) (av : Value) (wr : World) : Prop :=
  ∃ (k : Nat) (r : Res) (fr : Int) (cv ev : Value), av = .int .i64 k ∧ k ≤ s.size + 1 ∧ r.steps ≤ fuel ∧ r.events.length ≤ r.steps ∧ SLoop w wr PB RB OB box r fr cv ev ∧
    srch defs p s fuel (fun _ => true) (s.size + 1 - k) k r fr = RES

set_option maxRecDepth 100000 in
set_option maxHeartbeats 2000000 in
theorem l20Search_true (defs : List Pat) (dA : Option Addr) (dc : Nat) (p : Pat) (kv : Value) (s : ByteArray) (fuel : Nat) (w : World) (hs : Smalls defs) (hp : Small p) (hd : RowIn w dA 0 defs) (hin : KidsIn w p kv) (hvd : validD defs p = true)
    (hss : s.size ≤ 120) (hfu : fuel ≤ 4000) (RES : Res × Int) (hR : srch defs p s fuel (fun _ => true) (s.size + 1) 0 .none 0 = RES) :
    Calls Try.prog 48 #[.slice dA defs.length dc, p.v kv, .string s, .int .i64 fuel, .int .i64 0, .agg #[.int .i64 0, .int .i64 0], .bool true] w (MatchIs w RES.1 RES.2) := by
  obtain ⟨kA, kc, rfl, _, _⟩ := hin.form
  obtain ⟨hdok, hpv⟩ := validD_defs hvd hs
  have hlen := hdok.len
  have HD := Lib.hid hdok
  have HPV := Lib.hid hpv
  have HROW := Lib.hid hd
  have HIN := Lib.hid hin
  have HS := Lib.hid hs
  have HP := Lib.hid hp
  have HVD := Lib.hid hvd
  have HRES := Lib.hid hR
  clear hR hdok hpv hd hin hs hp hvd
  have i1 : (s.size : Int) ≤ 120 := by omega
  have i3 : (fuel : Int) ≤ 4000 := by omega
  go_enter Try.func48, Try.ntmps48
  go_wp2_with fail
  have HST := Lib.hid (sloop_start w #[.int .i64 p.op, .string p.text, .int .i64 p.num, .int .i64 p.lo, .int .i64 p.hi, .slice kA p.kids.length kc] #[.int .i64 0, .int .i64 0] 26)
  obtain ⟨RB, hRB⟩ : ∃ b, w.heap.size + 1 + 1 = b := ⟨_, rfl⟩
  obtain ⟨OB, hOB⟩ : ∃ b, RB + 1 = b := ⟨_, rfl⟩
  obtain ⟨SB, hSB⟩ : ∃ b, w.heap.size + 1 = b := ⟨_, rfl⟩
  obtain ⟨PB, hPB⟩ : ∃ b, w.heap.size = b := ⟨_, rfl⟩
  have hob : w.heap.size ≤ OB := by omega
  have hrb : w.heap.size ≤ RB := by omega
  have hRO : ¬ RB = OB := by omega
  have hOR : ¬ OB = RB := by omega
  have hPO : ¬ PB = OB := by omega
  have HST : Hid (SLoop w _ PB RB OB #[.int .i64 p.op, .string p.text, .int .i64 p.num, .int .i64 p.lo, .int .i64 p.hi, .slice kA p.kids.length kc] .none 0 (.slice none 0 0) (.slice none 0 0)) := Lib.hid (by have h := HST.out; rw [hRB, hOB, hPB] at h; exact h)
  rw [hRB, hOB, hSB, hPB]
  clear hRB hOB hSB hPB
  go_loopw [16] (fun av wr => LoopL w PB RB OB #[.int .i64 p.op, .string p.text, .int .i64 p.num, .int .i64 p.lo, .int .i64 p.hi, .slice kA p.kids.length kc] defs p s fuel RES av wr) (fun av _ => s.size + 1 - (intOf av).toNat)
  case atStart => exact ⟨0, .none, 0, _, _, rfl, by omega, by simp [Res.none], by simp [Res.none], HST.out, HRES.out⟩
  case round =>
    obtain ⟨k, r, fr, cv, ev, rfl, hk, hst, hes, hF, hsr⟩ := hrel
    obtain ⟨eA, ec, rfl, hec, _⟩ := hF.out.evs.form
    obtain ⟨cA, cc, rfl, _, _⟩ := hF.out.caps.form
    have HF := Lib.hid hF
    have HSR := Lib.hid hsr
    clear hF hsr HST HRES
    have i5 : (r.steps : Int) ≤ fuel := by omega
    by_cases hle : k ≤ s.size
    · have hle' : (k : Int) ≤ s.size := by omega
      go_wp2_with fail
      go_quiet (skip)
      have HQ := Lib.hid (HF.out.later' (below_drewN' (Below.refl wr.heap.size wr) nq))
      obtain ⟨wq, hwq⟩ : ∃ wq, wr.drewN nq = wq := ⟨_, rfl⟩
      rw [hwq] at HQ ⊢
      clear hwq
      obtain ⟨p0, p1, p2, p3, p4, p5⟩ := cells_p HQ.out.pb
      obtain ⟨r0, r1, r2, r3, r4, r5, r6, r7⟩ := cells_r HQ.out.out.blk
      go_wp2_with fail
      refine (l20Match_z defs dA dc p _ s k (fuel - r.steps) _ HS.out HP.out (RowIn.later HQ.out.later _ _ _ HROW.out) (KidsIn.later HQ.out.later _ _ HIN.out) HVD.out hss hle (by omega) _ (by omega)).mono ?_
      clear p0 p1 p2 p3 p4 p5 r0 r1 r2 r3 r4 r5 r6 r7
      have hev := play_events HD.out hss (fuel - r.steps) 0 [⟨0, p, 0⟩] (.start k) (ok_start HPV.out HP.out hle)
      have hstep := play_steps (defs := defs) (s := s) (fuel - r.steps) 0 [⟨0, p, 0⟩] (.start k)
      obtain ⟨q2, hq2⟩ : ∃ q2, play defs s (fuel - r.steps) 0 [⟨0, p, 0⟩] (.start k) = q2 := ⟨_, rfl⟩
      have HSR := Lib.hid ((srch_step (q := r) (st := r.steps) (es := r.events) hle rfl hq2).symm.trans HSR.out)
      rw [hq2] at hev hstep ⊢
      clear hq2
      rintro e w2 ⟨cv2, xv2, rfl, hc2, hx2, ha2, hl2⟩
      obtain ⟨cA2, cc2, rfl, _, _⟩ := hc2.form
      obtain ⟨xA2, xc2, rfl, _, _⟩ := hx2.form
      have HC2 := Lib.hid hc2
      have HX2 := Lib.hid hx2
      have HA2 := Lib.hid ha2
      have H2 := Lib.hid (HQ.out.later' hl2)
      clear hc2 hx2 ha2 hl2
      have i6 : (q2.steps : Int) + r.steps ≤ 4000 := by omega
      obtain ⟨r0, r1, r2, r3, r4, r5, r6, r7⟩ := cells_r H2.out.out.blk
      have hlt := has_lt H2.out.out.blk
      go_wp2_with fail
      clear r0 r1 r2 r3 r4 r5 r6 r7 hlt
      -- region 8: 9 operations, the last [6, 7, 8]
      refine wpU_begin [6, 7, 8] [] (by kernel_rfl) (fun w3 hw3 => ?_)
      obtain ⟨hl3, hN3⟩ := drew_alloc hw3
      have H3 := Lib.hid (H2.out.later' hl3)
      have HN3 := Lib.hid hN3
      have HX3 := Lib.hid (row_keep HX2.out (KeepT.later hl3))
      have HC3 := Lib.hid (row_keep HC2.out (KeepT.later hl3))
      clear hw3 hl3 hN3
      refine wpU_take 1 (some 59) (v := ?_) rfl rfl (by kernel_rfl) (fun _ _ _ h => h) rfl (fun x hx => ?_) ?_
      rotate_left 1
      · go_simp; first | done | with_reducible rfl | rw [if_neg (by omega)] | rw [if_pos (by omega)]
      simp only [Act.put, List.setIfInBounds_toArray, List.set_cons_zero, List.set_cons_succ]
      refine wpU_take 2 (some 60) (v := ?_) rfl rfl (by kernel_rfl) (fun _ _ _ h => h) rfl (fun x hx => ?_) ?_
      rotate_left 1
      · obtain ⟨r0, r1, r2, r3, r4, r5, r6, r7⟩ := cells_r (hx.has H3.out.out.blk); obtain ⟨n0, n1, n2, n3, n4, n5, n6, n7⟩ := cells_r (hx.has HN3.out); go_simp; first | done | with_reducible rfl | rw [if_neg (by omega)] | rw [if_pos (by omega)]
      simp only [Act.put, List.setIfInBounds_toArray, List.set_cons_zero, List.set_cons_succ]
      refine wpU_take 4 (some 62) (v := ?_) rfl rfl (by kernel_rfl) (fun _ _ _ h => h) rfl (fun x hx => ?_) ?_
      rotate_left 1
      · go_simp; first | done | with_reducible rfl | rw [if_neg (by omega)] | rw [if_pos (by omega)]
      simp only [Act.put, List.setIfInBounds_toArray, List.set_cons_zero, List.set_cons_succ]
      refine wpU_take 5 (some 63) (v := ?_) rfl rfl (by kernel_rfl) (fun _ _ _ h => h) rfl (fun x hx => ?_) ?_
      rotate_left 1
      · obtain ⟨r0, r1, r2, r3, r4, r5, r6, r7⟩ := cells_r (hx.has H3.out.out.blk); obtain ⟨n0, n1, n2, n3, n4, n5, n6, n7⟩ := cells_r (hx.has HN3.out); go_simp; first | done | with_reducible rfl | rw [if_neg (by omega)] | rw [if_pos (by omega)]
      simp only [Act.put, List.setIfInBounds_toArray, List.set_cons_zero, List.set_cons_succ]
      refine wpU_step 0 (by kernel_rfl) rfl rfl ?_  -- buildSlice 
      go_wp2_with fail
      refine ⟨(Later.refl _).alloc _, ?_⟩
      refine wpU_step 3 (by kernel_rfl) rfl rfl ?_  -- call builtin Go.Builtin.append
      obtain ⟨i, hi, hz0, hz1, hz2⟩ := info_parts infoK
      refine wpList_append_fresh _ rfl _ _ _ rfl w3.heap.size w.heap.size TK i _ 3 24 Try.underlying31 hi hz0 hz1 hz2 rfl rfl (heap_alloc_new w3 _) (Nat.le_refl _) rfl ((H3.out.later' ((Later.refl w3).alloc _)).out.evs) (by omega) (by omega) ?_
      intro v' w5 hrow hl5 hown
      obtain ⟨vA, vc, rfl, _, _⟩ := hrow.form
      have HL5 := Lib.hid (((Later.refl w3).alloc _).trans hl5)
      have H5 := Lib.hid (H3.out.later' HL5.out)
      have HN5 := Lib.hid (HL5.out.has HN3.out)
      have HX5 := Lib.hid (row_keep HX3.out (KeepT.later HL5.out))
      have HC5 := Lib.hid (row_keep HC3.out (KeepT.later HL5.out))
      have HROW5 := Lib.hid hrow
      refine wpList_nil ⟨hl5, ?_⟩
      clear hrow hl5 hown hi hz0 hz1 hz2
      refine wpU_last [_, _, _] (by kernel_rfl) rfl rfl ?_
      simp only [List.getElem_toArray, List.getElem_cons_succ, List.getElem_cons_zero]
      obtain ⟨i, hi, hz0, hz1, hz2⟩ := info_parts infoK
      go_wp2_with (at_builtin; refine wpList_append_row _ rfl _ _ _ rfl w3.heap.size wq.heap.size TK i _ 3 24 Try.underlying31 hi hz0 hz1 hz2 rfl rfl HROW5.out rfl HX5.out (capCells_one _) ?a3 ?a4 (by omega) ?a5 ?_; fail_if_success done)
      case a3 => omega
      case a4 => omega
      case a5 => exact HL5.out.size
      intro v6 w6 hrow hgrow _
      have HL6 := Lib.hid (Below.grown HL5.out hgrow HL5.out.size (fun k hk => (HROW5.out.lt k hk).1))
      have H6 := Lib.hid (H3.out.later' HL6.out)
      have HN6 := Lib.hid (Later.has HL6.out HN3.out)
      have HC6 := Lib.hid (row_keep HC3.out (KeepT.later HL6.out))
      have HROW6 := Lib.hid hrow
      obtain ⟨vB, vd, rfl, _, _⟩ := hrow.form
      clear hrow hgrow hi hz0 hz1 hz2
      have hNO : ¬ w2.heap.size = OB := by have := has_lt H2.out.out.blk; omega
      have hON : ¬ OB = w2.heap.size := fun e => hNO e.symm
      have hNR : ¬ w2.heap.size = RB := by have := has_lt H2.out.rb; omega
      have hRN : ¬ RB = w2.heap.size := fun e => hNR e.symm
      obtain ⟨n0, n1, n2, n3, n4, n5, n6, n7⟩ := cells_r HN6.out
      obtain ⟨m0, m1, m2, m3, m4, m5, m6, m7⟩ := frozen_r HN6.out
      obtain ⟨r0, r1, r2, r3, r4, r5, r6, r7⟩ := cells_r H6.out.out.blk
      obtain ⟨f0, f1, f2, f3, f4, f5, f6, f7⟩ := frozen_r H6.out.out.blk
      obtain ⟨z0, z1, z2, z3, z4, z5, z6, z7⟩ := cells_r H6.out.rb
      obtain ⟨g0, g1, g2, g3, g4, g5, g6, g7⟩ := frozen_r H6.out.rb
      have HSZ1 := Lib.hid HQ.out.later.size
      have HSZ3 := Lib.hid H3.out.later.size
      have hsz2 := H2.out.later.size
      have hPN : ¬ PB = w2.heap.size := by have := has_lt H2.out.pb; omega
      have HAP : Hid ((Value.slice cA2 q2.caps.length cc2).ownBlock = none ∨ (Value.slice cA2 q2.caps.length cc2).ownBlock ≠ (Value.slice vB (r.events.length + q2.events.length) vd).ownBlock) := Lib.hid (by
        cases hc : (Value.slice cA2 q2.caps.length cc2).ownBlock with
        | none => exact .inl rfl
        | some a => exact .inr fun e => by have := (HC3.out.lt a hc).2.1; have := (HROW6.out.lt a e.symm).1; omega)
      cases hf : q2.found with
      | true =>
        rw [hf] at n0
        rw [if_pos (by simp [Res.ends, hf])] at HSR
        have HY : Hid (SLoop w (((((((((w6.setCell ⟨w2.heap.size, 7, none⟩ (.slice vB (r.events.length + q2.events.length) vd)).setCell ⟨OB, 0, none⟩ (.bool true)).setCell ⟨OB, 1, none⟩ (.bool q2.stopped)).setCell ⟨OB, 2, none⟩ (.bool q2.exhausted)).setCell ⟨OB, 3, none⟩ (.int .i64 (matchFrom q2 k))).setCell ⟨OB, 4, none⟩ (.int .i64 q2.at_)).setCell ⟨OB, 5, none⟩ (.int .i64 ((q2.steps : Int) + r.steps))).setCell ⟨OB, 6, none⟩ (.slice cA2 q2.caps.length cc2)).setCell ⟨OB, 7, none⟩ (.slice vB (r.events.length + q2.events.length) vd)) PB RB OB #[.int .i64 p.op, .string p.text, .int .i64 p.num, .int .i64 p.lo, .int .i64 p.hi, .slice kA p.kids.length kc] { q2 with steps := r.steps + q2.steps, events := r.events ++ q2.events } (matchFrom q2 k) (.slice cA2 q2.caps.length cc2) (.slice vB (r.events.length + q2.events.length) vd)) := Lib.hid (SLoop.put (NB := w2.heap.size) (r2 := { q2 with steps := r.steps + q2.steps, events := r.events ++ q2.events }) H6.out HN6.out HC6.out (by simpa [capCells_append] using HROW6.out) HSZ1.out HSZ3.out HAP.out hob hsz2 hPN hRN hON hPO hRO ((OnlyAt.refl _ _).set _ _) (((((((((OnlyAt.refl _ _).set _ _).set _ _).set _ _).set _ _).set _ _).set _ _).set _ _).set _ _) (by
          have hb := stored_blk (((((OnlyAt.refl _ _).set _ _) : OnlyAt w2.heap.size w6 (w6.setCell ⟨w2.heap.size, 7, none⟩ (.slice vB (r.events.length + q2.events.length) vd))).2 OB hON).trans H6.out.out.blk) (.bool true) (.bool q2.stopped) (.bool q2.exhausted) (.int .i64 (matchFrom q2 k)) (.int .i64 q2.at_) (.int .i64 ((q2.steps : Int) + r.steps)) (.slice cA2 q2.caps.length cc2) (.slice vB (r.events.length + q2.events.length) vd)
          simpa [hf, Int.add_comm] using hb))
        go_wp2_with fail
        refine bodyPost_ret (v := matchV { q2 with steps := r.steps + q2.steps, events := r.events ++ q2.events } (matchFrom q2 k) (.slice cA2 q2.caps.length cc2) (.slice vB (r.events.length + q2.events.length) vd)) (by simp [results, Try.results48, go_sem, r0, r1, r2, r3, r4, r5, r6, r7, z0, z1, z2, z3, z4, z5, z6, z7, hRO, hOR, hNR, hRN, hf, Int.add_comm]) rfl ?_
        obtain rfl := HSR.out
        exact HY.out.ret hrb (((((((((OnlyAt.refl _ _).set _ _).set _ _).set _ _).set _ _).set _ _).set _ _).set _ _).set _ _)
      | false =>
        cases hp : q2.stopped with
        | true =>
          rw [hf] at n0
          rw [hp] at n1
          rw [if_pos (by simp [Res.ends, hf, hp])] at HSR
          have HY : Hid (SLoop w (((((((((w6.setCell ⟨w2.heap.size, 7, none⟩ (.slice vB (r.events.length + q2.events.length) vd)).setCell ⟨OB, 0, none⟩ (.bool false)).setCell ⟨OB, 1, none⟩ (.bool true)).setCell ⟨OB, 2, none⟩ (.bool q2.exhausted)).setCell ⟨OB, 3, none⟩ (.int .i64 (matchFrom q2 k))).setCell ⟨OB, 4, none⟩ (.int .i64 q2.at_)).setCell ⟨OB, 5, none⟩ (.int .i64 ((q2.steps : Int) + r.steps))).setCell ⟨OB, 6, none⟩ (.slice cA2 q2.caps.length cc2)).setCell ⟨OB, 7, none⟩ (.slice vB (r.events.length + q2.events.length) vd)) PB RB OB #[.int .i64 p.op, .string p.text, .int .i64 p.num, .int .i64 p.lo, .int .i64 p.hi, .slice kA p.kids.length kc] { q2 with steps := r.steps + q2.steps, events := r.events ++ q2.events } (matchFrom q2 k) (.slice cA2 q2.caps.length cc2) (.slice vB (r.events.length + q2.events.length) vd)) := Lib.hid (SLoop.put (NB := w2.heap.size) (r2 := { q2 with steps := r.steps + q2.steps, events := r.events ++ q2.events }) H6.out HN6.out HC6.out (by simpa [capCells_append] using HROW6.out) HSZ1.out HSZ3.out HAP.out hob hsz2 hPN hRN hON hPO hRO ((OnlyAt.refl _ _).set _ _) (((((((((OnlyAt.refl _ _).set _ _).set _ _).set _ _).set _ _).set _ _).set _ _).set _ _).set _ _) (by
            have hb := stored_blk (((((OnlyAt.refl _ _).set _ _) : OnlyAt w2.heap.size w6 (w6.setCell ⟨w2.heap.size, 7, none⟩ (.slice vB (r.events.length + q2.events.length) vd))).2 OB hON).trans H6.out.out.blk) (.bool false) (.bool true) (.bool q2.exhausted) (.int .i64 (matchFrom q2 k)) (.int .i64 q2.at_) (.int .i64 ((q2.steps : Int) + r.steps)) (.slice cA2 q2.caps.length cc2) (.slice vB (r.events.length + q2.events.length) vd)
            simpa [hf, hp, Int.add_comm] using hb))
          go_wp2_with fail
          refine bodyPost_ret (v := matchV { q2 with steps := r.steps + q2.steps, events := r.events ++ q2.events } (matchFrom q2 k) (.slice cA2 q2.caps.length cc2) (.slice vB (r.events.length + q2.events.length) vd)) (by simp [results, Try.results48, go_sem, r0, r1, r2, r3, r4, r5, r6, r7, z0, z1, z2, z3, z4, z5, z6, z7, hRO, hOR, hNR, hRN, hf, hp, Int.add_comm]) rfl ?_
          obtain rfl := HSR.out
          exact HY.out.ret hrb (((((((((OnlyAt.refl _ _).set _ _).set _ _).set _ _).set _ _).set _ _).set _ _).set _ _).set _ _)
        | false =>
          cases hx : q2.exhausted with
          | true =>
            rw [hf] at n0
            rw [hp] at n1
            rw [hx] at n2
            rw [if_pos (by simp [Res.ends, hf, hp, hx])] at HSR
            have HY : Hid (SLoop w (((((((((w6.setCell ⟨w2.heap.size, 7, none⟩ (.slice vB (r.events.length + q2.events.length) vd)).setCell ⟨OB, 0, none⟩ (.bool false)).setCell ⟨OB, 1, none⟩ (.bool false)).setCell ⟨OB, 2, none⟩ (.bool true)).setCell ⟨OB, 3, none⟩ (.int .i64 (matchFrom q2 k))).setCell ⟨OB, 4, none⟩ (.int .i64 q2.at_)).setCell ⟨OB, 5, none⟩ (.int .i64 ((q2.steps : Int) + r.steps))).setCell ⟨OB, 6, none⟩ (.slice cA2 q2.caps.length cc2)).setCell ⟨OB, 7, none⟩ (.slice vB (r.events.length + q2.events.length) vd)) PB RB OB #[.int .i64 p.op, .string p.text, .int .i64 p.num, .int .i64 p.lo, .int .i64 p.hi, .slice kA p.kids.length kc] { q2 with steps := r.steps + q2.steps, events := r.events ++ q2.events } (matchFrom q2 k) (.slice cA2 q2.caps.length cc2) (.slice vB (r.events.length + q2.events.length) vd)) := Lib.hid (SLoop.put (NB := w2.heap.size) (r2 := { q2 with steps := r.steps + q2.steps, events := r.events ++ q2.events }) H6.out HN6.out HC6.out (by simpa [capCells_append] using HROW6.out) HSZ1.out HSZ3.out HAP.out hob hsz2 hPN hRN hON hPO hRO ((OnlyAt.refl _ _).set _ _) (((((((((OnlyAt.refl _ _).set _ _).set _ _).set _ _).set _ _).set _ _).set _ _).set _ _).set _ _) (by
              have hb := stored_blk (((((OnlyAt.refl _ _).set _ _) : OnlyAt w2.heap.size w6 (w6.setCell ⟨w2.heap.size, 7, none⟩ (.slice vB (r.events.length + q2.events.length) vd))).2 OB hON).trans H6.out.out.blk) (.bool false) (.bool false) (.bool true) (.int .i64 (matchFrom q2 k)) (.int .i64 q2.at_) (.int .i64 ((q2.steps : Int) + r.steps)) (.slice cA2 q2.caps.length cc2) (.slice vB (r.events.length + q2.events.length) vd)
              simpa [hf, hp, hx, Int.add_comm] using hb))
            go_wp2_with fail
            refine bodyPost_ret (v := matchV { q2 with steps := r.steps + q2.steps, events := r.events ++ q2.events } (matchFrom q2 k) (.slice cA2 q2.caps.length cc2) (.slice vB (r.events.length + q2.events.length) vd)) (by simp [results, Try.results48, go_sem, r0, r1, r2, r3, r4, r5, r6, r7, z0, z1, z2, z3, z4, z5, z6, z7, hRO, hOR, hNR, hRN, hf, hp, hx, Int.add_comm]) rfl ?_
            obtain rfl := HSR.out
            exact HY.out.ret hrb (((((((((OnlyAt.refl _ _).set _ _).set _ _).set _ _).set _ _).set _ _).set _ _).set _ _).set _ _)
          | false =>
            rw [hf] at n0
            rw [hp] at n1
            rw [hx] at n2
            rw [if_neg (by simp [Res.ends, hf, hp, hx])] at HSR
            have HY : Hid (SLoop w (((((((((w6.setCell ⟨w2.heap.size, 7, none⟩ (.slice vB (r.events.length + q2.events.length) vd)).setCell ⟨OB, 0, none⟩ (.bool false)).setCell ⟨OB, 1, none⟩ (.bool false)).setCell ⟨OB, 2, none⟩ (.bool false)).setCell ⟨OB, 3, none⟩ (.int .i64 (matchFrom q2 k))).setCell ⟨OB, 4, none⟩ (.int .i64 q2.at_)).setCell ⟨OB, 5, none⟩ (.int .i64 ((q2.steps : Int) + r.steps))).setCell ⟨OB, 6, none⟩ (.slice cA2 q2.caps.length cc2)).setCell ⟨OB, 7, none⟩ (.slice vB (r.events.length + q2.events.length) vd)) PB RB OB #[.int .i64 p.op, .string p.text, .int .i64 p.num, .int .i64 p.lo, .int .i64 p.hi, .slice kA p.kids.length kc] { q2 with steps := r.steps + q2.steps, events := r.events ++ q2.events } (matchFrom q2 k) (.slice cA2 q2.caps.length cc2) (.slice vB (r.events.length + q2.events.length) vd)) := Lib.hid (SLoop.put (NB := w2.heap.size) (r2 := { q2 with steps := r.steps + q2.steps, events := r.events ++ q2.events }) H6.out HN6.out HC6.out (by simpa [capCells_append] using HROW6.out) HSZ1.out HSZ3.out HAP.out hob hsz2 hPN hRN hON hPO hRO ((OnlyAt.refl _ _).set _ _) (((((((((OnlyAt.refl _ _).set _ _).set _ _).set _ _).set _ _).set _ _).set _ _).set _ _).set _ _) (by
              have hb := stored_blk (((((OnlyAt.refl _ _).set _ _) : OnlyAt w2.heap.size w6 (w6.setCell ⟨w2.heap.size, 7, none⟩ (.slice vB (r.events.length + q2.events.length) vd))).2 OB hON).trans H6.out.out.blk) (.bool false) (.bool false) (.bool false) (.int .i64 (matchFrom q2 k)) (.int .i64 q2.at_) (.int .i64 ((q2.steps : Int) + r.steps)) (.slice cA2 q2.caps.length cc2) (.slice vB (r.events.length + q2.events.length) vd)
              simpa [hf, hp, hx, Int.add_comm] using hb))
            go_wp2_with fail
            go_roundw
            case rel => exact ⟨k + 1, { q2 with steps := r.steps + q2.steps, events := r.events ++ q2.events }, matchFrom q2 k, _, _, by go_num, by omega, by simp; omega, by simp; omega, HY.out, HSR.out⟩
            case measure => simp [intOf]; omega
    · skip
      have hgt : (s.size : Int) < k := by omega
      rw [show s.size + 1 - k = 0 by omega] at HSR
      simp only [srch] at HSR
      obtain ⟨r0, r1, r2, r3, r4, r5, r6, r7⟩ := cells_r HF.out.out.blk
      obtain ⟨f0, f1, f2, f3, f4, f5, f6, f7⟩ := frozen_r HF.out.out.blk
      obtain ⟨z0, z1, z2, z3, z4, z5, z6, z7⟩ := cells_r HF.out.rb
      obtain ⟨g0, g1, g2, g3, g4, g5, g6, g7⟩ := frozen_r HF.out.rb
      go_wp2_with fail
      refine bodyPost_ret (v := matchV r fr (.slice cA r.caps.length cc) (.slice eA r.events.length ec)) (by simp [results, Try.results48, go_sem, r0, r1, r2, r3, r4, r5, r6, r7, z0, z1, z2, z3, z4, z5, z6, z7, hRO, hOR]) rfl ?_
      obtain rfl := HSR.out
      exact HF.out.ret hrb (((((((((OnlyAt.refl _ _).set _ _).set _ _).set _ _).set _ _).set _ _).set _ _).set _ _).set _ _)

end Go.Proofs.Ytndefbecoahfhaa

/- SearchPattern of spec at every argument. Printed by gen_srchi.py. -/
namespace Go.Proofs.Ytndefbecoahfhaa
open Go.RowKit

set_option maxRecDepth 100000 in
set_option maxHeartbeats 4000000 in
theorem specSearch_no (defs : List Pat) (dA : Option Addr) (dc : Nat) (p : Pat) (kv : Value) (s : ByteArray) (fuel : Int) (w : World) (hs : Smalls defs) (hp : Small p) (hd : RowIn w dA 0 defs) (hin : KidsIn w p kv) (hdl : defs.length ≤ 1099511627776) (hsl : s.size ≤ 1099511627776) (hno : searches defs p s fuel = false) :
    Calls Try.prog 25 #[.slice dA defs.length dc, p.v kv, .string s, .int .i64 fuel] w (MatchIs w .none 0) := by
  obtain ⟨kA, kc, rfl, _, _⟩ := hin.form
  have HS := Lib.hid hs
  have HP := Lib.hid hp
  have HD := Lib.hid hd
  have HIN := Lib.hid hin
  clear hs hp hd hin
  by_cases hv : validD defs p = true
  · by_cases c1 : s.size ≤ 120
    · have c1 : ¬ ((120 : Int) < s.size) := by omega
      cases hu : (decide (0 ≤ fuel) && decide (fuel ≤ (4000 : Int))) with
      | false =>
        have HU := Lib.hid hu
        clear hu
        have HV := Lib.hid hv
        clear hv hno
        have t1 : decide ((120 : Int) < s.size) = false := by simpa using c1
        go_enter Try.func25, Try.ntmps25
        go_wp2_with fail
        have HLA := Lib.hid (((Later.refl w).alloc (Obj.cells #[.int .i64 p.op, .string p.text, .int .i64 p.num, .int .i64 p.lo, .int .i64 p.hi, .slice kA p.kids.length kc] TP)).alloc (Obj.cells zeroM TR))
        refine (l18Defs_is true defs dA dc p _ _ HS.out HP.out (RowIn.later HLA.out _ _ _ HD.out) (KidsIn.later HLA.out _ _ HIN.out) hdl HV.out).mono ?_
        rintro e w2 ⟨rfl, hb2⟩
        have HR2 := Lib.hid (Later.has hb2 (heap_alloc_new _ _))
        simp only [World.size_alloc] at HR2
        have HL2 := Lib.hid (HLA.out.trans hb2)
        clear hb2 HLA
        go_wp2_with fail
        refine (l1In_is false _ _ _ _ HU.out).mono ?_
        rintro e w3 ⟨rfl, rfl⟩
        obtain ⟨r0, r1, r2, r3, r4, r5, r6, r7⟩ := cells_r HR2.out
        obtain ⟨f0, f1, f2, f3, f4, f5, f6, f7⟩ := frozen_r HR2.out
        go_wp2_with fail
        refine bodyPost_ret (v := matchV .none 0 (.slice none 0 0) (.slice none 0 0)) (by simp [results, Try.results25, go_sem, r0, r1, r2, r3, r4, r5, r6, r7, Res.none]) rfl ?_
        exact ⟨_, _, rfl, HasRow.nil _ _ _ _, HasRow.nil _ _ _ _, .inl rfl, Below.trans HL2.out ((((((((((OnlyAt.refl _ _).set _ _).set _ _).set _ _).set _ _).set _ _).set _ _).set _ _).set _ _).1.mono (by omega))⟩
      | true =>
        exfalso
        simp only [Bool.and_eq_true, decide_eq_true_eq] at hu
        simp [searches, hv] at hno
        omega
    · have c1 : (120 : Int) < s.size := by omega
      have HV := Lib.hid hv
      clear hv hno
      have t1 : decide ((120 : Int) < s.size) = true := by simpa using c1
      go_enter Try.func25, Try.ntmps25
      go_wp2_with fail
      have HLA := Lib.hid (((Later.refl w).alloc (Obj.cells #[.int .i64 p.op, .string p.text, .int .i64 p.num, .int .i64 p.lo, .int .i64 p.hi, .slice kA p.kids.length kc] TP)).alloc (Obj.cells zeroM TR))
      refine (l18Defs_is true defs dA dc p _ _ HS.out HP.out (RowIn.later HLA.out _ _ _ HD.out) (KidsIn.later HLA.out _ _ HIN.out) hdl HV.out).mono ?_
      rintro e w2 ⟨rfl, hb2⟩
      have HR2 := Lib.hid (Later.has hb2 (heap_alloc_new _ _))
      simp only [World.size_alloc] at HR2
      have HL2 := Lib.hid (HLA.out.trans hb2)
      clear hb2 HLA
      obtain ⟨r0, r1, r2, r3, r4, r5, r6, r7⟩ := cells_r HR2.out
      obtain ⟨f0, f1, f2, f3, f4, f5, f6, f7⟩ := frozen_r HR2.out
      go_wp2_with fail
      refine bodyPost_ret (v := matchV .none 0 (.slice none 0 0) (.slice none 0 0)) (by simp [results, Try.results25, go_sem, r0, r1, r2, r3, r4, r5, r6, r7, Res.none]) rfl ?_
      exact ⟨_, _, rfl, HasRow.nil _ _ _ _, HasRow.nil _ _ _ _, .inl rfl, Below.trans HL2.out ((((((((((OnlyAt.refl _ _).set _ _).set _ _).set _ _).set _ _).set _ _).set _ _).set _ _).set _ _).1.mono (by omega))⟩
  · have hv : validD defs p = false := by simpa using hv
    have HV := Lib.hid hv
    clear hv hno
    go_enter Try.func25, Try.ntmps25
    go_wp2_with fail
    have HLA := Lib.hid (((Later.refl w).alloc (Obj.cells #[.int .i64 p.op, .string p.text, .int .i64 p.num, .int .i64 p.lo, .int .i64 p.hi, .slice kA p.kids.length kc] TP)).alloc (Obj.cells zeroM TR))
    refine (l18Defs_is false defs dA dc p _ _ HS.out HP.out (RowIn.later HLA.out _ _ _ HD.out) (KidsIn.later HLA.out _ _ HIN.out) hdl HV.out).mono ?_
    rintro e w2 ⟨rfl, hb2⟩
    have HR2 := Lib.hid (Later.has hb2 (heap_alloc_new _ _))
    simp only [World.size_alloc] at HR2
    have HL2 := Lib.hid (HLA.out.trans hb2)
    clear hb2 HLA
    obtain ⟨r0, r1, r2, r3, r4, r5, r6, r7⟩ := cells_r HR2.out
    obtain ⟨f0, f1, f2, f3, f4, f5, f6, f7⟩ := frozen_r HR2.out
    go_wp2_with fail
    refine bodyPost_ret (v := matchV .none 0 (.slice none 0 0) (.slice none 0 0)) (by simp [results, Try.results25, go_sem, r0, r1, r2, r3, r4, r5, r6, r7, Res.none]) rfl ?_
    exact ⟨_, _, rfl, HasRow.nil _ _ _ _, HasRow.nil _ _ _ _, .inl rfl, Below.trans HL2.out ((((((((((OnlyAt.refl _ _).set _ _).set _ _).set _ _).set _ _).set _ _).set _ _).set _ _).set _ _).1.mono (by omega))⟩

set_option maxRecDepth 100000 in
set_option maxHeartbeats 4000000 in
theorem specSearch_play (defs : List Pat) (dA : Option Addr) (dc : Nat) (p : Pat) (kv : Value) (s : ByteArray) (fuel : Nat) (w : World) (hs : Smalls defs) (hp : Small p) (hd : RowIn w dA 0 defs) (hin : KidsIn w p kv) (hvd : validD defs p = true)
    (hss : s.size ≤ 120) (hfu : fuel ≤ 4000) (R : Res) (FR : Int) (hR : srch defs p s fuel (fun _ => true) (s.size + 1) 0 .none 0 = (R, FR)) :
    Calls Try.prog 25 #[.slice dA defs.length dc, p.v kv, .string s, .int .i64 fuel] w (MatchIs w R FR) := by
  obtain ⟨kA, kc, rfl, _, _⟩ := hin.form
  have hlen : defs.length ≤ 24 := (validD_defs hvd hs).1.len
  have HS := Lib.hid hs
  have HP := Lib.hid hp
  have HD := Lib.hid hd
  have HIN := Lib.hid hin
  clear hs hp hd hin
  have HV := Lib.hid hvd
  have HRES := Lib.hid hR
  clear hR
  have t1 : decide ((120 : Int) < s.size) = false := by simp; omega
  have t2 : decide ((fuel : Int) < 0) = false := by simp
  have t3 : decide ((4000 : Int) < fuel) = false := by simp; omega
  have HU : Hid ((decide (0 ≤ (fuel : Int)) && decide ((fuel : Int) ≤ (4000 : Int))) = true) := Lib.hid (by simp; omega)
  clear hvd
  go_enter Try.func25, Try.ntmps25
  go_wp2_with fail
  have HLA := Lib.hid (((Later.refl w).alloc (Obj.cells #[.int .i64 p.op, .string p.text, .int .i64 p.num, .int .i64 p.lo, .int .i64 p.hi, .slice kA p.kids.length kc] TP)).alloc (Obj.cells zeroM TR))
  refine (l18Defs_is true defs dA dc p _ _ HS.out HP.out (RowIn.later HLA.out _ _ _ HD.out) (KidsIn.later HLA.out _ _ HIN.out) (by omega) HV.out).mono ?_
  rintro e w2 ⟨rfl, hb2⟩
  have HR2 := Lib.hid (Later.has hb2 (heap_alloc_new _ _))
  have HP2 := Lib.hid (Later.has hb2 (((Later.refl _).alloc _).has (heap_alloc_new w _)))
  simp only [World.size_alloc] at HR2
  have HL2 := Lib.hid (HLA.out.trans hb2)
  clear hb2 HLA
  obtain ⟨p0, p1, p2, p3, p4, p5⟩ := cells_p HP2.out
  go_wp2_with fail
  refine (l1In_is true _ _ _ _ HU.out).mono ?_
  rintro e w3 ⟨rfl, rfl⟩
  go_wp2_with fail
  refine (l20Search_true defs dA dc p _ s fuel _ HS.out HP.out (RowIn.later HL2.out _ _ _ HD.out) (KidsIn.later HL2.out _ _ HIN.out) HV.out hss hfu _ HRES.out).mono ?_
  rintro e w4 ⟨cv, ev, rfl, h1, h2, h3, h4⟩
  dsimp only at h1 h2
  obtain ⟨cA, cc, rfl, _, _⟩ := h1.form
  obtain ⟨eA, ec, rfl, _, _⟩ := h2.form
  have H1 := Lib.hid h1
  have H2 := Lib.hid h2
  have H3 := Lib.hid h3
  have H4 := Lib.hid h4
  have HR4 := Lib.hid (Later.has h4 HR2.out)
  clear h1 h2 h3 h4 p0 p1 p2 p3 p4 p5
  obtain ⟨r0, r1, r2, r3, r4, r5, r6, r7⟩ := cells_r HR4.out
  obtain ⟨f0, f1, f2, f3, f4, f5, f6, f7⟩ := frozen_r HR4.out
  go_wp2_with fail
  refine bodyPost_ret (v := matchV R FR (.slice cA R.caps.length cc) (.slice eA R.events.length ec)) (by simp [results, Try.results25, go_sem, r0, r1, r2, r3, r4, r5, r6, r7]) rfl ?_
  exact matchIs_mk HL2.out H1.out H2.out H3.out H4.out HR4.out (by omega) (((((((((OnlyAt.refl _ _).set _ _).set _ _).set _ _).set _ _).set _ _).set _ _).set _ _).set _ _)

theorem specSearch_any (defs : List Pat) (dA : Option Addr) (dc : Nat) (p : Pat) (kv : Value) (s : ByteArray) (fuel : Int) (w : World) (hs : Smalls defs) (hp : Small p) (hd : RowIn w dA 0 defs) (hin : KidsIn w p kv) (hdl : defs.length ≤ 1099511627776) (hsl : s.size ≤ 1099511627776) : Calls Try.prog 25 #[.slice dA defs.length dc, p.v kv, .string s, .int .i64 fuel] w (MatchIs w (searchRes defs p s fuel).1 (searchRes defs p s fuel).2) := by
  cases ha : searches defs p s fuel with
  | false =>
    rw [show searchRes defs p s fuel = (.none, 0) by simp [searchRes, ha]]
    exact specSearch_no defs dA dc p kv s fuel w hs hp hd hin hdl hsl ha
  | true =>
    have hb := ha
    simp only [searches, Bool.and_eq_true, decide_eq_true_eq] at hb
    obtain ⟨⟨⟨h1, h2⟩, h3⟩, h4⟩ := hb
    have := specSearch_play defs dA dc p kv s fuel.toNat w hs hp hd hin h1 h2 (by omega) _ _ rfl
    rw [Int.toNat_of_nonneg h3] at this
    rw [show searchRes defs p s fuel = srch defs p s fuel.toNat (fun _ => true) (s.size + 1) 0 .none 0 by simp [searchRes, ha]]
    exact this

end Go.Proofs.Ytndefbecoahfhaa

/- How long the answer of a search can be. No walk in sight. -/
namespace Go.Proofs.Ytndefbecoahfhaa
open Go.RowKit

theorem srch_len {defs : List Pat} {p : Pat} {s : ByteArray} {fuel : Nat} (take : Nat → Bool) (hd : DefsOk defs) (hss : s.size ≤ 120) (hv : valid p defs.length = true) (hp : Small p) (hf : fuel ≤ 4000) : ∀ (k at_ : Nat) (r : Res) (fr : Int),
    at_ + k ≤ s.size + 1 → r.caps.length ≤ 4000 → r.events.length ≤ r.steps → r.steps ≤ fuel → (srch defs p s fuel take k at_ r fr).1.caps.length ≤ 4000 ∧ (srch defs p s fuel take k at_ r fr).1.events.length ≤ 4000
  | 0, at_, r, fr, _, h1, h2, h3 => by
    unfold srch
    exact ⟨h1, by show r.events.length ≤ 4000; omega⟩
  | k + 1, at_, r, fr, ha, h1, h2, h3 => by
    have hok := ok_start (defs := defs) (p := p) (s := s) hv hp (show at_ ≤ s.size by omega)
    have l1 := play_len hd hss (fuel - r.steps) 0 [⟨0, p, 0⟩] (.start at_) hok
    have l2 := play_events hd hss (fuel - r.steps) 0 [⟨0, p, 0⟩] (.start at_) hok
    have l3 := play_steps (defs := defs) (s := s) (fuel - r.steps) 0 [⟨0, p, 0⟩] (.start at_)
    have e1 : (tryAt defs p s fuel at_ r).2.caps.length ≤ 4000 := by show (play defs s (fuel - r.steps) 0 [⟨0, p, 0⟩] (.start at_)).caps.length ≤ 4000; omega
    have e2 : (tryAt defs p s fuel at_ r).2.events.length ≤ (tryAt defs p s fuel at_ r).2.steps := by
      show (r.events ++ (play defs s (fuel - r.steps) 0 [⟨0, p, 0⟩] (.start at_)).events).length ≤ r.steps + (play defs s (fuel - r.steps) 0 [⟨0, p, 0⟩] (.start at_)).steps
      rw [List.length_append]; omega
    have e3 : (tryAt defs p s fuel at_ r).2.steps ≤ fuel := by
      show r.steps + (play defs s (fuel - r.steps) 0 [⟨0, p, 0⟩] (.start at_)).steps ≤ fuel; omega
    unfold srch
    by_cases ht : take at_ = true
    · rw [if_pos ht]
      by_cases he : (tryAt defs p s fuel at_ r).1.ends = true
      · rw [if_pos he]
        exact ⟨e1, by show (tryAt defs p s fuel at_ r).2.events.length ≤ 4000; omega⟩
      · rw [if_neg he]
        exact srch_len take hd hss hv hp hf k (at_ + 1) _ _ (by omega) e1 e2 e3
    · rw [if_neg ht]
      exact srch_len take hd hss hv hp hf k (at_ + 1) _ _ (by omega) h1 h2 h3

theorem searchRes_len {defs : List Pat} {p : Pat} {s : ByteArray} {fuel : Int} (hs : Smalls defs) (hp : Small p) : (searchRes defs p s fuel).1.caps.length ≤ 4000 ∧ (searchRes defs p s fuel).1.events.length ≤ 4000 := by
  unfold searchRes
  cases ha : searches defs p s fuel with
  | false => exact ⟨Nat.zero_le _, Nat.zero_le _⟩
  | true =>
    simp only [searches, Bool.and_eq_true, decide_eq_true_eq] at ha
    obtain ⟨⟨⟨h1, h2⟩, h3⟩, h4⟩ := ha
    obtain ⟨hd, hv⟩ := validD_defs h1 hs
    rw [if_pos rfl]
    exact srch_len _ hd h2 hv hp (by omega) (s.size + 1) 0 .none 0 (by omega) (Nat.zero_le _) (Nat.zero_le _) (Nat.zero_le _)

end Go.Proofs.Ytndefbecoahfhaa
