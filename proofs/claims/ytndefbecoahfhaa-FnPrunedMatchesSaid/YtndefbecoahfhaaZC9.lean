/- Part of the walks of both matchers and of the laws' helpers. -/
import Derived.Test.YtndefbecoahfhaaZC8
import Derived.Test.YtndefbecoahfhaaZC7
import Derived.Test.YtndefbecoahfhaaZC1
import Derived.Test.YtndefbecoahfhaaZC6
import Derived.ProofKit
import Derived.OpenShut
import Derived.Test.YtndefbecoahfhaaChecked
import Derived.Below

/- spec's l20Step does what the plain machine's step does. -/
namespace Go.Proofs.Ytndefbecoahfhaa
open Go.RowKit

theorem sstep_any {w0 w : World} {M : Nat} {dA : Option Addr} {dc : Nat} {s : ByteArray} {m : Mst} {gl : List SG} {gi : Int} {gv hv cv ev : Value} {hs : List Value} {defs : List Pat} {k : Nat} {g : Goal} {gs : List Goal}
    (h : SpecAt w0 w [] M m gl gi m.at_ gv hv cv ev hs) (hc : Chain gl gi (g :: gs)) (hok : Ok defs s k (g :: gs) m) (hk : k ≤ 5000) (hd : DefsOk defs) (hdefs : RowIn w0 dA 0 defs) (hss : s.size ≤ 120) (hlen : gl.length ≤ 90000) :
    Calls Try.prog 71 #[.pointer (some ⟨M, 0, none⟩), .slice dA defs.length dc, .string s] w (SDid w0 M m gl.length (step defs s g gs m)) := by
  obtain ⟨j, x, rfl, hj, e1, e2, e3, hch⟩ := hc
  obtain ⟨xk, xp, xv, nx, xf⟩ := x
  obtain ⟨kind, p, fr⟩ := g
  simp only at e1 e2 e3 hch
  subst e1 e2 e3
  obtain ⟨A, c, hv', _, _⟩ := (h.kids _ (List.mem_of_getElem? hj)).form
  simp only at hv'
  subst hv'
  have hv := hok.goals.head.val
  have hat := hok.at_
  have h1 := hok.nch
  have h2 := hok.nev
  have h3 := hok.ncap
  have hops := (valid_kids hv).1
  have hkind := hok.goals.head.kind
  simp only at hkind hv hops
  obtain ⟨op, text, num, lo, hi, kids⟩ := xp
  rcases hkind with ⟨rfl, rfl⟩ | ⟨rfl, ho⟩ | ⟨rfl, ho⟩ | ⟨rfl, ho⟩ | ⟨rfl, ho⟩
  · show Calls _ _ _ _ (SDid w0 M m gl.length (stepMatch defs s (.mk op text num lo hi kids) gs m))
    have ht : op = 11 ∨ op = 13 ∨ op = 14 ∨ op = 15 ∨ op = 16 ∨ op = 17 ∨ op = 18 ∨ op = 19 ∨ op = 20 ∨ op = 21 ∨ isSimple op := by
      simp only [Pat.op] at hops
      unfold isSimple
      omega
    rcases ht with rfl | rfl | rfl | rfl | rfl | rfl | rfl | rfl | rfl | rfl | hsi
    · by_cases hlt : m.at_ < s.size
      · rw [show stepMatch defs s (.mk 11 text num lo hi kids) gs m = .go gs (m.choose (⟨0, .mk 11 text num lo hi kids, 0⟩ :: gs) (m.at_ + 1)) by show Out.go gs (if m.at_ < s.size then _ else _) = _; rw [if_pos hlt]]
        exact sstep_arb_yes (fr := 0) h hj hch hlen hlt hss (by omega)
      · rw [show stepMatch defs s (.mk 11 text num lo hi kids) gs m = .go gs m by show Out.go gs (if m.at_ < s.size then _ else _) = _; rw [if_neg hlt]]
        exact sstep_arb_no h hj hch hlen hlt
    · have hl := kids_one hv (.inl rfl)
      match kids, hl with
      | [k0], _ => exact sstep_arbno h hj hch hlen (by omega)
    · have hl := kids_two hv (.inl rfl)
      match kids, hl with
      | [k0, k1], _ => exact sstep_cat h hj hch hlen
    · have hl := kids_two hv (.inr rfl)
      match kids, hl with
      | [k0, k1], _ => exact sstep_alt h hj hch hlen (by omega)
    · have hl := kids_one hv (.inr (.inl rfl))
      match kids, hl with
      | [k0], _ => exact sstep_assign h hj hch hlen
    · have hl := kids_one hv (.inr (.inr rfl))
      match kids, hl with
      | [k0], _ => exact sstep_immediate h hj hch hlen
    · exact sstep_cursor h hj hch hlen (by omega)
    · exact sstep_fence h hj hch hlen (by omega)
    · have hn := valid_var hv (.inr (.inr (.inr rfl)))
      have hn0 : 0 ≤ num := hn.1
      have hn1 : num < (defs.length : Int) := hn.2
      have hlt : num.toNat < defs.length := by omega
      rw [show stepMatch defs s (.mk 20 text num lo hi kids) gs m = .go (⟨0, defs[num.toNat], 0⟩ :: gs) m by
        show Out.go (⟨0, defs.getD num.toNat _, 0⟩ :: gs) m = _
        simp [List.getD, hlt]]
      exact sstep_defer (num := num) h hj hch hlen (Int.toNat_of_nonneg hn0).symm hlt rfl hdefs
    · exact sstep_abort h hj hch hlen
    · rw [stepMatch_simple (p := .mk op text num lo hi kids) hsi]
      have hw := valid_words hv
      simp only [Pat.op, Pat.text, Pat.num] at hw
      cases hz : oneEnd op text num lo hi s m.at_ with
      | some z =>
        simp only [Pat.op, Pat.text, Pat.num, Pat.lo, Pat.hi, hz]
        exact sstep_some h hj hch hlen hsi hw hss hat hz
      | none =>
        simp only [Pat.op, Pat.text, Pat.num, Pat.lo, Pat.hi, hz]
        exact sstep_none h hj hch hlen hsi hw hss hat hz
  · exact sstep_cap h hj hch hlen (by omega)
  · exact sstep_event h hj hch hlen (by omega)
  · have hl := kids_one hv (.inl ho)
    match kids, hl with
    | [k0], _ => exact sstep_extend h hj hch hlen
  · by_cases hf : (m.at_ : Int) = xf
    · rw [show step defs s ⟨4, .mk op text num lo hi kids, xf⟩ gs m = .fail by show (if (m.at_ : Int) = xf then Out.fail else _) = _; rw [if_pos hf]]
      exact sstep_check_fail h hj hch hlen (by simp [hf])
    · rw [show step defs s ⟨4, .mk op text num lo hi kids, xf⟩ gs m = .go (⟨0, .mk op text num lo hi kids, 0⟩ :: gs) m by show (if (m.at_ : Int) = xf then Out.fail else _) = _; rw [if_neg hf]]
      exact sstep_check_go h hj hch hlen (by simp [hf])

end Go.Proofs.Ytndefbecoahfhaa

/- What spec's l20Match is said with; append onto an empty row of one's own. No walk in sight. -/
namespace Go.Proofs.Ytndefbecoahfhaa
open Go.RowKit

section
variable {P : Program} (w : World)
/-- append([]T{}, xs...): a copy. -/
theorem run_append_fresh (base base2 : Nat) (t ty e : TypeId) (i : TypeInfo) (z : Value) (size bytes : Nat) (ht : P.underlying t = some (.slice e)) (hi : P.info? e = some i) (hz : i.zero = some z)
    (hsize : i.size = size) (hby : i.bytes = bytes) (hzs : z.cells.size = size) {B : Nat} (hB : w.heap[B]? = some (.cells #[] e (0, 0))) (hbase : base ≤ B)
    {v2 : Value} {m : Nat} {ys : List Value} (hsrc : HasRow w base2 e size v2 m ys) (hm : m ≤ 1000000) (hbytes : bytes ≤ 1000) :
    ∃ v' w', (Builtin.append_ #[t, t] ty #[.slice (some ⟨B, 0, none⟩) 0 0, v2]).run P w = .ok v' w' ∧ HasRow w' base e size v' m ys ∧ Later w w' ∧ (v'.ownBlock = some B ∨ v'.ownBlock = some w.heap.size) := by
  subst hsize
  subst hby
  have hBlt := has_lt hB
  by_cases h0 : m = 0
  · subst h0
    have hy : ys = [] := List.eq_nil_of_length_eq_zero (by simpa using hsrc.1)
    subst hy
    refine ⟨.slice (some ⟨B, 0, none⟩) 0 0, w, ?_, ⟨by simp, .inr ⟨B, 0, #[], rfl, hbase, hB, Nat.le_refl _, Nat.zero_le _, by simp, by simp⟩⟩, Later.refl w, .inl rfl⟩
    obtain ⟨A, c, rfl, _, _⟩ := hsrc.form
    cases A <;> simp [Builtin.append_, run_underlying ht, sizeOf, typeInfo, hi, Builtin.lenOf, Builtin.firstCells, loadCells, loadCellsFrom, storeCells]
  · obtain ⟨g, c, rfl, _, hc1, hc2⟩ := hsrc.block_ (by omega)
    have hcells := hsrc.cells (g := g) rfl
    have hnews : ∀ j u, ys[j]? = some u → w.cell? ((⟨g, 0, none⟩ : Addr).add j) = some u := fun j u hu => by
      have hadd : (⟨g, 0, none⟩ : Addr).add j = ⟨g, j, none⟩ := by unfold Addr.add; split <;> simp_all
      rw [hadd]
      exact hcells j u hu
    have hr := run_append_grow (P := P) w t ty e i z ht hi hz ⟨B, 0, none⟩ 0 0 [] (by simp) (fun j u hu => by simp at hu) ⟨g, 0, none⟩ m c ys hsrc.1 hnews (by omega) (by omega)
      (growslice_fits (by omega) (by have := Nat.mul_le_mul (show 0 + m ≤ 1000000 by omega) hbytes; omega))
    have hge := grownCap_ge w (0 + m) 0 e
    have hcm : grownCap w (0 + m) 0 e ≤ maxLen := grownCap_le_maxLen w (0 + m) 0 e (by simp only [maxLen]; omega)
    refine ⟨_, _, hr, ⟨hsrc.1, .inr ⟨w.heap.size, _, _, by rw [Nat.zero_add], by omega, heap_alloc_new w.drew _, by omega, hcm, ?_, ?_⟩⟩, ((Later.refl w).drew.alloc _), .inr rfl⟩
    · simp only [Array.size_append, List.size_toArray, size_zeroCells, hzs, hsrc.1, List.length_nil, Nat.zero_add]
      rw [← Nat.add_mul]
      refine Nat.mul_le_mul_right _ ?_
      have h2 := hge
      rw [Nat.zero_add] at h2
      omega
    · simp only [Array.toList_append, List.append_assoc]
      rw [List.nil_append, ← hsrc.1]
      exact List.take_left

theorem wpList_append_fresh {ops : Array Oper} {rest : List Oper} {o : Oper} {a : Act} {Q : Exit → Act → World → Prop} (hgd : o.guard = none) (s x : Operand) (t : TypeId)
    (ho : o.op = .call { callee := .builtin .append, args := #[s, x], argTypes := #[t, t] })
    (base base2 : Nat) (e : TypeId) (i : TypeInfo) (z : Value) (size bytes : Nat) (ht : P.underlying t = some (.slice e)) (hi : P.info? e = some i) (hz : i.zero = some z)
    (hsize : i.size = size) (hby : i.bytes = bytes) (hzs : z.cells.size = size) {B : Nat} (hs : a.eval s = .slice (some ⟨B, 0, none⟩) 0 0) (hB : w.heap[B]? = some (.cells #[] e (0, 0))) (hbase : base ≤ B)
    {v2 : Value} {m : Nat} {ys : List Value} (hx : a.eval x = v2) (hsrc : HasRow w base2 e size v2 m ys) (hm : m ≤ 1000000) (hbytes : bytes ≤ 1000)
    (h : ∀ v' w', HasRow w' base e size v' m ys → Later w w' → (v'.ownBlock = some B ∨ v'.ownBlock = some w.heap.size) → wpList P ops Q rest (a.put o.dst v') w') : wpList P ops Q (o :: rest) a w := by
  refine wpList_plain hgd fun _ hK => ?_
  obtain ⟨v', w', hr, h2, h3, h4⟩ := run_append_fresh (P := P) w base base2 t o.type e i z size bytes ht hi hz hsize hby hzs hB hbase hsrc hm hbytes
  unfold Oper.wp execOp
  simp only [ho, resolve, invoke, builtin, Sem.run_bind, Sem.run_pure, Result.andThen_ok, List.map_toArray, List.map_cons, List.map_nil, hs, hx, hr]
  exact hK _ _ (h v' w' h2 h3 h4)
end

section
variable {w0 w : World} {F : List (Nat × Obj)} {M : Nat} {m : Mst} {gl : List SG} {gi ai : Int} {gv hv cv ev : Value} {hs : List Value}
theorem foreign_to {w' : World} {hv' cv' : Value} (h : ∀ x ∈ F, Foreign w x M gv hv cv ev) (hh : hv'.ownBlock = hv.ownBlock) (hc : cv'.ownBlock = cv.ownBlock) : ∀ x ∈ F, Foreign w x M gv hv' cv' ev := fun y hy =>
  ⟨(h y hy).blk, (h y hy).m, (h y hy).g, by rw [hh]; exact (h y hy).h, by rw [hc]; exact (h y hy).c, (h y hy).e⟩
/-- The last choice is taken away. -/
theorem spec_pop {cs : List Choice} {c : Choice} {g hc : Nat} (h : SpecAt w0 w F M m gl gi ai gv (.slice (some ⟨g, 0, none⟩) (cs.length + 1) hc) cv ev hs) (hcs : m.choices = cs ++ [c]) :
    ∃ a i, hs = a ++ [.int .i64 i, .int .i64 c.at_, .int .i64 c.ncap] ∧ ((c.stop = true ∧ i = -2) ∨ (c.stop = false ∧ Chain gl i c.goals)) ∧ a.length = cs.length * 3 ∧
      SpecAt w0 (w.setCell ⟨M, 1, none⟩ (.slice (some ⟨g, 0, none⟩) cs.length hc)) F M { m with choices := cs } gl gi ai gv (.slice (some ⟨g, 0, none⟩) cs.length hc) cv ev a := by
  have h6 := h.are
  have h5 := h.chs
  rw [hcs] at h6 h5
  obtain ⟨a, b, rfl, h1, i, rfl, h2⟩ := SChoicesAre.pop cs hs h6
  have hla := SChoicesAre.len cs a h1
  refine ⟨a, i, rfl, h2, hla, SpecAt.set (m := { m with choices := cs }) h.blk rfl h.base h.goals h.kids ?_ h1 h.caps h.evs h.apart (foreign_to (w' := w) h.foreign rfl rfl) h.below⟩
  have hl : (cs ++ [c]).length = cs.length + 1 := by simp
  rw [hl] at h5
  have := h5.cut (k := cs.length) (c := hc) (by omega) (by have := h5.form; obtain ⟨A, cap, e, h7, _⟩ := this; cases e; omega) (Nat.le_refl _)
  simpa [← hla] using this
/-- The captures are cut. -/
theorem spec_cut {g cc k : Nat} (h : SpecAt w0 w F M m gl gi ai gv hv (.slice (some ⟨g, 0, none⟩) m.caps.length cc) ev hs) (hk : k ≤ m.caps.length) :
    SpecAt w0 (w.setCell ⟨M, 4, none⟩ (.slice (some ⟨g, 0, none⟩) k cc)) F M { m with caps := m.caps.take k } gl gi ai gv hv (.slice (some ⟨g, 0, none⟩) k cc) ev hs := by
  have hc : m.caps.length ≤ cc := by obtain ⟨A, cap, e, h7, _⟩ := h.caps.form; cases e; omega
  refine SpecAt.set (m := { m with caps := m.caps.take k }) h.blk rfl h.base h.goals h.kids h.chs h.are ?_ h.evs h.apart (foreign_to (w' := w) h.foreign rfl rfl) h.below
  have := h.caps.cut (c := cc) hk (by omega) (Nat.le_refl _)
  rw [capCells_take] at this
  simpa [Nat.min_eq_left hk] using this
theorem spec_cut_nil {k : Nat} (h : SpecAt w0 w F M m gl gi ai gv hv (.slice none 0 0) ev hs) (hk : k = 0) :
    SpecAt w0 (w.setCell ⟨M, 4, none⟩ (.slice none 0 0)) F M { m with caps := m.caps.take k } gl gi ai gv hv (.slice none 0 0) ev hs := by
  subst hk
  exact SpecAt.set (m := { m with caps := m.caps.take 0 }) h.blk rfl h.base h.goals h.kids h.chs h.are (by simpa [capCells] using HasRow.nil w w0.heap.size TK 3) h.evs h.apart h.foreign h.below

theorem stop_cells {j k g hc : Nat} {a : List Value} {v0 v1 v2 : Value} (h : SpecAt w0 w F M m gl gi ai gv (.slice (some ⟨g, 0, none⟩) k hc) cv ev (a ++ [v0, v1, v2])) (ha : a.length = j * 3) :
    w.cell? ⟨g, j * 3, none⟩ = some v0 ∧ w.cell? ⟨g, j * 3 + 1, none⟩ = some v1 ∧ w.cell? ⟨g, j * 3 + 2, none⟩ = some v2 := by
  have hc := h.chs.cells (g := g) rfl
  have at_ : ∀ i u, (a ++ [v0, v1, v2])[j * 3 + i]? = some u → w.cell? ⟨g, j * 3 + i, none⟩ = some u := fun i u hu => hc _ u hu
  refine ⟨at_ 0 v0 ?_, at_ 1 v1 ?_, at_ 2 v2 ?_⟩ <;> rw [← ha, List.getElem?_append_right (by omega)] <;> simp

theorem specAt_start {wA : World} {fr : Int} : SpecAt wA (wA.alloc (.cells (sCells (.slice none 0 0) (.slice none 0 0) 0 fr (.slice none 0 0) (.slice none 0 0)) TS)) [] wA.heap.size (.start fr.toNat) [] 0 fr (.slice none 0 0) (.slice none 0 0) (.slice none 0 0) (.slice none 0 0) [] :=
  ⟨heap_alloc_new wA _, Nat.le_refl _, HasRow.nil _ _ _ _, (fun g hg => by cases hg), HasRow.nil _ _ _ _, rfl, HasRow.nil _ _ _ _, HasRow.nil _ _ _ _, .inl rfl, (fun x hx => by cases hx), (Below.refl _ _).alloc (Nat.le_refl _) _⟩
end

/-- What holds at the head of l20Match's loop; k rounds at most are to come. -/
def LoopS (wA : World) (defs : List Pat) (s : ByteArray) (M fuel : Nat) (RES : Res) (k : Nat) (st : Value) (wr : World) : Prop :=
  ∃ n m gl gi ai gv hv cv ev hs, st = .int .i64 (n : Nat) ∧ n ≤ fuel ∧ SpecAt wA wr [] M m gl gi ai gv hv cv ev hs ∧
    ((gi = -2 ∧ RES = ⟨false, true, false, 0, n, [], m.events⟩) ∨ ∃ gs, n + k = fuel ∧ ai = m.at_ ∧ Chain gl gi gs ∧ Ok defs s n gs m ∧ gl.length ≤ 2 * n + 1 ∧ play defs s k n gs m = RES)

theorem cells_d {x : World} {b : Nat} {v0 v1 v2 : Value} (h : x.heap[b]? = some (.cells #[v0, v1, v2] TD (0, 0))) :
    x.cell? ⟨b, 0, none⟩ = some v0 ∧ x.cell? ⟨b, 1, none⟩ = some v1 ∧ x.cell? ⟨b, 2, none⟩ = some v2 :=
  ⟨cell_of_row x b 0 _ _ _ h, cell_of_row x b 1 _ _ _ h, cell_of_row x b 2 _ _ _ h⟩

end Go.Proofs.Ytndefbecoahfhaa

/- spec's l20Match. Printed by gen_sm.py. -/
namespace Go.Proofs.Ytndefbecoahfhaa
open Go.RowKit

set_option maxRecDepth 100000 in
set_option maxHeartbeats 4000000 in
theorem l20Match_play (defs : List Pat) (dA : Option Addr) (dc : Nat) (p : Pat) (kv : Value) (s : ByteArray) (fr fuel : Nat) (w : World) (hs : Smalls defs) (hp : Small p) (hd : RowIn w dA 0 defs) (hin : KidsIn w p kv) (hvd : validD defs p = true)
    (hss : s.size ≤ 120) (hfr : fr ≤ s.size) (hfu : fuel ≤ 4000) :
    Calls Try.prog 41 #[.slice dA defs.length dc, p.v kv, .string s, .int .i64 fr, .int .i64 fuel] w (MatchIs w (play defs s fuel 0 [⟨0, p, 0⟩] (.start fr)) (matchFrom (play defs s fuel 0 [⟨0, p, 0⟩] (.start fr)) fr)) := by
  obtain ⟨kA, kc, rfl, _, _⟩ := hin.form
  obtain ⟨hdok, hpv⟩ := validD_defs hvd hs
  have hlen := hdok.len
  have HD := Lib.hid hdok
  have HV := Lib.hid (ok_start hpv hp hfr)
  have HROW := Lib.hid hd
  have HIN := Lib.hid hin
  obtain ⟨RES, hR⟩ : ∃ R, play defs s fuel 0 [⟨0, p, 0⟩] (.start fr) = R := ⟨_, rfl⟩
  rw [hR]
  have HRES := Lib.hid hR
  clear hR hdok hpv hd hin hs hp hvd
  have i3 : (fuel : Int) ≤ 4000 := by omega
  go_enter Try.func41, Try.ntmps41
  go_wp2_with fail
  obtain ⟨wA, hwA⟩ : ∃ wA, wA = (w.alloc (Obj.cells #[.int .i64 p.op, .string p.text, .int .i64 p.num, .int .i64 p.lo, .int .i64 p.hi, .slice kA p.kids.length kc] TP)).alloc (Obj.cells zeroM TR) := ⟨_, rfl⟩
  rw [← hwA]
  have hlA : Later w wA := by rw [hwA]; exact ((Later.refl w).alloc _).alloc _
  have hRA : wA.heap[w.heap.size + 1]? = some (.cells zeroM TR (0, 0)) := by rw [hwA, show w.heap.size + 1 = (w.alloc (Obj.cells #[.int .i64 p.op, .string p.text, .int .i64 p.num, .int .i64 p.lo, .int .i64 p.hi, .slice kA p.kids.length kc] TP)).heap.size by simp]; exact heap_alloc_new _ _
  have hzA : wA.heap.size = w.heap.size + 2 := by rw [hwA]; simp
  rw [← hzA]
  have HLA := Lib.hid hlA
  have HRA := Lib.hid hRA
  have HINA := Lib.hid (KidsIn.later hlA _ _ HIN.out)
  have HROWA := Lib.hid (RowIn.later hlA _ _ _ HROW.out)
  obtain ⟨RB, hRBe⟩ : ∃ RB, w.heap.size + 1 = RB := ⟨_, rfl⟩
  rw [hRBe] at HRA
  rw [hRBe]
  have hwz : w.heap.size ≤ RB := by omega
  have hz2 : RB < wA.heap.size := by omega
  clear hwA hlA hRA hzA hRBe
  refine (push_at (specAt_start (fr := fr)) 0 p kA kc (-1) 0 HINA.out (by simp) _ rfl).mono ?_
  rintro e w2 ⟨rfl, gv2, hI2⟩
  obtain ⟨M, hM⟩ : ∃ M, wA.heap.size = M := ⟨_, rfl⟩
  rw [hM] at hI2
  rw [hM]
  clear hM
  have HI2 := Lib.hid hI2
  obtain ⟨s0, s1, s2, s3, s4, s5⟩ := cells_s hI2.blk
  have f2 := frozen_of_row w2 M 2 _ _ hI2.blk
  clear hI2
  go_wp2_with fail
  clear s0 s1 s2 s3 s4 s5 f2
  go_loopg [12] fuel (fun k st wr => LoopS wA defs s M fuel RES k st wr)
  case atStart => exact ⟨0, .start fr, [⟨0, p, .slice kA p.kids.length kc, -1, 0⟩], 0, fr, _, _, _, _, _, rfl, by omega, HI2.out.setGoal 0, .inr ⟨[⟨0, p, 0⟩], by omega, rfl, ⟨0, _, rfl, rfl, rfl, rfl, rfl, rfl⟩, HV.out, by simp, HRES.out⟩⟩
  case round =>
    obtain ⟨n, m, gl, gi, ai, gv, hv, cv, ev, hs, rfl, hn, hI, hd⟩ := hrel
    obtain ⟨cA, cc, rfl, _, _⟩ := hI.caps.form
    obtain ⟨eA, ec, rfl, _, _⟩ := hI.evs.form
    obtain ⟨hA, hc, rfl, _, _⟩ := hI.chs.form
    have hRB := (hI.below.block _ hz2).trans HRA.out
    have hRM : ¬ RB = M := ne_of_type hRB hI.blk (by decide)
    have hMR : ¬ M = RB := fun e => hRM e.symm
    have HI := Lib.hid hI
    have HB := Lib.hid hRB
    clear hI hRB HRES HV HI2
    rcases hd with hd | ⟨gs, hnk, rfl, hch, hok, hgl, hpl⟩
    · have HPL := Lib.hid hd.2
      obtain rfl := hd.1
      clear hd
      obtain ⟨s0, s1, s2, s3, s4, s5⟩ := cells_s HI.out.blk
      obtain ⟨r0, r1, r2, r3, r4, r5, r6, r7⟩ := cells_r HB.out
      obtain ⟨f0, f1, f2, f3, f4, f5, f6, f7⟩ := frozen_r HB.out
      go_wp2_with fail
      refine bodyPost_ret (v := matchV ⟨false, true, false, 0, n, [], m.events⟩ 0 (.slice none 0 0) (.slice eA m.events.length ec)) (by simp [results, Try.results41, go_sem, r0, r1, r2, r3, r4, r5, r6, r7]) rfl ?_
      rw [HPL.out]
      exact matchIs_mk (r := ⟨false, true, false, 0, n, [], m.events⟩) (fr := 0) HLA.out (HasRow.nil _ _ _ _) HI.out.evs (.inl rfl) HI.out.below HB.out hwz (((((((((OnlyAt.refl _ _).set _ _).set _ _).set _ _).set _ _).set _ _).set _ _).set _ _).set _ _)
    · have HPL := Lib.hid hpl
      clear hpl
      cases gs with
      | nil =>
        obtain rfl : gi = -1 := hch
        rw [play_nil] at HPL
        have hncap := hok.ncap
        clear hok hgl
        obtain ⟨s0, s1, s2, s3, s4, s5⟩ := cells_s HI.out.blk
        go_wp2_with fail
        clear s0 s1 s2 s3 s4 s5
        -- region 19: 12 operations, the last [11]
        refine wpU_begin [11] [] (by kernel_rfl) (fun w3 hw3 => ?_)
        have HI3 := Lib.hid (HI.out.later (drew_later hw3))
        have HB3 := Lib.hid ((drew_later hw3).has HB.out)
        clear hw3
        refine wpU_take 0 (some 77) (v := ?_) rfl rfl (by kernel_rfl) (fun _ _ _ h => h) rfl (fun x hx => ?_) ?_
        rotate_left 1
        · go_simp; first | done | with_reducible rfl | rw [if_neg (by omega)] | rw [if_pos (by omega)]
        simp only [Act.put, List.setIfInBounds_toArray, List.set_cons_zero, List.set_cons_succ]
        refine wpU_take 1 (some 78) (v := ?_) rfl rfl (by kernel_rfl) (fun _ _ _ h => h) rfl (fun x hx => ?_) ?_
        rotate_left 1
        · go_simp; first | done | with_reducible rfl | rw [if_neg (by omega)] | rw [if_pos (by omega)]
        simp only [Act.put, List.setIfInBounds_toArray, List.set_cons_zero, List.set_cons_succ]
        refine wpU_take 2 (some 79) (v := ?_) rfl rfl (by kernel_rfl) (fun _ _ _ h => h) rfl (fun x hx => ?_) ?_
        rotate_left 1
        · obtain ⟨s0, s1, s2, s3, s4, s5⟩ := cells_s (hx.has HI3.out.blk); go_simp; first | done | with_reducible rfl | rw [if_neg (by omega)] | rw [if_pos (by omega)]
        simp only [Act.put, List.setIfInBounds_toArray, List.set_cons_zero, List.set_cons_succ]
        refine wpU_take 3 (some 80) (v := ?_) rfl rfl (by kernel_rfl) (fun _ _ _ h => h) rfl (fun x hx => ?_) ?_
        rotate_left 1
        · go_simp; first | done | with_reducible rfl | rw [if_neg (by omega)] | rw [if_pos (by omega)]
        simp only [Act.put, List.setIfInBounds_toArray, List.set_cons_zero, List.set_cons_succ]
        refine wpU_take 5 (some 82) (v := ?_) rfl rfl (by kernel_rfl) (fun _ _ _ h => h) rfl (fun x hx => ?_) ?_
        rotate_left 1
        · go_simp; first | done | with_reducible rfl | rw [if_neg (by omega)] | rw [if_pos (by omega)]
        simp only [Act.put, List.setIfInBounds_toArray, List.set_cons_zero, List.set_cons_succ]
        refine wpU_take 6 (some 83) (v := ?_) rfl rfl (by kernel_rfl) (fun _ _ _ h => h) rfl (fun x hx => ?_) ?_
        rotate_left 1
        · obtain ⟨s0, s1, s2, s3, s4, s5⟩ := cells_s (hx.has HI3.out.blk); go_simp; first | done | with_reducible rfl | rw [if_neg (by omega)] | rw [if_pos (by omega)]
        simp only [Act.put, List.setIfInBounds_toArray, List.set_cons_zero, List.set_cons_succ]
        refine wpU_take 8 (some 85) (v := ?_) rfl rfl (by kernel_rfl) (fun _ _ _ h => h) rfl (fun x hx => ?_) ?_
        rotate_left 1
        · go_simp; first | done | with_reducible rfl | rw [if_neg (by omega)] | rw [if_pos (by omega)]
        simp only [Act.put, List.setIfInBounds_toArray, List.set_cons_zero, List.set_cons_succ]
        refine wpU_take 9 (some 86) (v := ?_) rfl rfl (by kernel_rfl) (fun _ _ _ h => h) rfl (fun x hx => ?_) ?_
        rotate_left 1
        · obtain ⟨s0, s1, s2, s3, s4, s5⟩ := cells_s (hx.has HI3.out.blk); go_simp; first | done | with_reducible rfl | rw [if_neg (by omega)] | rw [if_pos (by omega)]
        simp only [Act.put, List.setIfInBounds_toArray, List.set_cons_zero, List.set_cons_succ]
        refine wpU_step 4 (by kernel_rfl) rfl rfl ?_  -- buildSlice 
        go_wp2_with fail
        refine ⟨(Later.refl _).alloc _, ?_⟩
        refine wpU_step 7 (by kernel_rfl) rfl rfl ?_  -- call builtin Go.Builtin.append
        obtain ⟨i, hi, hz0, hz1, hz2'⟩ := info_parts infoK
        refine wpList_append_fresh _ rfl _ _ _ rfl wA.heap.size wA.heap.size TK i _ 3 24 Try.underlying31 hi hz0 hz1 hz2' rfl rfl (heap_alloc_new w3 _) HI3.out.below.size rfl ((HI3.out.later ((Later.refl w3).alloc _)).caps) (by omega) (by omega) ?_
        intro v' w5 hrow hl5 hown
        obtain ⟨vA, vc, rfl, _, _⟩ := hrow.form
        have HI5 := Lib.hid (HI3.out.later (((Later.refl w3).alloc _).trans hl5))
        have HB5 := Lib.hid ((((Later.refl w3).alloc _).trans hl5).has HB3.out)
        have HROW5 := Lib.hid hrow
        have HAP5 : Hid ((Value.slice vA m.caps.length vc).ownBlock = none ∨ (Value.slice vA m.caps.length vc).ownBlock ≠ (Value.slice eA m.events.length ec).ownBlock) := Lib.hid (.inr fun e => by
          rcases hown with h1 | h1
          · rw [h1] at e; have := (HI3.out.evs.lt _ e.symm).2.1; omega
          · rw [h1] at e; have := (HI3.out.evs.lt _ e.symm).2.1; simp at this; omega)
        refine wpList_nil ⟨hl5, ?_⟩
        clear hrow hl5 hown hi hz0 hz1 hz2'
        refine wpU_take 10 (some 87) (v := ?_) rfl rfl (by kernel_rfl) (fun _ _ _ h => h) rfl (fun x hx => ?_) ?_
        rotate_left 1
        · go_simp; first | done | with_reducible rfl | rw [if_neg (by omega)] | rw [if_pos (by omega)]
        simp only [Act.put, List.setIfInBounds_toArray, List.set_cons_zero, List.set_cons_succ]
        refine wpU_last [_] (by kernel_rfl) rfl rfl ?_
        simp only [List.getElem_toArray, List.getElem_cons_succ, List.getElem_cons_zero]
        obtain ⟨s0, s1, s2, s3, s4, s5⟩ := cells_s HI5.out.blk
        obtain ⟨r0, r1, r2, r3, r4, r5, r6, r7⟩ := cells_r HB5.out
        obtain ⟨f0, f1, f2, f3, f4, f5, f6, f7⟩ := frozen_r HB5.out
        go_wp2_with fail
        refine bodyPost_ret (v := matchV ⟨true, false, false, m.at_, n, m.caps, m.events⟩ fr (.slice vA m.caps.length vc) (.slice eA m.events.length ec)) (by simp [results, Try.results41, go_sem, r0, r1, r2, r3, r4, r5, r6, r7]) rfl ?_
        rw [← HPL.out]
        exact matchIs_mk (r := ⟨true, false, false, m.at_, n, m.caps, m.events⟩) (fr := fr) HLA.out HROW5.out HI5.out.evs HAP5.out HI5.out.below HB5.out hwz (((((((((OnlyAt.refl _ _).set _ _).set _ _).set _ _).set _ _).set _ _).set _ _).set _ _).set _ _)
      | cons g gs =>
        obtain ⟨j, hj⟩ : ∃ j : Nat, gi = (j : Int) := by obtain ⟨j, _, e, _⟩ := hch; exact ⟨j, e⟩
        subst hj
        have HCH := Lib.hid hch
        have HK := Lib.hid hok
        have hgl' : gl.length ≤ 8001 := by omega
        clear hch hok
        by_cases hk0 : gk = 0
        · subst hk0
          obtain rfl : n = fuel := by omega
          rw [play_zero] at HPL
          obtain ⟨s0, s1, s2, s3, s4, s5⟩ := cells_s HI.out.blk
          obtain ⟨r0, r1, r2, r3, r4, r5, r6, r7⟩ := cells_r HB.out
          obtain ⟨f0, f1, f2, f3, f4, f5, f6, f7⟩ := frozen_r HB.out
          go_wp2_with fail
          refine bodyPost_ret (v := matchV ⟨false, false, true, 0, n, [], m.events⟩ 0 (.slice none 0 0) (.slice eA m.events.length ec)) (by simp [results, Try.results41, go_sem, r0, r1, r2, r3, r4, r5, r6, r7]) rfl ?_
          rw [← HPL.out]
          exact matchIs_mk (r := ⟨false, false, true, 0, n, [], m.events⟩) (fr := 0) HLA.out (HasRow.nil _ _ _ _) HI.out.evs (.inl rfl) HI.out.below HB.out hwz (((((((((OnlyAt.refl _ _).set _ _).set _ _).set _ _).set _ _).set _ _).set _ _).set _ _).set _ _)
        · obtain ⟨k, rfl⟩ : ∃ k, gk = k + 1 := ⟨gk - 1, by omega⟩
          have hn1 : (n : Int) + 1 ≤ 4001 := by omega
          have hnf : ¬ fuel ≤ n := by omega
          have hnf2 : decide (fuel ≤ n) = false := by simpa using hnf
          obtain ⟨s0, s1, s2, s3, s4, s5⟩ := cells_s HI.out.blk
          go_wp2_with fail
          clear s0 s1 s2 s3 s4 s5
          refine (sstep_any HI.out HCH.out HK.out (by omega) HD.out HROWA.out hss (by omega)).mono ?_
          intro e w4 hdid
          cases hst : step defs s g gs m with
          | go gs' m' =>
            rw [hst] at hdid
            obtain ⟨gl4, gi4, gv4, hv4, cv4, ev4, hs4, rfl, hI4, hc4, hl4⟩ := hdid
            have HI4 := Lib.hid hI4
            have HC4 := Lib.hid hc4
            have HST := Lib.hid hst
            rw [play_go hst] at HPL
            clear hI4 hc4 hst
            go_wp2_with fail
            go_roundg k
            case measure => omega
            case rel => exact ⟨n + 1, m', gl4, gi4, m'.at_, _, _, _, _, _, by go_num, by omega, HI4.out, .inr ⟨gs', by omega, rfl, HC4.out, step_ok HD.out hss HK.out HST.out, by omega, HPL.out⟩⟩
          | stop =>
            rw [hst] at hdid
            obtain ⟨gl4, gi4, ai4, gv4, hv4, cv4, ev4, hs4, rfl, hI4, hl4⟩ := hdid
            rw [play_stop hst] at HPL
            clear hst
            obtain ⟨cA4, cc4, rfl, _, _⟩ := hI4.caps.form
            obtain ⟨g4, hc4, rfl, _, hcc, hcm⟩ := hI4.chs.block_ (by simp)
            obtain ⟨cs, hcs⟩ : ∃ cs : List Choice, cs = [] := ⟨_, rfl⟩
            obtain ⟨c, hcd⟩ : ∃ c : Choice, c = ⟨true, [], m.at_, m.caps.length⟩ := ⟨_, rfl⟩
            rw [show ([⟨true, [], m.at_, m.caps.length⟩] : List Choice) = cs ++ [c] by rw [hcs, hcd]; rfl] at hI4
            have hl1 : (cs ++ [c]).length = cs.length + 1 := by simp
            simp only [hl1] at hI4
            have hbig : (cs.length : Int) + 1 ≤ 4001 := by rw [hcs]; simp
            have hcap : cs.length ≤ hc4 := by rw [hcs]; exact Nat.zero_le _
            have hq : ((cs.length : Int) + 1 == 0) = false := by simp; omega
            have hncap : c.ncap ≤ m.caps.length := by rw [hcd]; exact Nat.le_refl _
            have HI4 := Lib.hid hI4
            obtain ⟨a4, i4, hab, hi4, hla, hI5⟩ := spec_pop hI4 rfl
            subst hab
            have hi5 : i4 = -2 := by rcases hi4 with ⟨_, h⟩ | ⟨h, _⟩; exact h; rw [hcd] at h; cases h
            subst hi5
            have HI5 := Lib.hid hI5
            have HLA4 := Lib.hid hla
            clear hI4 hI5 hla hi4 hcs hcd hl1
            rcases HI4.out.caps.2 with ⟨hcv, hB⟩ | ⟨g9, cap9, cur9, hcv, _, _, hcl, _, _⟩
            · obtain ⟨hA9, _, hC9⟩ : cA4 = none ∧ m.caps.length = 0 ∧ cc4 = 0 := by simpa using hcv
              subst hA9 hC9
              rw [show (m.caps.length) = 0 from hB] at HI4 HI5
              have hnc0 : c.ncap = 0 := by omega
              clear hcv
              have HI6 := Lib.hid (spec_cut_nil (k := c.ncap) ((HI5.out.setGoal (-2)).setAt c.at_) hnc0)
              obtain ⟨s0, s1, s2, s3, s4, s5⟩ := cells_s HI4.out.blk
              have f1 := frozen_of_row w4 M 1 _ _ HI4.out.blk
              have f2 := frozen_of_row w4 M 2 _ _ HI4.out.blk
              have f3 := frozen_of_row w4 M 3 _ _ HI4.out.blk
              have f4 := frozen_of_row w4 M 4 _ _ HI4.out.blk
              have hMlt := has_lt HI4.out.blk
              obtain ⟨c0, c1, c2⟩ := stop_cells (j := cs.length) HI4.out HLA4.out
              go_wp2_with fail
              go_roundg k
              case measure => omega
              case rel => exact ⟨n + 1, ⟨c.at_, m.caps.take c.ncap, m.events, cs⟩, gl4, _, c.at_, _, _, _, _, _, by go_num, by omega, (HI6.out.with_at c.at_).later ((Later.refl _).alloc _), .inl ⟨rfl, HPL.out.symm⟩⟩
            · obtain ⟨hA9, hC9⟩ : cA4 = some ⟨g9, 0, none⟩ ∧ cc4 = cap9 := by simpa using hcv
              subst hA9 hC9
              have hx1 : c.ncap ≤ cc4 := Nat.le_trans hncap hcl
              clear hcv
              have HI6 := Lib.hid (spec_cut (k := c.ncap) ((HI5.out.setGoal (-2)).setAt c.at_) hncap)
              obtain ⟨s0, s1, s2, s3, s4, s5⟩ := cells_s HI4.out.blk
              have f1 := frozen_of_row w4 M 1 _ _ HI4.out.blk
              have f2 := frozen_of_row w4 M 2 _ _ HI4.out.blk
              have f3 := frozen_of_row w4 M 3 _ _ HI4.out.blk
              have f4 := frozen_of_row w4 M 4 _ _ HI4.out.blk
              have hMlt := has_lt HI4.out.blk
              obtain ⟨c0, c1, c2⟩ := stop_cells (j := cs.length) HI4.out HLA4.out
              go_wp2_with fail
              go_roundg k
              case measure => omega
              case rel => exact ⟨n + 1, ⟨c.at_, m.caps.take c.ncap, m.events, cs⟩, gl4, _, c.at_, _, _, _, _, _, by go_num, by omega, (HI6.out.with_at c.at_).later ((Later.refl _).alloc _), .inl ⟨rfl, HPL.out.symm⟩⟩
          | fail =>
            rw [hst] at hdid
            obtain ⟨gl4, gi4, ai4, gv4, hv4, cv4, ev4, hs4, rfl, hI4, hl4⟩ := hdid
            have HST := Lib.hid hst
            clear hst
            obtain ⟨cA4, cc4, rfl, _, _⟩ := hI4.caps.form
            obtain ⟨eA4, ec4, rfl, _, _⟩ := hI4.evs.form
            have HB4 := Lib.hid ((hI4.below.block _ hz2).trans HRA.out)
            rcases List.eq_nil_or_concat m.choices with hcs | ⟨cs, c, hcs⟩
            · have hl0 : m.choices.length = 0 := by rw [hcs]; rfl
              obtain ⟨hA4, hc4, rfl, _, _⟩ := hI4.chs.form
              rw [play_none HST.out hcs] at HPL
              have HI4 := Lib.hid hI4
              clear hI4 hcs
              obtain ⟨s0, s1, s2, s3, s4, s5⟩ := cells_s HI4.out.blk
              obtain ⟨r0, r1, r2, r3, r4, r5, r6, r7⟩ := cells_r HB4.out
              obtain ⟨f0, f1, f2, f3, f4, f5, f6, f7⟩ := frozen_r HB4.out
              go_wp2_with fail
              refine bodyPost_ret (v := matchV ⟨false, false, false, 0, n + 1, [], m.events⟩ 0 (.slice none 0 0) (.slice eA4 m.events.length ec4)) (by simp [results, Try.results41, go_sem, r0, r1, r2, r3, r4, r5, r6, r7]) rfl ?_
              rw [← HPL.out]
              exact matchIs_mk (r := ⟨false, false, false, 0, n + 1, [], m.events⟩) (fr := 0) HLA.out (HasRow.nil _ _ _ _) HI4.out.evs (.inl rfl) HI4.out.below HB4.out hwz (((((((((OnlyAt.refl _ _).set _ _).set _ _).set _ _).set _ _).set _ _).set _ _).set _ _).set _ _)
            · rw [List.concat_eq_append] at hcs
              have hl1 : m.choices.length = cs.length + 1 := by rw [hcs]; simp
              have hbig : (cs.length : Int) + 1 ≤ 4001 := by have := HK.out.nch; omega
              obtain ⟨g4, hc4, hv, _, hcc, hcm⟩ := hI4.chs.block_ (by omega)
              rw [hl1] at hv
              subst hv
              have HCS := Lib.hid hcs
              have hcap : cs.length ≤ hc4 := by omega
              have HI4 := Lib.hid hI4
              obtain ⟨a4, i4, hab, hi4, hla, hI5⟩ := spec_pop hI4 hcs
              subst hab
              rw [play_last HST.out hcs] at HPL
              have hncap : c.ncap ≤ m.caps.length := HK.out.choices.le c (by rw [hcs]; simp)
              have HI5 := Lib.hid hI5
              have HLA4 := Lib.hid hla
              have hq : ((cs.length : Int) + 1 == 0) = false := by simp; omega
              clear hI4 hI5 hcs hla hl1
              rcases hi4 with ⟨hst4, hi5⟩ | ⟨hst4, hch4⟩
              · subst hi5
                rw [if_pos hst4] at HPL
                rcases HI4.out.caps.2 with ⟨hcv, hB⟩ | ⟨g9, cap9, cur9, hcv, _, _, hcl, _, _⟩
                · obtain ⟨hA9, _, hC9⟩ : cA4 = none ∧ m.caps.length = 0 ∧ cc4 = 0 := by simpa using hcv
                  subst hA9 hC9
                  rw [show (m.caps.length) = 0 from hB] at HI4 HI5
                  have hnc0 : c.ncap = 0 := by omega
                  clear hcv
                  have HI6 := Lib.hid (spec_cut_nil (k := c.ncap) ((HI5.out.setGoal (-2)).setAt c.at_) hnc0)
                  obtain ⟨s0, s1, s2, s3, s4, s5⟩ := cells_s HI4.out.blk
                  have f1 := frozen_of_row w4 M 1 _ _ HI4.out.blk
                  have f2 := frozen_of_row w4 M 2 _ _ HI4.out.blk
                  have f3 := frozen_of_row w4 M 3 _ _ HI4.out.blk
                  have f4 := frozen_of_row w4 M 4 _ _ HI4.out.blk
                  have hMlt := has_lt HI4.out.blk
                  obtain ⟨c0, c1, c2⟩ := stop_cells (j := cs.length) HI4.out HLA4.out
                  go_wp2_with fail
                  go_roundg k
                  case measure => omega
                  case rel => exact ⟨n + 1, ⟨c.at_, m.caps.take c.ncap, m.events, cs⟩, gl4, _, c.at_, _, _, _, _, _, by go_num, by omega, (HI6.out.with_at c.at_).later ((Later.refl _).alloc _), .inl ⟨rfl, HPL.out.symm⟩⟩
                · obtain ⟨hA9, hC9⟩ : cA4 = some ⟨g9, 0, none⟩ ∧ cc4 = cap9 := by simpa using hcv
                  subst hA9 hC9
                  have hx1 : c.ncap ≤ cc4 := Nat.le_trans hncap hcl
                  clear hcv
                  have HI6 := Lib.hid (spec_cut (k := c.ncap) ((HI5.out.setGoal (-2)).setAt c.at_) hncap)
                  obtain ⟨s0, s1, s2, s3, s4, s5⟩ := cells_s HI4.out.blk
                  have f1 := frozen_of_row w4 M 1 _ _ HI4.out.blk
                  have f2 := frozen_of_row w4 M 2 _ _ HI4.out.blk
                  have f3 := frozen_of_row w4 M 3 _ _ HI4.out.blk
                  have f4 := frozen_of_row w4 M 4 _ _ HI4.out.blk
                  have hMlt := has_lt HI4.out.blk
                  obtain ⟨c0, c1, c2⟩ := stop_cells (j := cs.length) HI4.out HLA4.out
                  go_wp2_with fail
                  go_roundg k
                  case measure => omega
                  case rel => exact ⟨n + 1, ⟨c.at_, m.caps.take c.ncap, m.events, cs⟩, gl4, _, c.at_, _, _, _, _, _, by go_num, by omega, (HI6.out.with_at c.at_).later ((Later.refl _).alloc _), .inl ⟨rfl, HPL.out.symm⟩⟩
              · rw [if_neg (by simp [hst4])] at HPL
                have HCH4 := Lib.hid hch4
                clear hch4
                rcases HI4.out.caps.2 with ⟨hcv, hB⟩ | ⟨g9, cap9, cur9, hcv, _, _, hcl, _, _⟩
                · obtain ⟨hA9, _, hC9⟩ : cA4 = none ∧ m.caps.length = 0 ∧ cc4 = 0 := by simpa using hcv
                  subst hA9 hC9
                  rw [show (m.caps.length) = 0 from hB] at HI4 HI5
                  have hnc0 : c.ncap = 0 := by omega
                  clear hcv
                  have HI6 := Lib.hid (spec_cut_nil (k := c.ncap) ((HI5.out.setGoal i4).setAt c.at_) hnc0)
                  obtain ⟨s0, s1, s2, s3, s4, s5⟩ := cells_s HI4.out.blk
                  have f1 := frozen_of_row w4 M 1 _ _ HI4.out.blk
                  have f2 := frozen_of_row w4 M 2 _ _ HI4.out.blk
                  have f3 := frozen_of_row w4 M 3 _ _ HI4.out.blk
                  have f4 := frozen_of_row w4 M 4 _ _ HI4.out.blk
                  have hMlt := has_lt HI4.out.blk
                  obtain ⟨c0, c1, c2⟩ := stop_cells (j := cs.length) HI4.out HLA4.out
                  go_wp2_with fail
                  go_roundg k
                  case measure => omega
                  case rel => exact ⟨n + 1, ⟨c.at_, m.caps.take c.ncap, m.events, cs⟩, gl4, _, c.at_, _, _, _, _, _, by go_num, by omega, (HI6.out.with_at c.at_).later ((Later.refl _).alloc _), .inr ⟨c.goals, by omega, rfl, HCH4.out, HK.out.pop HCS.out, by omega, HPL.out⟩⟩
                · obtain ⟨hA9, hC9⟩ : cA4 = some ⟨g9, 0, none⟩ ∧ cc4 = cap9 := by simpa using hcv
                  subst hA9 hC9
                  have hx1 : c.ncap ≤ cc4 := Nat.le_trans hncap hcl
                  clear hcv
                  have HI6 := Lib.hid (spec_cut (k := c.ncap) ((HI5.out.setGoal i4).setAt c.at_) hncap)
                  obtain ⟨s0, s1, s2, s3, s4, s5⟩ := cells_s HI4.out.blk
                  have f1 := frozen_of_row w4 M 1 _ _ HI4.out.blk
                  have f2 := frozen_of_row w4 M 2 _ _ HI4.out.blk
                  have f3 := frozen_of_row w4 M 3 _ _ HI4.out.blk
                  have f4 := frozen_of_row w4 M 4 _ _ HI4.out.blk
                  have hMlt := has_lt HI4.out.blk
                  obtain ⟨c0, c1, c2⟩ := stop_cells (j := cs.length) HI4.out HLA4.out
                  go_wp2_with fail
                  go_roundg k
                  case measure => omega
                  case rel => exact ⟨n + 1, ⟨c.at_, m.caps.take c.ncap, m.events, cs⟩, gl4, _, c.at_, _, _, _, _, _, by go_num, by omega, (HI6.out.with_at c.at_).later ((Later.refl _).alloc _), .inr ⟨c.goals, by omega, rfl, HCH4.out, HK.out.pop HCS.out, by omega, HPL.out⟩⟩

end Go.Proofs.Ytndefbecoahfhaa

/- MatchPattern of both sides, where they do not match; spec's, where it does. Printed by gen_mpno.py. -/
namespace Go.Proofs.Ytndefbecoahfhaa
open Go.RowKit

theorem l18Defs_is (b : Bool) (defs : List Pat) (A : Option Addr) (c : Nat) (p : Pat) (kv : Value) (w : World) (hs : Smalls defs) (hp : Small p) (hd : RowIn w A 0 defs) (hin : KidsIn w p kv) (hdl : defs.length ≤ 1099511627776) (hb : validD defs p = b) :
    Calls Try.prog 39 #[.slice A defs.length c, p.v kv] w fun e w' => e = .returned (.bool b) ∧ Below w.heap.size w w' := by
  subst hb
  exact l18Defs_any defs A c p kv w hs hp hd hin hdl

set_option maxRecDepth 100000 in
set_option maxHeartbeats 4000000 in
theorem implMatch_no (defs : List Pat) (dA : Option Addr) (dc : Nat) (p : Pat) (kv : Value) (s : ByteArray) (fr fuel : Int) (w : World) (hs : Smalls defs) (hp : Small p) (hd : RowIn w dA 0 defs) (hin : KidsIn w p kv) (hdl : defs.length ≤ 1099511627776) (hsl : s.size ≤ 1099511627776) (hno : answers defs p s fr fuel = false) :
    Calls Try.prog 11 #[.slice dA defs.length dc, p.v kv, .string s, .int .i64 fr, .int .i64 fuel] w (MatchIs w .none 0) := by
  obtain ⟨kA, kc, rfl, _, _⟩ := hin.form
  have HS := Lib.hid hs
  have HP := Lib.hid hp
  have HD := Lib.hid hd
  have HIN := Lib.hid hin
  clear hs hp hd hin
  by_cases hv : validD defs p = true
  · by_cases c1 : s.size ≤ 120
    · have c1 : ¬ ((120 : Int) < s.size) := by omega
      by_cases c2 : fr < 0
      · have HV := Lib.hid hv
        clear hv hno
        have t1 : decide ((120 : Int) < s.size) = false := by simpa using c1
        have t2 : decide (fr < 0) = true := by simpa using c2
        go_enter Try.func11, Try.ntmps11
        go_wp2_with fail
        have HLA := Lib.hid (((Later.refl w).alloc (Obj.cells #[.int .i64 p.op, .string p.text, .int .i64 p.num, .int .i64 p.lo, .int .i64 p.hi, .slice kA p.kids.length kc] TP)).alloc (Obj.cells zeroM TR))
        refine (validDefinitions_is true defs dA dc p _ _ HS.out HP.out (RowIn.later HLA.out _ _ _ HD.out) (KidsIn.later HLA.out _ _ HIN.out) hdl HV.out).mono ?_
        rintro e w2 ⟨rfl, hb2⟩
        have HR2 := Lib.hid (Later.has hb2 (heap_alloc_new _ _))
        simp only [World.size_alloc] at HR2
        have HL2 := Lib.hid (HLA.out.trans hb2)
        clear hb2 HLA
        obtain ⟨r0, r1, r2, r3, r4, r5, r6, r7⟩ := cells_r HR2.out
        obtain ⟨f0, f1, f2, f3, f4, f5, f6, f7⟩ := frozen_r HR2.out
        go_wp2_with fail
        refine bodyPost_ret (v := matchV .none 0 (.slice none 0 0) (.slice none 0 0)) (by simp [results, Try.results11, go_sem, r0, r1, r2, r3, r4, r5, r6, r7, Res.none]) rfl ?_
        exact ⟨_, _, rfl, HasRow.nil _ _ _ _, HasRow.nil _ _ _ _, .inl rfl, Below.trans HL2.out ((((((((((OnlyAt.refl _ _).set _ _).set _ _).set _ _).set _ _).set _ _).set _ _).set _ _).set _ _).1.mono (by omega))⟩
      · by_cases c3 : (s.size : Int) < fr
        · have HV := Lib.hid hv
          clear hv hno
          have t1 : decide ((120 : Int) < s.size) = false := by simpa using c1
          have t2 : decide (fr < 0) = false := by simpa using c2
          have t3 : decide ((s.size : Int) < fr) = true := by simpa using c3
          go_enter Try.func11, Try.ntmps11
          go_wp2_with fail
          have HLA := Lib.hid (((Later.refl w).alloc (Obj.cells #[.int .i64 p.op, .string p.text, .int .i64 p.num, .int .i64 p.lo, .int .i64 p.hi, .slice kA p.kids.length kc] TP)).alloc (Obj.cells zeroM TR))
          refine (validDefinitions_is true defs dA dc p _ _ HS.out HP.out (RowIn.later HLA.out _ _ _ HD.out) (KidsIn.later HLA.out _ _ HIN.out) hdl HV.out).mono ?_
          rintro e w2 ⟨rfl, hb2⟩
          have HR2 := Lib.hid (Later.has hb2 (heap_alloc_new _ _))
          simp only [World.size_alloc] at HR2
          have HL2 := Lib.hid (HLA.out.trans hb2)
          clear hb2 HLA
          obtain ⟨r0, r1, r2, r3, r4, r5, r6, r7⟩ := cells_r HR2.out
          obtain ⟨f0, f1, f2, f3, f4, f5, f6, f7⟩ := frozen_r HR2.out
          go_wp2_with fail
          refine bodyPost_ret (v := matchV .none 0 (.slice none 0 0) (.slice none 0 0)) (by simp [results, Try.results11, go_sem, r0, r1, r2, r3, r4, r5, r6, r7, Res.none]) rfl ?_
          exact ⟨_, _, rfl, HasRow.nil _ _ _ _, HasRow.nil _ _ _ _, .inl rfl, Below.trans HL2.out ((((((((((OnlyAt.refl _ _).set _ _).set _ _).set _ _).set _ _).set _ _).set _ _).set _ _).set _ _).1.mono (by omega))⟩
        · by_cases c4 : fuel < 0
          · have HV := Lib.hid hv
            clear hv hno
            have t1 : decide ((120 : Int) < s.size) = false := by simpa using c1
            have t2 : decide (fr < 0) = false := by simpa using c2
            have t3 : decide ((s.size : Int) < fr) = false := by simpa using c3
            have t4 : decide (fuel < 0) = true := by simpa using c4
            go_enter Try.func11, Try.ntmps11
            go_wp2_with fail
            have HLA := Lib.hid (((Later.refl w).alloc (Obj.cells #[.int .i64 p.op, .string p.text, .int .i64 p.num, .int .i64 p.lo, .int .i64 p.hi, .slice kA p.kids.length kc] TP)).alloc (Obj.cells zeroM TR))
            refine (validDefinitions_is true defs dA dc p _ _ HS.out HP.out (RowIn.later HLA.out _ _ _ HD.out) (KidsIn.later HLA.out _ _ HIN.out) hdl HV.out).mono ?_
            rintro e w2 ⟨rfl, hb2⟩
            have HR2 := Lib.hid (Later.has hb2 (heap_alloc_new _ _))
            simp only [World.size_alloc] at HR2
            have HL2 := Lib.hid (HLA.out.trans hb2)
            clear hb2 HLA
            obtain ⟨r0, r1, r2, r3, r4, r5, r6, r7⟩ := cells_r HR2.out
            obtain ⟨f0, f1, f2, f3, f4, f5, f6, f7⟩ := frozen_r HR2.out
            go_wp2_with fail
            refine bodyPost_ret (v := matchV .none 0 (.slice none 0 0) (.slice none 0 0)) (by simp [results, Try.results11, go_sem, r0, r1, r2, r3, r4, r5, r6, r7, Res.none]) rfl ?_
            exact ⟨_, _, rfl, HasRow.nil _ _ _ _, HasRow.nil _ _ _ _, .inl rfl, Below.trans HL2.out ((((((((((OnlyAt.refl _ _).set _ _).set _ _).set _ _).set _ _).set _ _).set _ _).set _ _).set _ _).1.mono (by omega))⟩
          · by_cases c5 : (4000 : Int) < fuel
            · have HV := Lib.hid hv
              clear hv hno
              have t1 : decide ((120 : Int) < s.size) = false := by simpa using c1
              have t2 : decide (fr < 0) = false := by simpa using c2
              have t3 : decide ((s.size : Int) < fr) = false := by simpa using c3
              have t4 : decide (fuel < 0) = false := by simpa using c4
              have t5 : decide ((4000 : Int) < fuel) = true := by simpa using c5
              go_enter Try.func11, Try.ntmps11
              go_wp2_with fail
              have HLA := Lib.hid (((Later.refl w).alloc (Obj.cells #[.int .i64 p.op, .string p.text, .int .i64 p.num, .int .i64 p.lo, .int .i64 p.hi, .slice kA p.kids.length kc] TP)).alloc (Obj.cells zeroM TR))
              refine (validDefinitions_is true defs dA dc p _ _ HS.out HP.out (RowIn.later HLA.out _ _ _ HD.out) (KidsIn.later HLA.out _ _ HIN.out) hdl HV.out).mono ?_
              rintro e w2 ⟨rfl, hb2⟩
              have HR2 := Lib.hid (Later.has hb2 (heap_alloc_new _ _))
              simp only [World.size_alloc] at HR2
              have HL2 := Lib.hid (HLA.out.trans hb2)
              clear hb2 HLA
              obtain ⟨r0, r1, r2, r3, r4, r5, r6, r7⟩ := cells_r HR2.out
              obtain ⟨f0, f1, f2, f3, f4, f5, f6, f7⟩ := frozen_r HR2.out
              go_wp2_with fail
              refine bodyPost_ret (v := matchV .none 0 (.slice none 0 0) (.slice none 0 0)) (by simp [results, Try.results11, go_sem, r0, r1, r2, r3, r4, r5, r6, r7, Res.none]) rfl ?_
              exact ⟨_, _, rfl, HasRow.nil _ _ _ _, HasRow.nil _ _ _ _, .inl rfl, Below.trans HL2.out ((((((((((OnlyAt.refl _ _).set _ _).set _ _).set _ _).set _ _).set _ _).set _ _).set _ _).set _ _).1.mono (by omega))⟩
            · exfalso
              simp [answers, hv] at hno
              omega
    · have c1 : (120 : Int) < s.size := by omega
      have HV := Lib.hid hv
      clear hv hno
      have t1 : decide ((120 : Int) < s.size) = true := by simpa using c1
      go_enter Try.func11, Try.ntmps11
      go_wp2_with fail
      have HLA := Lib.hid (((Later.refl w).alloc (Obj.cells #[.int .i64 p.op, .string p.text, .int .i64 p.num, .int .i64 p.lo, .int .i64 p.hi, .slice kA p.kids.length kc] TP)).alloc (Obj.cells zeroM TR))
      refine (validDefinitions_is true defs dA dc p _ _ HS.out HP.out (RowIn.later HLA.out _ _ _ HD.out) (KidsIn.later HLA.out _ _ HIN.out) hdl HV.out).mono ?_
      rintro e w2 ⟨rfl, hb2⟩
      have HR2 := Lib.hid (Later.has hb2 (heap_alloc_new _ _))
      simp only [World.size_alloc] at HR2
      have HL2 := Lib.hid (HLA.out.trans hb2)
      clear hb2 HLA
      obtain ⟨r0, r1, r2, r3, r4, r5, r6, r7⟩ := cells_r HR2.out
      obtain ⟨f0, f1, f2, f3, f4, f5, f6, f7⟩ := frozen_r HR2.out
      go_wp2_with fail
      refine bodyPost_ret (v := matchV .none 0 (.slice none 0 0) (.slice none 0 0)) (by simp [results, Try.results11, go_sem, r0, r1, r2, r3, r4, r5, r6, r7, Res.none]) rfl ?_
      exact ⟨_, _, rfl, HasRow.nil _ _ _ _, HasRow.nil _ _ _ _, .inl rfl, Below.trans HL2.out ((((((((((OnlyAt.refl _ _).set _ _).set _ _).set _ _).set _ _).set _ _).set _ _).set _ _).set _ _).1.mono (by omega))⟩
  · have hv : validD defs p = false := by simpa using hv
    have HV := Lib.hid hv
    clear hv hno
    go_enter Try.func11, Try.ntmps11
    go_wp2_with fail
    have HLA := Lib.hid (((Later.refl w).alloc (Obj.cells #[.int .i64 p.op, .string p.text, .int .i64 p.num, .int .i64 p.lo, .int .i64 p.hi, .slice kA p.kids.length kc] TP)).alloc (Obj.cells zeroM TR))
    refine (validDefinitions_is false defs dA dc p _ _ HS.out HP.out (RowIn.later HLA.out _ _ _ HD.out) (KidsIn.later HLA.out _ _ HIN.out) hdl HV.out).mono ?_
    rintro e w2 ⟨rfl, hb2⟩
    have HR2 := Lib.hid (Later.has hb2 (heap_alloc_new _ _))
    simp only [World.size_alloc] at HR2
    have HL2 := Lib.hid (HLA.out.trans hb2)
    clear hb2 HLA
    obtain ⟨r0, r1, r2, r3, r4, r5, r6, r7⟩ := cells_r HR2.out
    obtain ⟨f0, f1, f2, f3, f4, f5, f6, f7⟩ := frozen_r HR2.out
    go_wp2_with fail
    refine bodyPost_ret (v := matchV .none 0 (.slice none 0 0) (.slice none 0 0)) (by simp [results, Try.results11, go_sem, r0, r1, r2, r3, r4, r5, r6, r7, Res.none]) rfl ?_
    exact ⟨_, _, rfl, HasRow.nil _ _ _ _, HasRow.nil _ _ _ _, .inl rfl, Below.trans HL2.out ((((((((((OnlyAt.refl _ _).set _ _).set _ _).set _ _).set _ _).set _ _).set _ _).set _ _).set _ _).1.mono (by omega))⟩

set_option maxRecDepth 100000 in
set_option maxHeartbeats 4000000 in
theorem specMatch_no (defs : List Pat) (dA : Option Addr) (dc : Nat) (p : Pat) (kv : Value) (s : ByteArray) (fr fuel : Int) (w : World) (hs : Smalls defs) (hp : Small p) (hd : RowIn w dA 0 defs) (hin : KidsIn w p kv) (hdl : defs.length ≤ 1099511627776) (hsl : s.size ≤ 1099511627776) (hno : answers defs p s fr fuel = false) :
    Calls Try.prog 12 #[.slice dA defs.length dc, p.v kv, .string s, .int .i64 fr, .int .i64 fuel] w (MatchIs w .none 0) := by
  obtain ⟨kA, kc, rfl, _, _⟩ := hin.form
  have HS := Lib.hid hs
  have HP := Lib.hid hp
  have HD := Lib.hid hd
  have HIN := Lib.hid hin
  clear hs hp hd hin
  by_cases hv : validD defs p = true
  · by_cases c1 : s.size ≤ 120
    · have c1 : ¬ ((120 : Int) < s.size) := by omega
      cases hf : (decide (0 ≤ fr) && decide (fr ≤ (s.size : Int))) with
      | false =>
        have HV := Lib.hid hv
        have HF := Lib.hid hf
        clear hv hno hf
        have t1 : decide ((120 : Int) < s.size) = false := by simpa using c1
        go_enter Try.func12, Try.ntmps12
        go_wp2_with fail
        have HLA := Lib.hid (((Later.refl w).alloc (Obj.cells #[.int .i64 p.op, .string p.text, .int .i64 p.num, .int .i64 p.lo, .int .i64 p.hi, .slice kA p.kids.length kc] TP)).alloc (Obj.cells zeroM TR))
        refine (l18Defs_is true defs dA dc p _ _ HS.out HP.out (RowIn.later HLA.out _ _ _ HD.out) (KidsIn.later HLA.out _ _ HIN.out) hdl HV.out).mono ?_
        rintro e w2 ⟨rfl, hb2⟩
        have HR2 := Lib.hid (Later.has hb2 (heap_alloc_new _ _))
        simp only [World.size_alloc] at HR2
        have HL2 := Lib.hid (HLA.out.trans hb2)
        clear hb2 HLA
        go_wp2_with fail
        refine (l1In_is false _ _ _ _ HF.out).mono ?_
        rintro e w3 ⟨rfl, rfl⟩
        obtain ⟨r0, r1, r2, r3, r4, r5, r6, r7⟩ := cells_r HR2.out
        obtain ⟨f0, f1, f2, f3, f4, f5, f6, f7⟩ := frozen_r HR2.out
        go_wp2_with fail
        refine bodyPost_ret (v := matchV .none 0 (.slice none 0 0) (.slice none 0 0)) (by simp [results, Try.results12, go_sem, r0, r1, r2, r3, r4, r5, r6, r7, Res.none]) rfl ?_
        exact ⟨_, _, rfl, HasRow.nil _ _ _ _, HasRow.nil _ _ _ _, .inl rfl, Below.trans HL2.out ((((((((((OnlyAt.refl _ _).set _ _).set _ _).set _ _).set _ _).set _ _).set _ _).set _ _).set _ _).1.mono (by omega))⟩
      | true =>
        cases hu : (decide (0 ≤ fuel) && decide (fuel ≤ (4000 : Int))) with
        | false =>
          have HV := Lib.hid hv
          have HF := Lib.hid hf
          have HU := Lib.hid hu
          clear hv hno hf hu
          have t1 : decide ((120 : Int) < s.size) = false := by simpa using c1
          go_enter Try.func12, Try.ntmps12
          go_wp2_with fail
          have HLA := Lib.hid (((Later.refl w).alloc (Obj.cells #[.int .i64 p.op, .string p.text, .int .i64 p.num, .int .i64 p.lo, .int .i64 p.hi, .slice kA p.kids.length kc] TP)).alloc (Obj.cells zeroM TR))
          refine (l18Defs_is true defs dA dc p _ _ HS.out HP.out (RowIn.later HLA.out _ _ _ HD.out) (KidsIn.later HLA.out _ _ HIN.out) hdl HV.out).mono ?_
          rintro e w2 ⟨rfl, hb2⟩
          have HR2 := Lib.hid (Later.has hb2 (heap_alloc_new _ _))
          simp only [World.size_alloc] at HR2
          have HL2 := Lib.hid (HLA.out.trans hb2)
          clear hb2 HLA
          go_wp2_with fail
          refine (l1In_is true _ _ _ _ HF.out).mono ?_
          rintro e w3 ⟨rfl, rfl⟩
          go_wp2_with fail
          refine (l1In_is false _ _ _ _ HU.out).mono ?_
          rintro e w3 ⟨rfl, rfl⟩
          obtain ⟨r0, r1, r2, r3, r4, r5, r6, r7⟩ := cells_r HR2.out
          obtain ⟨f0, f1, f2, f3, f4, f5, f6, f7⟩ := frozen_r HR2.out
          go_wp2_with fail
          refine bodyPost_ret (v := matchV .none 0 (.slice none 0 0) (.slice none 0 0)) (by simp [results, Try.results12, go_sem, r0, r1, r2, r3, r4, r5, r6, r7, Res.none]) rfl ?_
          exact ⟨_, _, rfl, HasRow.nil _ _ _ _, HasRow.nil _ _ _ _, .inl rfl, Below.trans HL2.out ((((((((((OnlyAt.refl _ _).set _ _).set _ _).set _ _).set _ _).set _ _).set _ _).set _ _).set _ _).1.mono (by omega))⟩
        | true =>
          exfalso
          simp only [Bool.and_eq_true, decide_eq_true_eq] at hf hu
          simp [answers, hv] at hno
          omega
    · have c1 : (120 : Int) < s.size := by omega
      have HV := Lib.hid hv
      clear hv hno
      have t1 : decide ((120 : Int) < s.size) = true := by simpa using c1
      go_enter Try.func12, Try.ntmps12
      go_wp2_with fail
      have HLA := Lib.hid (((Later.refl w).alloc (Obj.cells #[.int .i64 p.op, .string p.text, .int .i64 p.num, .int .i64 p.lo, .int .i64 p.hi, .slice kA p.kids.length kc] TP)).alloc (Obj.cells zeroM TR))
      refine (l18Defs_is true defs dA dc p _ _ HS.out HP.out (RowIn.later HLA.out _ _ _ HD.out) (KidsIn.later HLA.out _ _ HIN.out) hdl HV.out).mono ?_
      rintro e w2 ⟨rfl, hb2⟩
      have HR2 := Lib.hid (Later.has hb2 (heap_alloc_new _ _))
      simp only [World.size_alloc] at HR2
      have HL2 := Lib.hid (HLA.out.trans hb2)
      clear hb2 HLA
      obtain ⟨r0, r1, r2, r3, r4, r5, r6, r7⟩ := cells_r HR2.out
      obtain ⟨f0, f1, f2, f3, f4, f5, f6, f7⟩ := frozen_r HR2.out
      go_wp2_with fail
      refine bodyPost_ret (v := matchV .none 0 (.slice none 0 0) (.slice none 0 0)) (by simp [results, Try.results12, go_sem, r0, r1, r2, r3, r4, r5, r6, r7, Res.none]) rfl ?_
      exact ⟨_, _, rfl, HasRow.nil _ _ _ _, HasRow.nil _ _ _ _, .inl rfl, Below.trans HL2.out ((((((((((OnlyAt.refl _ _).set _ _).set _ _).set _ _).set _ _).set _ _).set _ _).set _ _).set _ _).1.mono (by omega))⟩
  · have hv : validD defs p = false := by simpa using hv
    have HV := Lib.hid hv
    clear hv hno
    go_enter Try.func12, Try.ntmps12
    go_wp2_with fail
    have HLA := Lib.hid (((Later.refl w).alloc (Obj.cells #[.int .i64 p.op, .string p.text, .int .i64 p.num, .int .i64 p.lo, .int .i64 p.hi, .slice kA p.kids.length kc] TP)).alloc (Obj.cells zeroM TR))
    refine (l18Defs_is false defs dA dc p _ _ HS.out HP.out (RowIn.later HLA.out _ _ _ HD.out) (KidsIn.later HLA.out _ _ HIN.out) hdl HV.out).mono ?_
    rintro e w2 ⟨rfl, hb2⟩
    have HR2 := Lib.hid (Later.has hb2 (heap_alloc_new _ _))
    simp only [World.size_alloc] at HR2
    have HL2 := Lib.hid (HLA.out.trans hb2)
    clear hb2 HLA
    obtain ⟨r0, r1, r2, r3, r4, r5, r6, r7⟩ := cells_r HR2.out
    obtain ⟨f0, f1, f2, f3, f4, f5, f6, f7⟩ := frozen_r HR2.out
    go_wp2_with fail
    refine bodyPost_ret (v := matchV .none 0 (.slice none 0 0) (.slice none 0 0)) (by simp [results, Try.results12, go_sem, r0, r1, r2, r3, r4, r5, r6, r7, Res.none]) rfl ?_
    exact ⟨_, _, rfl, HasRow.nil _ _ _ _, HasRow.nil _ _ _ _, .inl rfl, Below.trans HL2.out ((((((((((OnlyAt.refl _ _).set _ _).set _ _).set _ _).set _ _).set _ _).set _ _).set _ _).set _ _).1.mono (by omega))⟩

set_option maxRecDepth 100000 in
set_option maxHeartbeats 4000000 in
theorem specMatch_play (defs : List Pat) (dA : Option Addr) (dc : Nat) (p : Pat) (kv : Value) (s : ByteArray) (fr fuel : Nat) (w : World) (hs : Smalls defs) (hp : Small p) (hd : RowIn w dA 0 defs) (hin : KidsIn w p kv) (hvd : validD defs p = true)
    (hss : s.size ≤ 120) (hfr : fr ≤ s.size) (hfu : fuel ≤ 4000) :
    Calls Try.prog 12 #[.slice dA defs.length dc, p.v kv, .string s, .int .i64 fr, .int .i64 fuel] w (MatchIs w (play defs s fuel 0 [⟨0, p, 0⟩] (.start fr)) (matchFrom (play defs s fuel 0 [⟨0, p, 0⟩] (.start fr)) fr)) := by
  obtain ⟨kA, kc, rfl, _, _⟩ := hin.form
  have hlen : defs.length ≤ 24 := (validD_defs hvd hs).1.len
  have HS := Lib.hid hs
  have HP := Lib.hid hp
  have HD := Lib.hid hd
  have HIN := Lib.hid hin
  clear hs hp hd hin
  have HV := Lib.hid hvd
  obtain ⟨R, hR⟩ : ∃ R, play defs s fuel 0 [⟨0, p, 0⟩] (.start fr) = R := ⟨_, rfl⟩
  rw [hR]
  have HRES := Lib.hid hR
  clear hR
  have t1 : decide ((120 : Int) < s.size) = false := by simp; omega
  have HF : Hid ((decide (0 ≤ (fr : Int)) && decide ((fr : Int) ≤ (s.size : Int))) = true) := Lib.hid (by simp; omega)
  have HU : Hid ((decide (0 ≤ (fuel : Int)) && decide ((fuel : Int) ≤ (4000 : Int))) = true) := Lib.hid (by simp; omega)
  clear hvd
  go_enter Try.func12, Try.ntmps12
  go_wp2_with fail
  have HLA := Lib.hid (((Later.refl w).alloc (Obj.cells #[.int .i64 p.op, .string p.text, .int .i64 p.num, .int .i64 p.lo, .int .i64 p.hi, .slice kA p.kids.length kc] TP)).alloc (Obj.cells zeroM TR))
  refine (l18Defs_is true defs dA dc p _ _ HS.out HP.out (RowIn.later HLA.out _ _ _ HD.out) (KidsIn.later HLA.out _ _ HIN.out) (by omega) HV.out).mono ?_
  rintro e w2 ⟨rfl, hb2⟩
  have HR2 := Lib.hid (Later.has hb2 (heap_alloc_new _ _))
  have HP2 := Lib.hid (Later.has hb2 (((Later.refl _).alloc _).has (heap_alloc_new w _)))
  simp only [World.size_alloc] at HR2
  have HL2 := Lib.hid (HLA.out.trans hb2)
  clear hb2 HLA
  obtain ⟨p0, p1, p2, p3, p4, p5⟩ := cells_p HP2.out
  go_wp2_with fail
  refine (l1In_is true _ _ _ _ HF.out).mono ?_
  rintro e w3 ⟨rfl, rfl⟩
  go_wp2_with fail
  refine (l1In_is true _ _ _ _ HU.out).mono ?_
  rintro e w3 ⟨rfl, rfl⟩
  go_wp2_with fail
  refine (l20Match_play defs dA dc p _ s fr fuel _ HS.out HP.out (RowIn.later HL2.out _ _ _ HD.out) (KidsIn.later HL2.out _ _ HIN.out) HV.out hss hfr hfu).mono ?_
  rw [HRES.out]
  rintro e w4 ⟨cv, ev, rfl, h1, h2, h3, h4⟩
  obtain ⟨cA, cc, rfl, _, _⟩ := h1.form
  obtain ⟨eA, ec, rfl, _, _⟩ := h2.form
  have H1 := Lib.hid h1
  have H2 := Lib.hid h2
  have H3 := Lib.hid h3
  have H4 := Lib.hid h4
  have HR4 := Lib.hid (Later.has h4 HR2.out)
  clear h1 h2 h3 h4 p0 p1 p2 p3 p4 p5
  obtain ⟨r0, r1, r2, r3, r4, r5, r6, r7⟩ := cells_r HR4.out
  obtain ⟨f0, f1, f2, f3, f4, f5, f6, f7⟩ := frozen_r HR4.out
  go_wp2_with fail
  refine bodyPost_ret (v := matchV R (matchFrom R fr) (.slice cA R.caps.length cc) (.slice eA R.events.length ec)) (by simp [results, Try.results12, go_sem, r0, r1, r2, r3, r4, r5, r6, r7]) rfl ?_
  exact matchIs_mk HL2.out H1.out H2.out H3.out H4.out HR4.out (by omega) (((((((((OnlyAt.refl _ _).set _ _).set _ _).set _ _).set _ _).set _ _).set _ _).set _ _).set _ _)

end Go.Proofs.Ytndefbecoahfhaa

/- MatchPattern of both sides at every argument: one answer. -/
namespace Go.Proofs.Ytndefbecoahfhaa
open Go.RowKit

theorem answers_parts {defs : List Pat} {p : Pat} {s : ByteArray} {fr fuel : Int} (h : answers defs p s fr fuel = true) : validD defs p = true ∧ s.size ≤ 120 ∧ 0 ≤ fr ∧ fr ≤ s.size ∧ 0 ≤ fuel ∧ fuel ≤ 4000 := by
  simp only [answers, Bool.and_eq_true, decide_eq_true_eq] at h
  exact ⟨h.1.1.1.1.1, h.1.1.1.1.2, h.1.1.1.2, h.1.1.2, h.1.2, h.2⟩

section
variable (defs : List Pat) (dA : Option Addr) (dc : Nat) (p : Pat) (kv : Value) (s : ByteArray) (fr fuel : Int) (w : World) (hs : Smalls defs) (hp : Small p) (hd : RowIn w dA 0 defs) (hin : KidsIn w p kv) (hdl : defs.length ≤ 1099511627776) (hsl : s.size ≤ 1099511627776)
include hs hp hd hin hdl hsl
theorem implMatch_any : Calls Try.prog 11 #[.slice dA defs.length dc, p.v kv, .string s, .int .i64 fr, .int .i64 fuel] w (MatchIs w (matchRes defs p s fr fuel) (matchFrom (matchRes defs p s fr fuel) fr)) := by
  cases ha : answers defs p s fr fuel with
  | false =>
    rw [show matchRes defs p s fr fuel = .none by simp [matchRes, ha]]
    exact implMatch_no defs dA dc p kv s fr fuel w hs hp hd hin hdl hsl ha
  | true =>
    obtain ⟨h1, h2, h3, h4, h5, h6⟩ := answers_parts ha
    rw [show matchRes defs p s fr fuel = play defs s fuel.toNat 0 [⟨0, p, 0⟩] (.start fr.toNat) by simp [matchRes, ha]]
    have := matchPattern_play defs dA dc p kv s fr.toNat fuel.toNat w hs hp hd hin h1 h2 (by omega) (by omega)
    rw [Int.toNat_of_nonneg h3, Int.toNat_of_nonneg h5] at this
    exact this
theorem specMatch_any : Calls Try.prog 12 #[.slice dA defs.length dc, p.v kv, .string s, .int .i64 fr, .int .i64 fuel] w (MatchIs w (matchRes defs p s fr fuel) (matchFrom (matchRes defs p s fr fuel) fr)) := by
  cases ha : answers defs p s fr fuel with
  | false =>
    rw [show matchRes defs p s fr fuel = .none by simp [matchRes, ha]]
    exact specMatch_no defs dA dc p kv s fr fuel w hs hp hd hin hdl hsl ha
  | true =>
    obtain ⟨h1, h2, h3, h4, h5, h6⟩ := answers_parts ha
    rw [show matchRes defs p s fr fuel = play defs s fuel.toNat 0 [⟨0, p, 0⟩] (.start fr.toNat) by simp [matchRes, ha]]
    have := specMatch_play defs dA dc p kv s fr.toNat fuel.toNat w hs hp hd hin h1 h2 (by omega) (by omega)
    rw [Int.toNat_of_nonneg h3, Int.toNat_of_nonneg h5] at this
    exact this
end
end Go.Proofs.Ytndefbecoahfhaa

/- What the laws' walks are said with. No walk in sight. -/
namespace Go.Proofs.Ytndefbecoahfhaa
open Go.RowKit

/-! ### How long an answer can be -/
theorem play_len {defs : List Pat} {s : ByteArray} (hd : DefsOk defs) (hs : s.size ≤ 120) : ∀ (k n : Nat) (gs : List Goal) (m : Mst), Ok defs s n gs m → (play defs s k n gs m).caps.length ≤ n + k ∧ (play defs s k n gs m).events.length ≤ n + k
  | k, n, [], m, h => by
    rw [play_nil]
    have h1 := h.ncap
    have h2 := h.nev
    exact ⟨by show m.caps.length ≤ _; omega, by show m.events.length ≤ _; omega⟩
  | 0, n, g :: gs, m, h => by
    rw [play_zero]
    have h2 := h.nev
    exact ⟨Nat.zero_le _, by show m.events.length ≤ _; omega⟩
  | k + 1, n, g :: gs, m, h => by
    have h2 := h.nev
    cases hst : step defs s g gs m with
    | go gs' m' =>
      rw [play_go hst]
      have := play_len hd hs k (n + 1) gs' m' (step_ok hd hs h hst)
      omega
    | stop =>
      rw [play_stop hst]
      exact ⟨Nat.zero_le _, by show m.events.length ≤ _; omega⟩
    | fail =>
      rcases List.eq_nil_or_concat m.choices with hc | ⟨cs, c, hc⟩
      · rw [play_none hst hc]
        exact ⟨Nat.zero_le _, by show m.events.length ≤ _; omega⟩
      · rw [List.concat_eq_append] at hc
        rw [play_last hst hc]
        by_cases hst' : c.stop = true
        · rw [if_pos hst']
          exact ⟨Nat.zero_le _, by show m.events.length ≤ _; omega⟩
        · rw [if_neg hst']
          have := play_len hd hs k (n + 1) c.goals _ (h.pop hc)
          omega
theorem matchRes_len {defs : List Pat} {p : Pat} {s : ByteArray} {fr fuel : Int} (hs : Smalls defs) (hp : Small p) : (matchRes defs p s fr fuel).caps.length ≤ 4000 ∧ (matchRes defs p s fr fuel).events.length ≤ 4000 := by
  unfold matchRes
  cases ha : answers defs p s fr fuel with
  | false => exact ⟨Nat.zero_le _, Nat.zero_le _⟩
  | true =>
    obtain ⟨h1, h2, h3, h4, h5, h6⟩ := answers_parts ha
    obtain ⟨hd, hv⟩ := validD_defs h1 hs
    have := play_len hd h2 fuel.toNat 0 [⟨0, p, 0⟩] (.start fr.toNat) (ok_start hv hp (by omega))
    exact ⟨by show (play _ _ _ _ _ _).caps.length ≤ _; omega, by show (play _ _ _ _ _ _).events.length ≤ _; omega⟩

/-! ### The helpers at every row -/
theorem szP_mem (ps : List Pat) (j : Nat) (h : j < ps.length) : szP ps[j] ≤ szAll ps := by
  have h1 := szAll_take_succ ps j h
  have h2 := szAll_take_le ps (j + 1)
  omega
theorem szS_any (ps : List Pat) (A : Option Addr) (c : Nat) (w : World) (l : Int) (hl0 : 0 ≤ l) (hl1 : l ≤ 1048576) (hc : ps.length ≤ c) (hcm : c ≤ maxLen) (hr : LRow w A 0 ps) :
    Calls Try.prog 14 #[.slice A ps.length c, .int .i64 l] w fun e w' => e = .returned (.int .i64 (leftOf (ps.length + szAll ps) l)) ∧ Below w.heap.size w w' :=
  szS_of ps A c w l hl0 hl1 hc hcm hr (fun j _ kv x l h0 h1 hk => sz_any (count ps[j]) _ kv x l (Nat.le_refl _) h0 h1 hk)
theorem toS_any (ps : List Pat) (A : Option Addr) (c : Nat) (w : World) (hn : ps.length + szAll ps ≤ 1048576) (hr : LRow w A 0 ps) :
    Calls Try.prog 16 #[.slice A ps.length c] w fun e w' => ∃ A' c', e = .returned (.slice A' ps.length c') ∧ ps.length ≤ c' ∧ RowB w.heap.size w' A' 0 ps ∧ Below w.heap.size w w' :=
  toS_of ps A c w (by omega) hr (fun j h kv x hk => to_any (count ps[j]) _ kv x (Nat.le_refl _) (by have := count_sz ps[j]; have := szP_mem ps j h; omega) hk)
theorem toP_any (p : Pat) (kv : Value) (w : World) (hn : szP p ≤ 1048576) (hk : LKids w p kv) :
    Calls Try.prog 17 #[p.v kv] w fun e w' => ∃ kv', e = .returned (p.v kv') ∧ KidsB w.heap.size w' p kv' ∧ Below w.heap.size w w' :=
  to_any (count p) p kv w (Nat.le_refl _) (by have := count_sz p; omega) hk
theorem eqS_any (ps : List Pat) (A B : Option Addr) (c d : Nat) (w : World) (hn : ps.length + szAll ps ≤ 1048576) (hr : RowIn w A 0 ps) (hq : RowIn w B 0 ps) :
    Calls Try.prog 19 #[.slice A ps.length c, .slice B ps.length d] w fun e w' => e = .returned (.bool true) ∧ Below w.heap.size w w' :=
  eqS_of ps A B c d w (by omega) hr hq (fun j h kv kv' x h1 h2 => eq_any (count ps[j]) _ kv kv' x (Nat.le_refl _) (by have := count_sz ps[j]; have := szP_mem ps j h; omega) h1 h2)
theorem eqP_any (p : Pat) (kv kv' : Value) (w : World) (hn : szP p ≤ 1048576) (h1 : KidsIn w p kv) (h2 : KidsIn w p kv') :
    Calls Try.prog 20 #[p.v kv, p.v kv'] w fun e w' => e = .returned (.bool true) ∧ Below w.heap.size w w' :=
  eq_any (count p) p kv kv' w (Nat.le_refl _) (by have := count_sz p; omega) h1 h2
theorem smalls_of (ps : List Pat) (hn : ps.length + szAll ps ≤ 1048576) : Smalls ps := fun j h => by have := count_sz ps[j]; have := szP_mem ps j h; unfold Small; omega
theorem small_of (p : Pat) (hn : szP p ≤ 1048576) : Small p := by have := count_sz p; unfold Small; omega

/-! ### A match in a variable -/
structure MAt (w : World) (b lo : Nat) (r : Res) (fr : Int) (cv ev : Value) : Prop where
  blk : w.heap[b]? = some (.cells #[.bool r.found, .bool r.stopped, .bool r.exhausted, .int .i64 fr, .int .i64 r.at_, .int .i64 r.steps, cv, ev] TR (0, 0))
  caps : HasRow w lo TK 3 cv r.caps.length (capCells r.caps)
  evs : HasRow w lo TK 3 ev r.events.length (capCells r.events)
  apart : cv.ownBlock = none ∨ cv.ownBlock ≠ ev.ownBlock
section
variable {w x : World} {b lo : Nat} {r : Res} {fr : Int} {cv ev : Value}
theorem row_keep {w x : World} {base : Nat} {e : TypeId} {size : Nat} {v : Value} {n : Nat} {xs : List Value} (h : HasRow w base e size v n xs) (hk : KeepT e w x) : HasRow x base e size v n xs :=
  h.same fun k hb => by obtain ⟨_, _, c, hc⟩ := h.lt k hb; rw [hk k c hc, hc]
theorem MAt.keep (h : MAt w b lo r fr cv ev) (h1 : KeepT TR w x) (h2 : KeepT TK w x) : MAt x b lo r fr cv ev := ⟨h1 b _ h.blk, row_keep h.caps h2, row_keep h.evs h2, h.apart⟩
theorem MAt.later (h : MAt w b lo r fr cv ev) (hl : Later w x) : MAt x b lo r fr cv ev := h.keep (KeepT.later hl) (KeepT.later hl)
theorem MAt.marked {base top : Nat} (h : MAt w b lo r fr cv ev) (hm : Marked base top w x) : MAt x b lo r fr cv ev := h.keep (hm.keep TR (by decide)) (hm.keep TK (by decide))
/-- A match is put into a variable. -/
theorem MAt.made {w0 w : World} (h1 : HasRow w w0.heap.size TK 3 cv r.caps.length (capCells r.caps)) (h2 : HasRow w w0.heap.size TK 3 ev r.events.length (capCells r.events)) (ha : cv.ownBlock = none ∨ cv.ownBlock ≠ ev.ownBlock) :
    MAt (w.alloc (.cells #[.bool r.found, .bool r.stopped, .bool r.exhausted, .int .i64 fr, .int .i64 r.at_, .int .i64 r.steps, cv, ev] TR)) w.heap.size w0.heap.size r fr cv ev :=
  ⟨heap_alloc_new w _, row_keep h1 (KeepT.alloc _ _), row_keep h2 (KeepT.alloc _ _), ha⟩
theorem MAt.stored {w0 w : World} {RB : Nat} (h1 : HasRow w w0.heap.size TK 3 cv r.caps.length (capCells r.caps)) (h2 : HasRow w w0.heap.size TK 3 ev r.events.length (capCells r.events)) (ha : cv.ownBlock = none ∨ cv.ownBlock ≠ ev.ownBlock) (hz : w.heap[RB]? = some (.cells zeroM TR (0, 0))) :
    MAt ((((((((w.setCell ⟨RB, 0, none⟩ (.bool r.found)).setCell ⟨RB, 1, none⟩ (.bool r.stopped)).setCell ⟨RB, 2, none⟩ (.bool r.exhausted)).setCell ⟨RB, 3, none⟩ (.int .i64 fr)).setCell ⟨RB, 4, none⟩ (.int .i64 r.at_)).setCell ⟨RB, 5, none⟩ (.int .i64 r.steps)).setCell ⟨RB, 6, none⟩ cv).setCell ⟨RB, 7, none⟩ ev) RB w0.heap.size r fr cv ev := by
  have h0_ := heap_set_own (o := 0) hz (.bool r.found)
  have o0_ := OnlyAt.set (OnlyAt.refl RB w) 0 (.bool r.found)
  have h1_ := heap_set_own (o := 1) h0_ (.bool r.stopped)
  have o1_ := OnlyAt.set o0_ 1 (.bool r.stopped)
  have h2_ := heap_set_own (o := 2) h1_ (.bool r.exhausted)
  have o2_ := OnlyAt.set o1_ 2 (.bool r.exhausted)
  have h3_ := heap_set_own (o := 3) h2_ (.int .i64 fr)
  have o3_ := OnlyAt.set o2_ 3 (.int .i64 fr)
  have h4_ := heap_set_own (o := 4) h3_ (.int .i64 r.at_)
  have o4_ := OnlyAt.set o3_ 4 (.int .i64 r.at_)
  have h5_ := heap_set_own (o := 5) h4_ (.int .i64 r.steps)
  have o5_ := OnlyAt.set o4_ 5 (.int .i64 r.steps)
  have h6_ := heap_set_own (o := 6) h5_ cv
  have o6_ := OnlyAt.set o5_ 6 cv
  have h7_ := heap_set_own (o := 7) h6_ ev
  have o7_ := OnlyAt.set o6_ 7 ev
  simp only [List.setIfInBounds_toArray, List.set_cons_zero, List.set_cons_succ] at h7_
  exact ⟨h7_, o7_.row h1 hz (by decide), o7_.row h2 hz (by decide), ha⟩
/-- Behind a region that makes a match. -/
def CutM (w : World) (R : Res) (FR : Int) (s : Value) (x : World) : Prop :=
  ∃ B lo cv ev, s = .pointer (some ⟨B, 0, none⟩) ∧ MAt x B lo R FR cv ev ∧ Later w x ∧ w.heap.size ≤ lo
theorem Later.trans_set {w x y : World} {b : Nat} (h : Later w x) (ho : OnlyAt b x y) (hb : w.heap.size ≤ b) : Later w y := Below.trans h (ho.1.mono hb)
/-- The marks of one match leave another alone that was there before. -/
theorem MAt.apart_from {lo' : Nat} {cv' ev' : Value} {r' : Res} {fr' : Int} {b' top : Nat} (h : MAt w b lo r fr cv ev) (h' : MAt w b' lo' r' fr' cv' ev') (hb : b < top) (hcv : ∀ k, cv.ownBlock = some k → k < lo') (hev : ∀ k, ev.ownBlock = some k → k < lo') (hsz : top ≤ w.heap.size)
    (hk : ∀ k, k < w.heap.size → cv'.ownBlock ≠ some k → ev'.ownBlock ≠ some k → x.heap[k]? = w.heap[k]?) : MAt x b lo r fr cv ev := by
  have n1 : ∀ k, k < lo' → cv'.ownBlock ≠ some k := fun k hlt e => by have := (h'.caps.lt k e).1; omega
  have n2 : ∀ k, k < lo' → ev'.ownBlock ≠ some k := fun k hlt e => by have := (h'.evs.lt k e).1; omega
  refine ⟨?_, h.caps.same fun k hk' => hk k (h.caps.lt k hk').2.1 (n1 k (hcv k hk')) (n2 k (hcv k hk')), h.evs.same fun k hk' => hk k (h.evs.lt k hk').2.1 (n1 k (hev k hk')) (n2 k (hev k hk')), h.apart⟩
  rw [hk b (by omega) (row_ne_blk h'.caps h.blk (by decide)) (row_ne_blk h'.evs h.blk (by decide))]
  exact h.blk
end
end Go.Proofs.Ytndefbecoahfhaa

/- How the laws' patterns are read: an argument's reading gives the tree. No walk in sight. -/
namespace Go.Proofs.Ytndefbecoahfhaa
open Go.ChangeShapes Go.WideShapes Go.ChangeAt Go.RowKit

abbrev LP : TypeId := 39
abbrev LS : TypeId := 36
abbrev LC : TypeId := 37

theorem lrow_mk {w : World} {b o : Nat} (hb : b < w.heap.size) : ∀ (ps : List Pat) (j : Nat), (∀ i (h : i < ps.length), ∃ kv, LElem w b (o + (j + i) * 6) ps[i] kv ∧ LKids w ps[i] kv) → LRow w (some ⟨b, o, none⟩) j ps
  | [], _, _ => by simp only [LRow]
  | p :: ps, j, h => by
    simp only [LRow]
    obtain ⟨kv, h1, h2⟩ := h 0 (by simp)
    exact ⟨⟨b, o, kv, rfl, hb, by simpa using h1, by simpa using h2⟩, lrow_mk hb ps (j + 1) (fun i hi => by
      obtain ⟨kv, h1, h2⟩ := h (i + 1) (by simpa using hi)
      exact ⟨kv, by rw [show j + 1 + i = j + (i + 1) by omega]; simpa using h1, by simpa using h2⟩)⟩

theorem cell_spot {w : World} {a : Addr} {v : Value} (h : w.cell? a = some v) : a.spot = none ∧ a.block < w.heap.size := by
  unfold World.cell? at h
  rcases hh : w.heap[a.block]? with _ | o
  · rw [hh] at h; cases h
  · refine ⟨?_, (Array.getElem?_eq_some_iff.1 hh).1⟩
    rw [hh] at h
    cases o <;> simp at h
    exact h.1

set_option maxRecDepth 100000 in
theorem u_lp : ∃ f0 f1 f2 f3 f4, Try.prog.underlying LP = some (.struct #[f0, f1, f2, f3, f4]) ∧ (f0.type = 3 ∧ f0.offset = 0) ∧ (f1.type = 9 ∧ f1.offset = 1) ∧ (f2.type = 3 ∧ f2.offset = 2) ∧ (f3.type = LC ∧ f3.offset = 3) ∧ (f4.type = LS ∧ f4.offset = 5) :=
  ⟨_, _, _, _, _, Try.underlying39, ⟨rfl, rfl⟩, ⟨rfl, rfl⟩, ⟨rfl, rfl⟩, ⟨rfl, rfl⟩, ⟨rfl, rfl⟩⟩
set_option maxRecDepth 100000 in
theorem u_lc : ∃ f0 f1, Try.prog.underlying LC = some (.struct #[f0, f1]) ∧ (f0.type = 3 ∧ f0.offset = 0) ∧ (f1.type = 3 ∧ f1.offset = 1) :=
  ⟨_, _, Try.underlying37, ⟨rfl, rfl⟩, ⟨rfl, rfl⟩⟩
theorem c_lp : Try.prog.cellsOf LP = 6 := by kernel_rfl
theorem c_lc : Try.prog.cellsOf LC = 2 := by kernel_rfl
theorem c_ls : Try.prog.cellsOf LS = 1 := by kernel_rfl
theorem c_int : Try.prog.cellsOf 3 = 1 := by kernel_rfl
theorem c_str : Try.prog.cellsOf 9 = 1 := by kernel_rfl

section
variable {H : Type} {enc : TypeId × Value → H} {w : World} {spare : Nat → Bool} {held : Bool}

set_option maxRecDepth 100000 in
theorem open_pats (n : Nat) :
    (∀ (cs : List Value) (x : DataW H × List MemPlace), DataW.trod enc Try.prog w 0 spare held n LP cs = some x → ∃ (p : Pat) (kv : Value), cs = [.int .i64 p.op, .string p.text, .int .i64 p.num, .int .i64 p.lo, .int .i64 p.hi, kv] ∧ LKids w p kv) ∧
    (∀ (cs : List Value) (x : DataW H × List MemPlace), DataW.trod enc Try.prog w 0 spare held n LS cs = some x → ∃ (ps : List Pat) (A : Option Addr) (c : Nat), cs = [.slice A ps.length c] ∧ ps.length ≤ c ∧ c ≤ maxLen ∧ LRow w A 0 ps) := by
  induction n with
  | zero => exact ⟨fun cs x h => (by simp [DataW.trod] at h), fun cs x h => (by simp [DataW.trod] at h)⟩
  | succ n ih =>
    constructor
    · intro cs x h
      obtain ⟨f0, f1, f2, f3, f4, hu, ⟨t0, o0⟩, ⟨t1, o1⟩, ⟨t2, o2⟩, ⟨t3, o3⟩, ⟨t4, o4⟩⟩ := u_lp
      obtain ⟨xs, m, hm, _, hlen, hxl, hg⟩ := DataW.trod_struct hu h
      obtain rfl : m = n := by omega
      rw [c_lp] at hlen
      match cs, hlen with
      | [c0, c1, c2, c3, c4, c5], _ =>
        match xs, hxl with
        | [y0, y1, y2, y3, y4], _ =>
          have g0 := hg 0 f0 rfl
          have g1 := hg 1 f1 rfl
          have g2 := hg 2 f2 rfl
          have g3 := hg 3 f3 rfl
          have g4 := hg 4 f4 rfl
          rw [t0, o0, c_int] at g0
          rw [t1, o1, c_str] at g1
          rw [t2, o2, c_int] at g2
          rw [t3, o3, c_lc] at g3
          rw [t4, o4, c_ls] at g4
          simp at g0 g1 g2 g3 g4
          obtain ⟨op, e0, _, _⟩ := DataW.trod_int Try.underlying3 g0
          obtain ⟨text, e1, _, ht⟩ := DataW.trod_string Try.underlying9 g1
          obtain ⟨num, e2, _, _⟩ := DataW.trod_int Try.underlying3 g2
          obtain ⟨d0, d1, hu3, ⟨s0, q0⟩, ⟨s1, q1⟩⟩ := u_lc
          obtain ⟨zs, k, _, _, _, hzl, hz⟩ := DataW.trod_struct hu3 g3
          match zs, hzl with
          | [z0, z1], _ =>
            have i0 := hz 0 d0 rfl
            have i1 := hz 1 d1 rfl
            rw [s0, q0, c_int] at i0
            rw [s1, q1, c_int] at i1
            simp at i0 i1
            obtain ⟨lo, e3, _, _⟩ := DataW.trod_int Try.underlying3 i0
            obtain ⟨hi, e4, _, _⟩ := DataW.trod_int Try.underlying3 i1
            obtain ⟨ps, A, c, e5, h1, h2, h3⟩ := ih.2 _ _ g4
            simp only [List.cons.injEq, and_true] at e0 e1 e2 e3 e4 e5
            subst e0 e1 e2 e3 e4 e5
            exact ⟨.mk op text num lo hi ps, _, rfl, by simp only [LKids]; exact ⟨ht, A, c, rfl, h1, h2, h3⟩⟩
    · intro cs x h
      rcases DataW.trod_slice Try.underlying36 h with ⟨rfl, _⟩ | ⟨a, len, cap, elems, rest, m, hm, rfl, _, _, hlc, hcm, hel, hall, _, _⟩
      · exact ⟨[], none, 0, rfl, Nat.le_refl _, Nat.zero_le _, by simp only [LRow]⟩
      · obtain rfl : m = n := by omega
        have each : ∀ i : Fin len, ∃ q : Pat × Value, LElem w a.block (a.off + i.1 * 6) q.1 q.2 ∧ LKids w q.1 q.2 ∧ a.spot = none ∧ a.block < w.heap.size := fun i => by
          have h1 := hall i.1 i.2
          have hi : i.1 < elems.length := by omega
          rw [List.getElem?_eq_getElem hi, Option.bind_eq_some_iff] at h1
          obtain ⟨cs', hc', htr⟩ := h1
          obtain ⟨p, kv, rfl, hk⟩ := ih.1 _ _ htr
          rw [c_lp] at hc'
          obtain ⟨_, _, hcell⟩ := World.cells?_some hc'
          have h0 := hcell 0 (by omega)
          have hs0 := cell_spot h0
          have hspot : a.spot = none := by
            have h00 := hall 0 (by omega)
            rw [List.getElem?_eq_getElem (by omega), Option.bind_eq_some_iff] at h00
            obtain ⟨cs0, hc0, htr0⟩ := h00
            obtain ⟨p0, kv0, rfl, _⟩ := ih.1 _ _ htr0
            rw [c_lp] at hc0
            have := (cell_spot ((World.cells?_some hc0).2.2 0 (by omega))).1
            simpa [Addr.add] using this
          have ha : ∀ k, (a.add (i.1 * 6)).add k = ⟨a.block, a.off + i.1 * 6 + k, none⟩ := fun k => by
            obtain ⟨ab, ao, asp⟩ := a
            simp only at hspot
            subst hspot
            unfold Addr.add
            split <;> split <;> simp_all
          refine ⟨(p, kv), ⟨?_, ?_, ?_, ?_, ?_, ?_⟩, hk, hspot, ?_⟩
          · have := hcell 0 (by omega); rw [ha] at this; exact this
          · have := hcell 1 (by omega); rw [ha] at this; exact this
          · have := hcell 2 (by omega); rw [ha] at this; exact this
          · have := hcell 3 (by omega); rw [ha] at this; exact this
          · have := hcell 4 (by omega); rw [ha] at this; exact this
          · have := hcell 5 (by omega); rw [ha] at this; exact this
          · have := hs0.2; rw [ha] at this; exact this
        by_cases h0 : len = 0
        · subst h0
          exact ⟨[], some a, cap, rfl, Nat.zero_le _, hcm, by simp only [LRow]⟩
        · have hsp := (Classical.choose_spec (each ⟨0, by omega⟩)).2.2
          refine ⟨List.ofFn fun i => (Classical.choose (each i)).1, some a, cap, by simp, by simpa using hlc, hcm, ?_⟩
          obtain ⟨ab, ao, asp⟩ := a
          simp only at hsp
          obtain ⟨rfl, hlt⟩ := hsp
          refine lrow_mk hlt _ 0 (fun i hi => ?_)
          have hi' : i < len := by simpa using hi
          have hc := Classical.choose_spec (each ⟨i, hi'⟩)
          exact ⟨(Classical.choose (each ⟨i, hi'⟩)).2, by simpa using hc.1, by simpa using hc.2.1⟩

set_option maxRecDepth 100000 in
theorem open_lp {r : Reach} {b0 : Nat} {v : Value} {d : DataW H} {q : List MemPlace} (hv : Value.okWide Try.prog w r b0 LP v) (h : DataW.Trod enc Try.prog w 0 spare held LP v d q) : ∃ (p : Pat) (kv : Value), v = p.v kv ∧ LKids w p kv := by
  obtain ⟨cs, rfl, _⟩ := okWide_struct Try.underlying39 hv
  obtain ⟨fuel, hf⟩ := h
  obtain ⟨p, kv, e, hk⟩ := (open_pats fuel).1 _ _ hf
  refine ⟨p, kv, ?_, hk⟩
  obtain ⟨l⟩ := cs
  simp only [Value.cells] at e
  subst e
  rfl
set_option maxRecDepth 100000 in
theorem open_ls {r : Reach} {b0 : Nat} {v : Value} {d : DataW H} {q : List MemPlace} (hv : Value.okWide Try.prog w r b0 LS v) (h : DataW.Trod enc Try.prog w 0 spare held LS v d q) : ∃ (ps : List Pat) (A : Option Addr) (c : Nat), v = .slice A ps.length c ∧ ps.length ≤ c ∧ c ≤ maxLen ∧ LRow w A 0 ps := by
  obtain ⟨a, len, cap, rfl⟩ := okWide_slice Try.underlying36 hv
  obtain ⟨fuel, hf⟩ := h
  obtain ⟨ps, A, c, e, h1, h2, h3⟩ := (open_pats fuel).2 _ _ hf
  refine ⟨ps, A, c, ?_, h1, h2, h3⟩
  simpa [Value.cells] using e
end
end Go.Proofs.Ytndefbecoahfhaa

/- What a law's row asks behind its walk: 'true' comes back, nothing that was there has changed. -/
namespace Go.Proofs.Ytndefbecoahfhaa
open Go.ChangeShapes Go.WideShapes Go.ChangeAt Go.RowKit

theorem own : ownKnob Try.prog.godebug = none := by kernel_rfl
theorem laidOut : laidOutB Try.prog = true := by kernel_rfl

section
variable {H : Type} {enc : TypeId × Value → H} {P : Program}

/-- Arguments that lie below read again as they did. -/
theorem trodAll_stays (hl : laidOutB P = true) {W W' : World} {sp : Nat → Bool} : ∀ (ts : List TypeId) (vs : List Value) (ds : List (DataW H)) (ps : List MemPlace),
    (ts.all fun t => P.readableRec t && decide (t < P.types.size)) = true → DataW.TrodAll enc P W 0 (fun _ => true) true ts vs ds ps → (∀ p ∈ ps, W.sameAt W' p) → (∀ p ∈ ps, sp p.block = true) → DataW.TrodAll enc P W' 0 sp true ts vs ds ps
  | [], vs, ds, ps, _, h, _, _ => by
    obtain ⟨rfl, rfl, rfl⟩ := trodAll_nil h
    exact trodAll_mk0
  | t :: ts, vs, ds, ps, hr, h, h1, h2 => by
    obtain ⟨v, vs', d, ds', p, q, rfl, rfl, rfl, hp, hq⟩ := trodAll_cons h
    simp only [List.all_cons, Bool.and_eq_true, decide_eq_true_eq] at hr
    exact trodAll_cons_mk (WideElems.Trod_stays hl hr.1.1 hr.1.2 hp (fun x hx => h1 x (by simp [hx])) (fun x hx => h2 x (by simp [hx])))
      (trodAll_stays hl ts vs' ds' q hr.2 hq (fun x hx => h1 x (by simp [hx])) (fun x hx => h2 x (by simp [hx])))

theorem law_post (hl : laidOutB P = true) {f : Func} {s : ChangeSpec} {apart : Bool} {W W' : World} {args : Array Value} {ds gs : List (DataW H)} {before : List MemPlace} {t : TypeId}
    (hW : DataW.Whole enc P f.params.toList s.vars apart W args.toList ds gs before) (hv : s.vars = []) (hfn : s.fn H ds = { results := [.lit (.bool true)], args := ds })
    (hr : f.resultTypes = #[t]) (ht : P.underlying t = some .bool) (hp : (f.params.toList.all fun t => P.readableRec t && decide (t < P.types.size)) = true)
    (hb : Below W.heap.size W W') : s.post enc P f apart true false false W args (.bool true) W' := by
  have hlt : ∀ p ∈ before, p.block < W.heap.size := fun p hp => hW.lt p hp
  have hW0 := hW
  obtain ⟨p, q, hA, hV, rfl, hfz, hnd⟩ := hW
  rw [hv] at hV
  obtain ⟨rfl, rfl⟩ := trodVars_none hV
  refine ⟨ds, [], p ++ [], [], p, [], hW0, ?_, ?_, ?_, World.keptBut_mono (fun x hx => ⟨hx, .inr (.inl (by simpa using hx))⟩) (hb.frame (· ∈ p ++ [])), fun h => by cases h⟩
  · rw [List.append_nil, hfn, hr]
    exact trodAll_mk1 (shut_bool ht true)
  · rw [List.append_nil, hfn]
    exact trodAll_stays hl _ _ _ _ hp hA (fun x hx => hb.same (hlt x (by simp [hx]))) (fun x hx => by simpa using hlt x (by simp [hx]))
  · rw [List.append_nil, hfn, hv]
    rfl
end
end Go.Proofs.Ytndefbecoahfhaa
