/- The reference matcher plays the plain machine. -/
import Derived.Test.YtndefbecoahfhaaZStep

/- What spec's l20Match is said with; append onto an empty row of one's own. No walk in sight. -/
namespace Go.Proofs.Ytndefbecoahfhaa
open Go.RowKit

section
variable {P : Program} (w : World)
/-- append([]T{}, xs...): a copy. -/
theorem run_append_fresh (base base2 : Nat) (t ty e : TypeId) (i : TypeInfo) (z : Value) (size bytes : Nat) (ht : P.underlying t = some (.slice e)) (hi : P.info? e = some i) (hz : i.zero = some z)
    (hsize : i.size = size) (hby : i.bytes = bytes) (hzs : z.cells.size = size) {B : Nat} (hB : w.heap[B]? = some (.cells #[] e (0, 0))) (hbase : base ≤ B)
    {v2 : Value} {m : Nat} {ys : List Value} (hsrc : HasRow w base2 e size v2 m ys) (hm : m ≤ 1000000) (hbytes : bytes ≤ 1000) :
    ∃ v' w', (Builtin.append_ #[t, t] ty #[.slice (some ⟨B, 0, none⟩) 0 0, v2]).run P w = .ok v' w' ∧ HasRow w' base e size v' m ys ∧ Later w w' ∧ (v'.ownBlock = some B ∨ v'.ownBlock = some w.heap.size) := by
  subst hsize
  subst hby
  have hBlt := has_lt hB
  by_cases h0 : m = 0
  · subst h0
    have hy : ys = [] := List.eq_nil_of_length_eq_zero (by simpa using hsrc.1)
    subst hy
    refine ⟨.slice (some ⟨B, 0, none⟩) 0 0, w, ?_, ⟨by simp, .inr ⟨B, 0, #[], rfl, hbase, hB, Nat.le_refl _, Nat.zero_le _, by simp, by simp⟩⟩, Later.refl w, .inl rfl⟩
    obtain ⟨A, c, rfl, _, _⟩ := hsrc.form
    cases A <;> simp [Builtin.append_, run_underlying ht, sizeOf, typeInfo, hi, Builtin.lenOf, Builtin.firstCells, loadCells, loadCellsFrom, storeCells]
  · obtain ⟨g, c, rfl, _, hc1, hc2⟩ := hsrc.block_ (by omega)
    have hcells := hsrc.cells (g := g) rfl
    have hnews : ∀ j u, ys[j]? = some u → w.cell? ((⟨g, 0, none⟩ : Addr).add j) = some u := fun j u hu => by
      have hadd : (⟨g, 0, none⟩ : Addr).add j = ⟨g, j, none⟩ := by unfold Addr.add; split <;> simp_all
      rw [hadd]
      exact hcells j u hu
    have hr := run_append_grow (P := P) w t ty e i z ht hi hz ⟨B, 0, none⟩ 0 0 [] (by simp) (fun j u hu => by simp at hu) ⟨g, 0, none⟩ m c ys hsrc.1 hnews (by omega) (by omega)
      (growslice_fits (by omega) (by have := Nat.mul_le_mul (show 0 + m ≤ 1000000 by omega) hbytes; omega))
    have hge := grownCap_ge w (0 + m) 0 e
    have hcm : grownCap w (0 + m) 0 e ≤ maxLen := grownCap_le_maxLen w (0 + m) 0 e (by simp only [maxLen]; omega)
    refine ⟨_, _, hr, ⟨hsrc.1, .inr ⟨w.heap.size, _, _, by rw [Nat.zero_add], by omega, heap_alloc_new w.drew _, by omega, hcm, ?_, ?_⟩⟩, ((Later.refl w).drew.alloc _), .inr rfl⟩
    · simp only [Array.size_append, List.size_toArray, size_zeroCells, hzs, hsrc.1, List.length_nil, Nat.zero_add]
      rw [← Nat.add_mul]
      refine Nat.mul_le_mul_right _ ?_
      have h2 := hge
      rw [Nat.zero_add] at h2
      omega
    · simp only [Array.toList_append, List.append_assoc]
      rw [List.nil_append, ← hsrc.1]
      exact List.take_left

theorem wpList_append_fresh {ops : Array Oper} {rest : List Oper} {o : Oper} {a : Act} {Q : Exit → Act → World → Prop} (hgd : o.guard = none) (s x : Operand) (t : TypeId)
    (ho : o.op = .call { callee := .builtin .append, args := #[s, x], argTypes := #[t, t] })
    (base base2 : Nat) (e : TypeId) (i : TypeInfo) (z : Value) (size bytes : Nat) (ht : P.underlying t = some (.slice e)) (hi : P.info? e = some i) (hz : i.zero = some z)
    (hsize : i.size = size) (hby : i.bytes = bytes) (hzs : z.cells.size = size) {B : Nat} (hs : a.eval s = .slice (some ⟨B, 0, none⟩) 0 0) (hB : w.heap[B]? = some (.cells #[] e (0, 0))) (hbase : base ≤ B)
    {v2 : Value} {m : Nat} {ys : List Value} (hx : a.eval x = v2) (hsrc : HasRow w base2 e size v2 m ys) (hm : m ≤ 1000000) (hbytes : bytes ≤ 1000)
    (h : ∀ v' w', HasRow w' base e size v' m ys → Later w w' → (v'.ownBlock = some B ∨ v'.ownBlock = some w.heap.size) → wpList P ops Q rest (a.put o.dst v') w') : wpList P ops Q (o :: rest) a w := by
  refine wpList_plain hgd fun _ hK => ?_
  obtain ⟨v', w', hr, h2, h3, h4⟩ := run_append_fresh (P := P) w base base2 t o.type e i z size bytes ht hi hz hsize hby hzs hB hbase hsrc hm hbytes
  unfold Oper.wp execOp
  simp only [ho, resolve, invoke, builtin, Sem.run_bind, Sem.run_pure, Result.andThen_ok, List.map_toArray, List.map_cons, List.map_nil, hs, hx, hr]
  exact hK _ _ (h v' w' h2 h3 h4)
end

section
variable {w0 w : World} {F : List (Nat × Obj)} {M : Nat} {m : Mst} {gl : List SG} {gi ai : Int} {gv hv cv ev : Value} {hs : List Value}
theorem foreign_to {w' : World} {hv' cv' : Value} (h : ∀ x ∈ F, Foreign w x M gv hv cv ev) (hh : hv'.ownBlock = hv.ownBlock) (hc : cv'.ownBlock = cv.ownBlock) : ∀ x ∈ F, Foreign w x M gv hv' cv' ev := fun y hy =>
  ⟨(h y hy).blk, (h y hy).m, (h y hy).g, by rw [hh]; exact (h y hy).h, by rw [hc]; exact (h y hy).c, (h y hy).e⟩
/-- The last choice is taken away. -/
theorem spec_pop {cs : List Choice} {c : Choice} {g hc : Nat} (h : SpecAt w0 w F M m gl gi ai gv (.slice (some ⟨g, 0, none⟩) (cs.length + 1) hc) cv ev hs) (hcs : m.choices = cs ++ [c]) :
    ∃ a i, hs = a ++ [.int .i64 i, .int .i64 c.at_, .int .i64 c.ncap] ∧ ((c.stop = true ∧ i = -2) ∨ (c.stop = false ∧ Chain gl i c.goals)) ∧ a.length = cs.length * 3 ∧
      SpecAt w0 (w.setCell ⟨M, 1, none⟩ (.slice (some ⟨g, 0, none⟩) cs.length hc)) F M { m with choices := cs } gl gi ai gv (.slice (some ⟨g, 0, none⟩) cs.length hc) cv ev a := by
  have h6 := h.are
  have h5 := h.chs
  rw [hcs] at h6 h5
  obtain ⟨a, b, rfl, h1, i, rfl, h2⟩ := SChoicesAre.pop cs hs h6
  have hla := SChoicesAre.len cs a h1
  refine ⟨a, i, rfl, h2, hla, SpecAt.set (m := { m with choices := cs }) h.blk rfl h.base h.goals h.kids ?_ h1 h.caps h.evs h.apart (foreign_to (w' := w) h.foreign rfl rfl) h.below⟩
  have hl : (cs ++ [c]).length = cs.length + 1 := by simp
  rw [hl] at h5
  have := h5.cut (k := cs.length) (c := hc) (by omega) (by have := h5.form; obtain ⟨A, cap, e, h7, _⟩ := this; cases e; omega) (Nat.le_refl _)
  simpa [← hla] using this
/-- The captures are cut. -/
theorem spec_cut {g cc k : Nat} (h : SpecAt w0 w F M m gl gi ai gv hv (.slice (some ⟨g, 0, none⟩) m.caps.length cc) ev hs) (hk : k ≤ m.caps.length) :
    SpecAt w0 (w.setCell ⟨M, 4, none⟩ (.slice (some ⟨g, 0, none⟩) k cc)) F M { m with caps := m.caps.take k } gl gi ai gv hv (.slice (some ⟨g, 0, none⟩) k cc) ev hs := by
  have hc : m.caps.length ≤ cc := by obtain ⟨A, cap, e, h7, _⟩ := h.caps.form; cases e; omega
  refine SpecAt.set (m := { m with caps := m.caps.take k }) h.blk rfl h.base h.goals h.kids h.chs h.are ?_ h.evs h.apart (foreign_to (w' := w) h.foreign rfl rfl) h.below
  have := h.caps.cut (c := cc) hk (by omega) (Nat.le_refl _)
  rw [capCells_take] at this
  simpa [Nat.min_eq_left hk] using this
theorem spec_cut_nil {k : Nat} (h : SpecAt w0 w F M m gl gi ai gv hv (.slice none 0 0) ev hs) (hk : k = 0) :
    SpecAt w0 (w.setCell ⟨M, 4, none⟩ (.slice none 0 0)) F M { m with caps := m.caps.take k } gl gi ai gv hv (.slice none 0 0) ev hs := by
  subst hk
  exact SpecAt.set (m := { m with caps := m.caps.take 0 }) h.blk rfl h.base h.goals h.kids h.chs h.are (by simpa [capCells] using HasRow.nil w w0.heap.size TK 3) h.evs h.apart h.foreign h.below

theorem stop_cells {j k g hc : Nat} {a : List Value} {v0 v1 v2 : Value} (h : SpecAt w0 w F M m gl gi ai gv (.slice (some ⟨g, 0, none⟩) k hc) cv ev (a ++ [v0, v1, v2])) (ha : a.length = j * 3) :
    w.cell? ⟨g, j * 3, none⟩ = some v0 ∧ w.cell? ⟨g, j * 3 + 1, none⟩ = some v1 ∧ w.cell? ⟨g, j * 3 + 2, none⟩ = some v2 := by
  have hc := h.chs.cells (g := g) rfl
  have at_ : ∀ i u, (a ++ [v0, v1, v2])[j * 3 + i]? = some u → w.cell? ⟨g, j * 3 + i, none⟩ = some u := fun i u hu => hc _ u hu
  refine ⟨at_ 0 v0 ?_, at_ 1 v1 ?_, at_ 2 v2 ?_⟩ <;> rw [← ha, List.getElem?_append_right (by omega)] <;> simp

theorem specAt_start {wA : World} {fr : Int} : SpecAt wA (wA.alloc (.cells (sCells (.slice none 0 0) (.slice none 0 0) 0 fr (.slice none 0 0) (.slice none 0 0)) TS)) [] wA.heap.size (.start fr.toNat) [] 0 fr (.slice none 0 0) (.slice none 0 0) (.slice none 0 0) (.slice none 0 0) [] :=
  ⟨heap_alloc_new wA _, Nat.le_refl _, HasRow.nil _ _ _ _, (fun g hg => by cases hg), HasRow.nil _ _ _ _, rfl, HasRow.nil _ _ _ _, HasRow.nil _ _ _ _, .inl rfl, (fun x hx => by cases hx), (Below.refl _ _).alloc (Nat.le_refl _) _⟩
end

/-- What holds at the head of l20Match's loop; k rounds at most are to come. -/
def LoopS (wA : World) (defs : List Pat) (s : ByteArray) (M fuel : Nat) (RES : Res) (k : Nat) (st : Value) (wr : World) : Prop :=
  ∃ n m gl gi ai gv hv cv ev hs, st = .int .i64 (n : Nat) ∧ n ≤ fuel ∧ SpecAt wA wr [] M m gl gi ai gv hv cv ev hs ∧
    ((gi = -2 ∧ RES = ⟨false, true, false, 0, n, [], m.events⟩) ∨ ∃ gs, n + k = fuel ∧ ai = m.at_ ∧ Chain gl gi gs ∧ Ok defs s n gs m ∧ gl.length ≤ 2 * n + 1 ∧ play defs s k n gs m = RES)

theorem cells_d {x : World} {b : Nat} {v0 v1 v2 : Value} (h : x.heap[b]? = some (.cells #[v0, v1, v2] TD (0, 0))) :
    x.cell? ⟨b, 0, none⟩ = some v0 ∧ x.cell? ⟨b, 1, none⟩ = some v1 ∧ x.cell? ⟨b, 2, none⟩ = some v2 :=
  ⟨cell_of_row x b 0 _ _ _ h, cell_of_row x b 1 _ _ _ h, cell_of_row x b 2 _ _ _ h⟩

end Go.Proofs.Ytndefbecoahfhaa

/- spec's l20Match. Printed by gen_sm.py. -/
namespace Go.Proofs.Ytndefbecoahfhaa
open Go.RowKit

set_option maxRecDepth 100000 in
set_option maxHeartbeats 4000000 in
theorem l20Match_play (defs : List Pat) (dA : Option Addr) (dc : Nat) (p : Pat) (kv : Value) (s : ByteArray) (fr fuel : Nat) (w : World) (hs : Smalls defs) (hp : Small p) (hd : RowIn w dA 0 defs) (hin : KidsIn w p kv) (hvd : validD defs p = true)
    (hss : s.size ≤ 120) (hfr : fr ≤ s.size) (hfu : fuel ≤ 4000) :
    Calls Try.prog 41 #[.slice dA defs.length dc, p.v kv, .string s, .int .i64 fr, .int .i64 fuel] w (MatchIs w (play defs s fuel 0 [⟨0, p, 0⟩] (.start fr)) (matchFrom (play defs s fuel 0 [⟨0, p, 0⟩] (.start fr)) fr)) := by
  obtain ⟨kA, kc, rfl, _, _⟩ := hin.form
  obtain ⟨hdok, hpv⟩ := validD_defs hvd hs
  have hlen := hdok.len
  have HD := Lib.hid hdok
  have HV := Lib.hid (ok_start hpv hp hfr)
  have HROW := Lib.hid hd
  have HIN := Lib.hid hin
  obtain ⟨RES, hR⟩ : ∃ R, play defs s fuel 0 [⟨0, p, 0⟩] (.start fr) = R := ⟨_, rfl⟩
  rw [hR]
  have HRES := Lib.hid hR
  clear hR hdok hpv hd hin hs hp hvd
  have i3 : (fuel : Int) ≤ 4000 := by omega
  go_enter Try.func41, Try.ntmps41
  go_wp2_with fail
  obtain ⟨wA, hwA⟩ : ∃ wA, wA = (w.alloc (Obj.cells #[.int .i64 p.op, .string p.text, .int .i64 p.num, .int .i64 p.lo, .int .i64 p.hi, .slice kA p.kids.length kc] TP)).alloc (Obj.cells zeroM TR) := ⟨_, rfl⟩
  rw [← hwA]
  have hlA : Later w wA := by rw [hwA]; exact ((Later.refl w).alloc _).alloc _
  have hRA : wA.heap[w.heap.size + 1]? = some (.cells zeroM TR (0, 0)) := by rw [hwA, show w.heap.size + 1 = (w.alloc (Obj.cells #[.int .i64 p.op, .string p.text, .int .i64 p.num, .int .i64 p.lo, .int .i64 p.hi, .slice kA p.kids.length kc] TP)).heap.size by simp]; exact heap_alloc_new _ _
  have hzA : wA.heap.size = w.heap.size + 2 := by rw [hwA]; simp
  rw [← hzA]
  have HLA := Lib.hid hlA
  have HRA := Lib.hid hRA
  have HINA := Lib.hid (KidsIn.later hlA _ _ HIN.out)
  have HROWA := Lib.hid (RowIn.later hlA _ _ _ HROW.out)
  obtain ⟨RB, hRBe⟩ : ∃ RB, w.heap.size + 1 = RB := ⟨_, rfl⟩
  rw [hRBe] at HRA
  rw [hRBe]
  have hwz : w.heap.size ≤ RB := by omega
  have hz2 : RB < wA.heap.size := by omega
  clear hwA hlA hRA hzA hRBe
  refine (push_at (specAt_start (fr := fr)) 0 p kA kc (-1) 0 HINA.out (by simp) _ rfl).mono ?_
  rintro e w2 ⟨rfl, gv2, hI2⟩
  obtain ⟨M, hM⟩ : ∃ M, wA.heap.size = M := ⟨_, rfl⟩
  rw [hM] at hI2
  rw [hM]
  clear hM
  have HI2 := Lib.hid hI2
  obtain ⟨s0, s1, s2, s3, s4, s5⟩ := cells_s hI2.blk
  have f2 := frozen_of_row w2 M 2 _ _ hI2.blk
  clear hI2
  go_wp2_with fail
  clear s0 s1 s2 s3 s4 s5 f2
  go_loopg [12] fuel (fun k st wr => LoopS wA defs s M fuel RES k st wr)
  case atStart => exact ⟨0, .start fr, [⟨0, p, .slice kA p.kids.length kc, -1, 0⟩], 0, fr, _, _, _, _, _, rfl, by omega, HI2.out.setGoal 0, .inr ⟨[⟨0, p, 0⟩], by omega, rfl, ⟨0, _, rfl, rfl, rfl, rfl, rfl, rfl⟩, HV.out, by simp, HRES.out⟩⟩
  case round =>
    obtain ⟨n, m, gl, gi, ai, gv, hv, cv, ev, hs, rfl, hn, hI, hd⟩ := hrel
    obtain ⟨cA, cc, rfl, _, _⟩ := hI.caps.form
    obtain ⟨eA, ec, rfl, _, _⟩ := hI.evs.form
    obtain ⟨hA, hc, rfl, _, _⟩ := hI.chs.form
    have hRB := (hI.below.block _ hz2).trans HRA.out
    have hRM : ¬ RB = M := ne_of_type hRB hI.blk (by decide)
    have hMR : ¬ M = RB := fun e => hRM e.symm
    have HI := Lib.hid hI
    have HB := Lib.hid hRB
    clear hI hRB HRES HV HI2
    rcases hd with hd | ⟨gs, hnk, rfl, hch, hok, hgl, hpl⟩
    · have HPL := Lib.hid hd.2
      obtain rfl := hd.1
      clear hd
      obtain ⟨s0, s1, s2, s3, s4, s5⟩ := cells_s HI.out.blk
      obtain ⟨r0, r1, r2, r3, r4, r5, r6, r7⟩ := cells_r HB.out
      obtain ⟨f0, f1, f2, f3, f4, f5, f6, f7⟩ := frozen_r HB.out
      go_wp2_with fail
      refine bodyPost_ret (v := matchV ⟨false, true, false, 0, n, [], m.events⟩ 0 (.slice none 0 0) (.slice eA m.events.length ec)) (by simp [results, Try.results41, go_sem, r0, r1, r2, r3, r4, r5, r6, r7]) rfl ?_
      rw [HPL.out]
      exact matchIs_mk (r := ⟨false, true, false, 0, n, [], m.events⟩) (fr := 0) HLA.out (HasRow.nil _ _ _ _) HI.out.evs (.inl rfl) HI.out.below HB.out hwz (((((((((OnlyAt.refl _ _).set _ _).set _ _).set _ _).set _ _).set _ _).set _ _).set _ _).set _ _)
    · have HPL := Lib.hid hpl
      clear hpl
      cases gs with
      | nil =>
        obtain rfl : gi = -1 := hch
        rw [play_nil] at HPL
        have hncap := hok.ncap
        clear hok hgl
        obtain ⟨s0, s1, s2, s3, s4, s5⟩ := cells_s HI.out.blk
        go_wp2_with fail
        clear s0 s1 s2 s3 s4 s5
        -- region 19: 12 operations, the last [11]
        refine wpU_begin [11] [] (by kernel_rfl) (fun w3 hw3 => ?_)
        have HI3 := Lib.hid (HI.out.later (drew_later hw3))
        have HB3 := Lib.hid ((drew_later hw3).has HB.out)
        clear hw3
        refine wpU_take 0 (some 77) (v := ?_) rfl rfl (by kernel_rfl) (fun _ _ _ h => h) rfl (fun x hx => ?_) ?_
        rotate_left 1
        · go_simp; first | done | with_reducible rfl | rw [if_neg (by omega)] | rw [if_pos (by omega)]
        simp only [Act.put, List.setIfInBounds_toArray, List.set_cons_zero, List.set_cons_succ]
        refine wpU_take 1 (some 78) (v := ?_) rfl rfl (by kernel_rfl) (fun _ _ _ h => h) rfl (fun x hx => ?_) ?_
        rotate_left 1
        · go_simp; first | done | with_reducible rfl | rw [if_neg (by omega)] | rw [if_pos (by omega)]
        simp only [Act.put, List.setIfInBounds_toArray, List.set_cons_zero, List.set_cons_succ]
        refine wpU_take 2 (some 79) (v := ?_) rfl rfl (by kernel_rfl) (fun _ _ _ h => h) rfl (fun x hx => ?_) ?_
        rotate_left 1
        · obtain ⟨s0, s1, s2, s3, s4, s5⟩ := cells_s (hx.has HI3.out.blk); go_simp; first | done | with_reducible rfl | rw [if_neg (by omega)] | rw [if_pos (by omega)]
        simp only [Act.put, List.setIfInBounds_toArray, List.set_cons_zero, List.set_cons_succ]
        refine wpU_take 3 (some 80) (v := ?_) rfl rfl (by kernel_rfl) (fun _ _ _ h => h) rfl (fun x hx => ?_) ?_
        rotate_left 1
        · go_simp; first | done | with_reducible rfl | rw [if_neg (by omega)] | rw [if_pos (by omega)]
        simp only [Act.put, List.setIfInBounds_toArray, List.set_cons_zero, List.set_cons_succ]
        refine wpU_take 5 (some 82) (v := ?_) rfl rfl (by kernel_rfl) (fun _ _ _ h => h) rfl (fun x hx => ?_) ?_
        rotate_left 1
        · go_simp; first | done | with_reducible rfl | rw [if_neg (by omega)] | rw [if_pos (by omega)]
        simp only [Act.put, List.setIfInBounds_toArray, List.set_cons_zero, List.set_cons_succ]
        refine wpU_take 6 (some 83) (v := ?_) rfl rfl (by kernel_rfl) (fun _ _ _ h => h) rfl (fun x hx => ?_) ?_
        rotate_left 1
        · obtain ⟨s0, s1, s2, s3, s4, s5⟩ := cells_s (hx.has HI3.out.blk); go_simp; first | done | with_reducible rfl | rw [if_neg (by omega)] | rw [if_pos (by omega)]
        simp only [Act.put, List.setIfInBounds_toArray, List.set_cons_zero, List.set_cons_succ]
        refine wpU_take 8 (some 85) (v := ?_) rfl rfl (by kernel_rfl) (fun _ _ _ h => h) rfl (fun x hx => ?_) ?_
        rotate_left 1
        · go_simp; first | done | with_reducible rfl | rw [if_neg (by omega)] | rw [if_pos (by omega)]
        simp only [Act.put, List.setIfInBounds_toArray, List.set_cons_zero, List.set_cons_succ]
        refine wpU_take 9 (some 86) (v := ?_) rfl rfl (by kernel_rfl) (fun _ _ _ h => h) rfl (fun x hx => ?_) ?_
        rotate_left 1
        · obtain ⟨s0, s1, s2, s3, s4, s5⟩ := cells_s (hx.has HI3.out.blk); go_simp; first | done | with_reducible rfl | rw [if_neg (by omega)] | rw [if_pos (by omega)]
        simp only [Act.put, List.setIfInBounds_toArray, List.set_cons_zero, List.set_cons_succ]
        refine wpU_step 4 (by kernel_rfl) rfl rfl ?_  -- buildSlice 
        go_wp2_with fail
        refine ⟨(Later.refl _).alloc _, ?_⟩
        refine wpU_step 7 (by kernel_rfl) rfl rfl ?_  -- call builtin Go.Builtin.append
        obtain ⟨i, hi, hz0, hz1, hz2'⟩ := info_parts infoK
        refine wpList_append_fresh _ rfl _ _ _ rfl wA.heap.size wA.heap.size TK i _ 3 24 Try.underlying31 hi hz0 hz1 hz2' rfl rfl (heap_alloc_new w3 _) HI3.out.below.size rfl ((HI3.out.later ((Later.refl w3).alloc _)).caps) (by omega) (by omega) ?_
        intro v' w5 hrow hl5 hown
        obtain ⟨vA, vc, rfl, _, _⟩ := hrow.form
        have HI5 := Lib.hid (HI3.out.later (((Later.refl w3).alloc _).trans hl5))
        have HB5 := Lib.hid ((((Later.refl w3).alloc _).trans hl5).has HB3.out)
        have HROW5 := Lib.hid hrow
        have HAP5 : Hid ((Value.slice vA m.caps.length vc).ownBlock = none ∨ (Value.slice vA m.caps.length vc).ownBlock ≠ (Value.slice eA m.events.length ec).ownBlock) := Lib.hid (.inr fun e => by
          rcases hown with h1 | h1
          · rw [h1] at e; have := (HI3.out.evs.lt _ e.symm).2.1; omega
          · rw [h1] at e; have := (HI3.out.evs.lt _ e.symm).2.1; simp at this; omega)
        refine wpList_nil ⟨hl5, ?_⟩
        clear hrow hl5 hown hi hz0 hz1 hz2'
        refine wpU_take 10 (some 87) (v := ?_) rfl rfl (by kernel_rfl) (fun _ _ _ h => h) rfl (fun x hx => ?_) ?_
        rotate_left 1
        · go_simp; first | done | with_reducible rfl | rw [if_neg (by omega)] | rw [if_pos (by omega)]
        simp only [Act.put, List.setIfInBounds_toArray, List.set_cons_zero, List.set_cons_succ]
        refine wpU_last [_] (by kernel_rfl) rfl rfl ?_
        simp only [List.getElem_toArray, List.getElem_cons_succ, List.getElem_cons_zero]
        obtain ⟨s0, s1, s2, s3, s4, s5⟩ := cells_s HI5.out.blk
        obtain ⟨r0, r1, r2, r3, r4, r5, r6, r7⟩ := cells_r HB5.out
        obtain ⟨f0, f1, f2, f3, f4, f5, f6, f7⟩ := frozen_r HB5.out
        go_wp2_with fail
        refine bodyPost_ret (v := matchV ⟨true, false, false, m.at_, n, m.caps, m.events⟩ fr (.slice vA m.caps.length vc) (.slice eA m.events.length ec)) (by simp [results, Try.results41, go_sem, r0, r1, r2, r3, r4, r5, r6, r7]) rfl ?_
        rw [← HPL.out]
        exact matchIs_mk (r := ⟨true, false, false, m.at_, n, m.caps, m.events⟩) (fr := fr) HLA.out HROW5.out HI5.out.evs HAP5.out HI5.out.below HB5.out hwz (((((((((OnlyAt.refl _ _).set _ _).set _ _).set _ _).set _ _).set _ _).set _ _).set _ _).set _ _)
      | cons g gs =>
        obtain ⟨j, hj⟩ : ∃ j : Nat, gi = (j : Int) := by obtain ⟨j, _, e, _⟩ := hch; exact ⟨j, e⟩
        subst hj
        have HCH := Lib.hid hch
        have HK := Lib.hid hok
        have hgl' : gl.length ≤ 8001 := by omega
        clear hch hok
        by_cases hk0 : gk = 0
        · subst hk0
          obtain rfl : n = fuel := by omega
          rw [play_zero] at HPL
          obtain ⟨s0, s1, s2, s3, s4, s5⟩ := cells_s HI.out.blk
          obtain ⟨r0, r1, r2, r3, r4, r5, r6, r7⟩ := cells_r HB.out
          obtain ⟨f0, f1, f2, f3, f4, f5, f6, f7⟩ := frozen_r HB.out
          go_wp2_with fail
          refine bodyPost_ret (v := matchV ⟨false, false, true, 0, n, [], m.events⟩ 0 (.slice none 0 0) (.slice eA m.events.length ec)) (by simp [results, Try.results41, go_sem, r0, r1, r2, r3, r4, r5, r6, r7]) rfl ?_
          rw [← HPL.out]
          exact matchIs_mk (r := ⟨false, false, true, 0, n, [], m.events⟩) (fr := 0) HLA.out (HasRow.nil _ _ _ _) HI.out.evs (.inl rfl) HI.out.below HB.out hwz (((((((((OnlyAt.refl _ _).set _ _).set _ _).set _ _).set _ _).set _ _).set _ _).set _ _).set _ _)
        · obtain ⟨k, rfl⟩ : ∃ k, gk = k + 1 := ⟨gk - 1, by omega⟩
          have hn1 : (n : Int) + 1 ≤ 4001 := by omega
          have hnf : ¬ fuel ≤ n := by omega
          have hnf2 : decide (fuel ≤ n) = false := by simpa using hnf
          obtain ⟨s0, s1, s2, s3, s4, s5⟩ := cells_s HI.out.blk
          go_wp2_with fail
          clear s0 s1 s2 s3 s4 s5
          refine (sstep_any HI.out HCH.out HK.out (by omega) HD.out HROWA.out hss (by omega)).mono ?_
          intro e w4 hdid
          cases hst : step defs s g gs m with
          | go gs' m' =>
            rw [hst] at hdid
            obtain ⟨gl4, gi4, gv4, hv4, cv4, ev4, hs4, rfl, hI4, hc4, hl4⟩ := hdid
            have HI4 := Lib.hid hI4
            have HC4 := Lib.hid hc4
            have HST := Lib.hid hst
            rw [play_go hst] at HPL
            clear hI4 hc4 hst
            go_wp2_with fail
            go_roundg k
            case measure => omega
            case rel => exact ⟨n + 1, m', gl4, gi4, m'.at_, _, _, _, _, _, by go_num, by omega, HI4.out, .inr ⟨gs', by omega, rfl, HC4.out, step_ok HD.out hss HK.out HST.out, by omega, HPL.out⟩⟩
          | stop =>
            rw [hst] at hdid
            obtain ⟨gl4, gi4, ai4, gv4, hv4, cv4, ev4, hs4, rfl, hI4, hl4⟩ := hdid
            rw [play_stop hst] at HPL
            clear hst
            obtain ⟨cA4, cc4, rfl, _, _⟩ := hI4.caps.form
            obtain ⟨g4, hc4, rfl, _, hcc, hcm⟩ := hI4.chs.block_ (by simp)
            obtain ⟨cs, hcs⟩ : ∃ cs : List Choice, cs = [] := ⟨_, rfl⟩
            obtain ⟨c, hcd⟩ : ∃ c : Choice, c = ⟨true, [], m.at_, m.caps.length⟩ := ⟨_, rfl⟩
            rw [show ([⟨true, [], m.at_, m.caps.length⟩] : List Choice) = cs ++ [c] by rw [hcs, hcd]; rfl] at hI4
            have hl1 : (cs ++ [c]).length = cs.length + 1 := by simp
            simp only [hl1] at hI4
            have hbig : (cs.length : Int) + 1 ≤ 4001 := by rw [hcs]; simp
            have hcap : cs.length ≤ hc4 := by rw [hcs]; exact Nat.zero_le _
            have hq : ((cs.length : Int) + 1 == 0) = false := by simp; omega
            have hncap : c.ncap ≤ m.caps.length := by rw [hcd]; exact Nat.le_refl _
            have HI4 := Lib.hid hI4
            obtain ⟨a4, i4, hab, hi4, hla, hI5⟩ := spec_pop hI4 rfl
            subst hab
            have hi5 : i4 = -2 := by rcases hi4 with ⟨_, h⟩ | ⟨h, _⟩; exact h; rw [hcd] at h; cases h
            subst hi5
            have HI5 := Lib.hid hI5
            have HLA4 := Lib.hid hla
            clear hI4 hI5 hla hi4 hcs hcd hl1
            rcases HI4.out.caps.2 with ⟨hcv, hB⟩ | ⟨g9, cap9, cur9, hcv, _, _, hcl, _, _⟩
            · obtain ⟨hA9, _, hC9⟩ : cA4 = none ∧ m.caps.length = 0 ∧ cc4 = 0 := by simpa using hcv
              subst hA9 hC9
              rw [show (m.caps.length) = 0 from hB] at HI4 HI5
              have hnc0 : c.ncap = 0 := by omega
              clear hcv
              have HI6 := Lib.hid (spec_cut_nil (k := c.ncap) ((HI5.out.setGoal (-2)).setAt c.at_) hnc0)
              obtain ⟨s0, s1, s2, s3, s4, s5⟩ := cells_s HI4.out.blk
              have f1 := frozen_of_row w4 M 1 _ _ HI4.out.blk
              have f2 := frozen_of_row w4 M 2 _ _ HI4.out.blk
              have f3 := frozen_of_row w4 M 3 _ _ HI4.out.blk
              have f4 := frozen_of_row w4 M 4 _ _ HI4.out.blk
              have hMlt := has_lt HI4.out.blk
              obtain ⟨c0, c1, c2⟩ := stop_cells (j := cs.length) HI4.out HLA4.out
              go_wp2_with fail
              go_roundg k
              case measure => omega
              case rel => exact ⟨n + 1, ⟨c.at_, m.caps.take c.ncap, m.events, cs⟩, gl4, _, c.at_, _, _, _, _, _, by go_num, by omega, (HI6.out.with_at c.at_).later ((Later.refl _).alloc _), .inl ⟨rfl, HPL.out.symm⟩⟩
            · obtain ⟨hA9, hC9⟩ : cA4 = some ⟨g9, 0, none⟩ ∧ cc4 = cap9 := by simpa using hcv
              subst hA9 hC9
              have hx1 : c.ncap ≤ cc4 := Nat.le_trans hncap hcl
              clear hcv
              have HI6 := Lib.hid (spec_cut (k := c.ncap) ((HI5.out.setGoal (-2)).setAt c.at_) hncap)
              obtain ⟨s0, s1, s2, s3, s4, s5⟩ := cells_s HI4.out.blk
              have f1 := frozen_of_row w4 M 1 _ _ HI4.out.blk
              have f2 := frozen_of_row w4 M 2 _ _ HI4.out.blk
              have f3 := frozen_of_row w4 M 3 _ _ HI4.out.blk
              have f4 := frozen_of_row w4 M 4 _ _ HI4.out.blk
              have hMlt := has_lt HI4.out.blk
              obtain ⟨c0, c1, c2⟩ := stop_cells (j := cs.length) HI4.out HLA4.out
              go_wp2_with fail
              go_roundg k
              case measure => omega
              case rel => exact ⟨n + 1, ⟨c.at_, m.caps.take c.ncap, m.events, cs⟩, gl4, _, c.at_, _, _, _, _, _, by go_num, by omega, (HI6.out.with_at c.at_).later ((Later.refl _).alloc _), .inl ⟨rfl, HPL.out.symm⟩⟩
          | fail =>
            rw [hst] at hdid
            obtain ⟨gl4, gi4, ai4, gv4, hv4, cv4, ev4, hs4, rfl, hI4, hl4⟩ := hdid
            have HST := Lib.hid hst
            clear hst
            obtain ⟨cA4, cc4, rfl, _, _⟩ := hI4.caps.form
            obtain ⟨eA4, ec4, rfl, _, _⟩ := hI4.evs.form
            have HB4 := Lib.hid ((hI4.below.block _ hz2).trans HRA.out)
            rcases List.eq_nil_or_concat m.choices with hcs | ⟨cs, c, hcs⟩
            · have hl0 : m.choices.length = 0 := by rw [hcs]; rfl
              obtain ⟨hA4, hc4, rfl, _, _⟩ := hI4.chs.form
              rw [play_none HST.out hcs] at HPL
              have HI4 := Lib.hid hI4
              clear hI4 hcs
              obtain ⟨s0, s1, s2, s3, s4, s5⟩ := cells_s HI4.out.blk
              obtain ⟨r0, r1, r2, r3, r4, r5, r6, r7⟩ := cells_r HB4.out
              obtain ⟨f0, f1, f2, f3, f4, f5, f6, f7⟩ := frozen_r HB4.out
              go_wp2_with fail
              refine bodyPost_ret (v := matchV ⟨false, false, false, 0, n + 1, [], m.events⟩ 0 (.slice none 0 0) (.slice eA4 m.events.length ec4)) (by simp [results, Try.results41, go_sem, r0, r1, r2, r3, r4, r5, r6, r7]) rfl ?_
              rw [← HPL.out]
              exact matchIs_mk (r := ⟨false, false, false, 0, n + 1, [], m.events⟩) (fr := 0) HLA.out (HasRow.nil _ _ _ _) HI4.out.evs (.inl rfl) HI4.out.below HB4.out hwz (((((((((OnlyAt.refl _ _).set _ _).set _ _).set _ _).set _ _).set _ _).set _ _).set _ _).set _ _)
            · rw [List.concat_eq_append] at hcs
              have hl1 : m.choices.length = cs.length + 1 := by rw [hcs]; simp
              have hbig : (cs.length : Int) + 1 ≤ 4001 := by have := HK.out.nch; omega
              obtain ⟨g4, hc4, hv, _, hcc, hcm⟩ := hI4.chs.block_ (by omega)
              rw [hl1] at hv
              subst hv
              have HCS := Lib.hid hcs
              have hcap : cs.length ≤ hc4 := by omega
              have HI4 := Lib.hid hI4
              obtain ⟨a4, i4, hab, hi4, hla, hI5⟩ := spec_pop hI4 hcs
              subst hab
              rw [play_last HST.out hcs] at HPL
              have hncap : c.ncap ≤ m.caps.length := HK.out.choices.le c (by rw [hcs]; simp)
              have HI5 := Lib.hid hI5
              have HLA4 := Lib.hid hla
              have hq : ((cs.length : Int) + 1 == 0) = false := by simp; omega
              clear hI4 hI5 hcs hla hl1
              rcases hi4 with ⟨hst4, hi5⟩ | ⟨hst4, hch4⟩
              · subst hi5
                rw [if_pos hst4] at HPL
                rcases HI4.out.caps.2 with ⟨hcv, hB⟩ | ⟨g9, cap9, cur9, hcv, _, _, hcl, _, _⟩
                · obtain ⟨hA9, _, hC9⟩ : cA4 = none ∧ m.caps.length = 0 ∧ cc4 = 0 := by simpa using hcv
                  subst hA9 hC9
                  rw [show (m.caps.length) = 0 from hB] at HI4 HI5
                  have hnc0 : c.ncap = 0 := by omega
                  clear hcv
                  have HI6 := Lib.hid (spec_cut_nil (k := c.ncap) ((HI5.out.setGoal (-2)).setAt c.at_) hnc0)
                  obtain ⟨s0, s1, s2, s3, s4, s5⟩ := cells_s HI4.out.blk
                  have f1 := frozen_of_row w4 M 1 _ _ HI4.out.blk
                  have f2 := frozen_of_row w4 M 2 _ _ HI4.out.blk
                  have f3 := frozen_of_row w4 M 3 _ _ HI4.out.blk
                  have f4 := frozen_of_row w4 M 4 _ _ HI4.out.blk
                  have hMlt := has_lt HI4.out.blk
                  obtain ⟨c0, c1, c2⟩ := stop_cells (j := cs.length) HI4.out HLA4.out
                  go_wp2_with fail
                  go_roundg k
                  case measure => omega
                  case rel => exact ⟨n + 1, ⟨c.at_, m.caps.take c.ncap, m.events, cs⟩, gl4, _, c.at_, _, _, _, _, _, by go_num, by omega, (HI6.out.with_at c.at_).later ((Later.refl _).alloc _), .inl ⟨rfl, HPL.out.symm⟩⟩
                · obtain ⟨hA9, hC9⟩ : cA4 = some ⟨g9, 0, none⟩ ∧ cc4 = cap9 := by simpa using hcv
                  subst hA9 hC9
                  have hx1 : c.ncap ≤ cc4 := Nat.le_trans hncap hcl
                  clear hcv
                  have HI6 := Lib.hid (spec_cut (k := c.ncap) ((HI5.out.setGoal (-2)).setAt c.at_) hncap)
                  obtain ⟨s0, s1, s2, s3, s4, s5⟩ := cells_s HI4.out.blk
                  have f1 := frozen_of_row w4 M 1 _ _ HI4.out.blk
                  have f2 := frozen_of_row w4 M 2 _ _ HI4.out.blk
                  have f3 := frozen_of_row w4 M 3 _ _ HI4.out.blk
                  have f4 := frozen_of_row w4 M 4 _ _ HI4.out.blk
                  have hMlt := has_lt HI4.out.blk
                  obtain ⟨c0, c1, c2⟩ := stop_cells (j := cs.length) HI4.out HLA4.out
                  go_wp2_with fail
                  go_roundg k
                  case measure => omega
                  case rel => exact ⟨n + 1, ⟨c.at_, m.caps.take c.ncap, m.events, cs⟩, gl4, _, c.at_, _, _, _, _, _, by go_num, by omega, (HI6.out.with_at c.at_).later ((Later.refl _).alloc _), .inl ⟨rfl, HPL.out.symm⟩⟩
              · rw [if_neg (by simp [hst4])] at HPL
                have HCH4 := Lib.hid hch4
                clear hch4
                rcases HI4.out.caps.2 with ⟨hcv, hB⟩ | ⟨g9, cap9, cur9, hcv, _, _, hcl, _, _⟩
                · obtain ⟨hA9, _, hC9⟩ : cA4 = none ∧ m.caps.length = 0 ∧ cc4 = 0 := by simpa using hcv
                  subst hA9 hC9
                  rw [show (m.caps.length) = 0 from hB] at HI4 HI5
                  have hnc0 : c.ncap = 0 := by omega
                  clear hcv
                  have HI6 := Lib.hid (spec_cut_nil (k := c.ncap) ((HI5.out.setGoal i4).setAt c.at_) hnc0)
                  obtain ⟨s0, s1, s2, s3, s4, s5⟩ := cells_s HI4.out.blk
                  have f1 := frozen_of_row w4 M 1 _ _ HI4.out.blk
                  have f2 := frozen_of_row w4 M 2 _ _ HI4.out.blk
                  have f3 := frozen_of_row w4 M 3 _ _ HI4.out.blk
                  have f4 := frozen_of_row w4 M 4 _ _ HI4.out.blk
                  have hMlt := has_lt HI4.out.blk
                  obtain ⟨c0, c1, c2⟩ := stop_cells (j := cs.length) HI4.out HLA4.out
                  go_wp2_with fail
                  go_roundg k
                  case measure => omega
                  case rel => exact ⟨n + 1, ⟨c.at_, m.caps.take c.ncap, m.events, cs⟩, gl4, _, c.at_, _, _, _, _, _, by go_num, by omega, (HI6.out.with_at c.at_).later ((Later.refl _).alloc _), .inr ⟨c.goals, by omega, rfl, HCH4.out, HK.out.pop HCS.out, by omega, HPL.out⟩⟩
                · obtain ⟨hA9, hC9⟩ : cA4 = some ⟨g9, 0, none⟩ ∧ cc4 = cap9 := by simpa using hcv
                  subst hA9 hC9
                  have hx1 : c.ncap ≤ cc4 := Nat.le_trans hncap hcl
                  clear hcv
                  have HI6 := Lib.hid (spec_cut (k := c.ncap) ((HI5.out.setGoal i4).setAt c.at_) hncap)
                  obtain ⟨s0, s1, s2, s3, s4, s5⟩ := cells_s HI4.out.blk
                  have f1 := frozen_of_row w4 M 1 _ _ HI4.out.blk
                  have f2 := frozen_of_row w4 M 2 _ _ HI4.out.blk
                  have f3 := frozen_of_row w4 M 3 _ _ HI4.out.blk
                  have f4 := frozen_of_row w4 M 4 _ _ HI4.out.blk
                  have hMlt := has_lt HI4.out.blk
                  obtain ⟨c0, c1, c2⟩ := stop_cells (j := cs.length) HI4.out HLA4.out
                  go_wp2_with fail
                  go_roundg k
                  case measure => omega
                  case rel => exact ⟨n + 1, ⟨c.at_, m.caps.take c.ncap, m.events, cs⟩, gl4, _, c.at_, _, _, _, _, _, by go_num, by omega, (HI6.out.with_at c.at_).later ((Later.refl _).alloc _), .inr ⟨c.goals, by omega, rfl, HCH4.out, HK.out.pop HCS.out, by omega, HPL.out⟩⟩

end Go.Proofs.Ytndefbecoahfhaa
