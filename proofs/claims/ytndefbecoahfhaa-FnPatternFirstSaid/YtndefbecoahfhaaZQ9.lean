/- Part of the walks that the claim stands on. -/
import Derived.Test.YtndefbecoahfhaaZQ6
import Derived.Test.YtndefbecoahfhaaZQ7
import Derived.Test.YtndefbecoahfhaaZQ8

/- How endings lie in memory; how long they may be. No walk in sight. -/
namespace Go.Proofs.Ytndefbecoahfhaa
open Go.RowKit

abbrev TE : TypeId := 59
abbrev TN : TypeId := 95
abbrev TF : TypeId := 99
theorem infoE : (Try.prog.info? TE).map (fun i => (i.zero, i.size, i.bytes)) = some (some (.agg #[.int .i64 0, .slice none 0 0]), 2, 32) := by kernel_rfl
/-- The cells of a row of endings. -/
def ElemsE (w : World) : List End → List Value → Prop
  | [], xs => xs = []
  | e :: es, xs => ∃ cv ys, xs = .int .i64 e.at_ :: cv :: ys ∧ HasRow w 0 TK 3 cv e.caps.length (capCells e.caps) ∧ ElemsE w es ys
theorem HasRow.weak {w : World} {base b2 : Nat} {e : TypeId} {size : Nat} {v : Value} {n : Nat} {xs : List Value} (h : HasRow w base e size v n xs) (hb : b2 ≤ base) : HasRow w b2 e size v n xs := by
  refine ⟨h.1, ?_⟩
  rcases h.2 with hn | ⟨g, cap, cur, rfl, hg, rest⟩
  · exact .inl hn
  · exact .inr ⟨g, cap, cur, rfl, Nat.le_trans hb hg, rest⟩
theorem HasRow.keepT {w x : World} {base : Nat} {e : TypeId} {size : Nat} {v : Value} {n : Nat} {xs : List Value} (h : HasRow w base e size v n xs) (hk : KeepT e w x) : HasRow x base e size v n xs :=
  h.same fun k hb => by obtain ⟨_, _, c, hc⟩ := h.lt k hb; rw [hk k c hc, hc]
theorem ElemsE.keep {w x : World} (hk : KeepT TK w x) : ∀ (l : List End) (xs : List Value), ElemsE w l xs → ElemsE x l xs
  | [], _, h => h
  | e :: es, xs, h => by
    obtain ⟨cv, ys, rfl, h1, h2⟩ := h
    exact ⟨cv, ys, rfl, h1.keepT hk, ElemsE.keep hk es ys h2⟩
theorem ElemsE.append {w : World} : ∀ (l l2 : List End) (xs ys : List Value), ElemsE w l xs → ElemsE w l2 ys → ElemsE w (l ++ l2) (xs ++ ys)
  | [], l2, xs, ys, h, h2 => by
    simp only [ElemsE] at h
    subst h
    exact h2
  | e :: es, l2, xs, ys, h, h2 => by
    obtain ⟨cv, zs, rfl, h1, h3⟩ := h
    exact ⟨cv, zs ++ ys, rfl, h1, ElemsE.append es l2 zs ys h3 h2⟩
theorem ElemsE.one {w : World} {e : End} {cv : Value} (h : HasRow w 0 TK 3 cv e.caps.length (capCells e.caps)) : ElemsE w [e] [.int .i64 e.at_, cv] := ⟨cv, [], rfl, h, rfl⟩
theorem ElemsE.at_ {w : World} : ∀ (l : List End) (xs : List Value) (j : Nat) (hj : j < l.length), ElemsE w l xs → ∃ cv, xs[j * 2]? = some (.int .i64 l[j].at_) ∧ xs[j * 2 + 1]? = some cv ∧ HasRow w 0 TK 3 cv l[j].caps.length (capCells l[j].caps)
  | [], _, j, hj, _ => by simp at hj
  | e :: es, xs, 0, _, h => by
    obtain ⟨cv, ys, rfl, h1, _⟩ := h
    exact ⟨cv, rfl, rfl, h1⟩
  | e :: es, xs, j + 1, hj, h => by
    obtain ⟨cv, ys, rfl, _, h2⟩ := h
    obtain ⟨cv', a1, a2, a3⟩ := ElemsE.at_ es ys j (by simpa using hj) h2
    refine ⟨cv', ?_, ?_, by simpa using a3⟩
    · rw [show (j + 1) * 2 = j * 2 + 1 + 1 by omega]; simpa using a1
    · rw [show (j + 1) * 2 + 1 = j * 2 + 1 + 1 + 1 by omega]; simpa using a2
theorem ElemsE.oneCell {w : World} : ∀ (l : List End) (xs : List Value), ElemsE w l xs → ∀ u ∈ xs, u.oneCell' = true
  | [], xs, h, u, hu => by
    simp only [ElemsE] at h
    subst h
    simp at hu
  | e :: es, xs, h, u, hu => by
    obtain ⟨cv, ys, rfl, h1, h2⟩ := h
    rcases List.mem_cons.1 hu with rfl | hu
    · rfl
    rcases List.mem_cons.1 hu with rfl | hu
    · obtain ⟨A, c, rfl, _⟩ := h1.form; rfl
    · exact ElemsE.oneCell es ys h2 u hu
/-- The value v is a row of the endings l, in blocks from base on. -/
def EndRow (base : Nat) (w : World) (l : List End) (v : Value) : Prop := ∃ xs, HasRow w base TE 2 v l.length xs ∧ ElemsE w l xs
theorem EndRow.nil (base : Nat) (w : World) : EndRow base w [] (.slice none 0 0) := ⟨[], HasRow.nil _ _ _ _, rfl⟩
theorem EndRow.form {base : Nat} {w : World} {l : List End} {v : Value} (h : EndRow base w l v) : ∃ A cap, v = .slice A l.length cap ∧ l.length ≤ cap ∧ cap ≤ maxLen := by
  obtain ⟨xs, h1, _⟩ := h
  exact h1.form
theorem EndRow.weak {base b2 : Nat} {w : World} {l : List End} {v : Value} (h : EndRow base w l v) (hb : b2 ≤ base) : EndRow b2 w l v := by
  obtain ⟨xs, h1, h2⟩ := h
  exact ⟨xs, h1.weak hb, h2⟩
/-- The cells of one ending. -/
theorem EndRow.cell {base : Nat} {w : World} {l : List End} {v : Value} (h : EndRow base w l v) {j : Nat} (hj : j < l.length) : ∃ g c cv, v = .slice (some ⟨g, 0, none⟩) l.length c ∧ base ≤ g ∧ g < w.heap.size ∧ w.cell? ⟨g, j * 2, none⟩ = some (.int .i64 l[j].at_) ∧ w.cell? ⟨g, j * 2 + 1, none⟩ = some cv ∧ HasRow w 0 TK 3 cv l[j].caps.length (capCells l[j].caps) := by
  obtain ⟨xs, h1, h2⟩ := h
  obtain ⟨g, c, rfl, hb, _, _⟩ := h1.block_ (by omega)
  obtain ⟨cv, a1, a2, a3⟩ := ElemsE.at_ l xs j hj h2
  have hc := h1.cells (g := g) rfl
  exact ⟨g, c, cv, rfl, hb, (h1.lt g rfl).2.1, hc _ _ a1, hc _ _ a2, a3⟩
/-- The row's own block and all captures are as they were. -/
theorem EndRow.same {base : Nat} {w x : World} {l : List End} {v : Value} (h : EndRow base w l v) (hk : KeepT TK w x) (hs : ∀ k, base ≤ k → k < w.heap.size → v.ownBlock = some k → x.heap[k]? = w.heap[k]?) : EndRow base x l v := by
  obtain ⟨xs, h1, h2⟩ := h
  exact ⟨xs, h1.same (fun k hb => hs k (h1.lt k hb).1 (h1.lt k hb).2.1 hb), ElemsE.keep hk _ _ h2⟩
theorem EndRow.later {base : Nat} {w x : World} {l : List End} {v : Value} (h : EndRow base w l v) (hl : Later w x) : EndRow base x l v := h.same (KeepT.later hl) (fun k _ hk _ => hl.block k hk)
/-- One more block than the first: a call that writes only into block M. -/
theorem KeepT.drawn {M : Nat} {w x : World} {T T' : TypeId} {cs : Array Value} (h : Drawn M w x) (hM : w.heap[M]? = some (.cells cs T' (0, 0))) (hne : T' ≠ T) : KeepT T w x := fun b cur hb => by
  have hbM : b ≠ M := fun e => by subst e; rw [hM] at hb; cases hb; exact hne rfl
  rw [h.other b (has_lt' hb) hbM]; exact hb
/-! ### How long -/
/-- At most k endings, each with at most k captures. -/
def LB (l : List End) (k : Nat) : Prop := l.length ≤ k ∧ ∀ e ∈ l, e.caps.length ≤ k
theorem LB.mono {l : List End} {k j : Nat} (h : LB l k) (hk : k ≤ j) : LB l j := ⟨Nat.le_trans h.1 hk, fun e he => Nat.le_trans (h.2 e he) hk⟩
theorem LB.nil (k : Nat) : LB [] k := ⟨Nat.zero_le _, by simp⟩
theorem LB.one (a k : Nat) (h : 1 ≤ k) : LB [⟨a, []⟩] k := ⟨h, by simp⟩
theorem LB.append {l l2 : List End} {a b : Nat} (h : LB l a) (h2 : LB l2 b) : LB (l ++ l2) (a + b) := ⟨by simp; have := h.1; have := h2.1; omega, fun e he => by
  rcases List.mem_append.1 he with he | he
  · have := h.2 e he; omega
  · have := h2.2 e he; omega⟩
theorem after_len {f : Nat → Nat → EvR} {least : Int} {c : Nat} (hf : ∀ b a l st b', f b a = some (l, st, b') → b' ≤ b ∧ LB l (b - b')) :
    ∀ (es acc : List End) (stop : Bool) (b : Nat) (L : List End) (st : Bool) (b' : Nat) (q : Nat), (∀ e ∈ es, e.caps.length ≤ c) → LB acc q → c ≤ q → afterE f least es acc stop b = some (L, st, b') → b' ≤ b ∧ LB L (q + (b - b'))
  | [], acc, stop, b, L, st, b', q, _, ha, hq, h => by
    simp only [afterE, Option.some.injEq, Prod.mk.injEq] at h
    obtain ⟨rfl, rfl, rfl⟩ := h
    exact ⟨Nat.le_refl _, ha.mono (by omega)⟩
  | e :: es, acc, stop, b, L, st, b', q, hc, ha, hq, h => by
    have hc' : ∀ x ∈ es, x.caps.length ≤ c := fun x hx => hc x (List.mem_cons_of_mem _ hx)
    have hce := hc e List.mem_cons_self
    simp only [afterE] at h
    split at h
    · exact after_len hf es acc stop b L st b' q hc' ha hq h
    · cases hfe : f b e.at_ with
      | none => rw [hfe] at h; cases h
      | some r =>
        obtain ⟨l, inner, b1⟩ := r
        rw [hfe] at h
        simp only at h
        obtain ⟨hb1, hl⟩ := hf b e.at_ l inner b1 hfe
        split at h
        · rename_i hlen
          have hacc : LB (acc ++ l.map e.join) (q + (b - (b1 - l.length))) := by
            refine ⟨by simp; have := ha.1; omega, fun x hx => ?_⟩
            rcases List.mem_append.1 hx with hx | hx
            · have := ha.2 x hx; omega
            · obtain ⟨y, hy, rfl⟩ := List.mem_map.1 hx
              have := hl.2 y hy
              simp only [End.join, List.length_append]
              omega
          split at h
          · cases h
            exact ⟨by omega, hacc⟩
          · obtain ⟨g1, g2⟩ := after_len hf es _ stop _ L st b' _ hc' hacc (by omega) h
            exact ⟨by omega, g2.mono (by omega)⟩
        · cases h
theorem ev_len {defs : List Pat} {s : ByteArray} : ∀ (n b : Nat) (p : Pat) (a : Nat) (l : List End) (st : Bool) (b' : Nat), ev defs s n b p a = some (l, st, b') → b' ≤ b ∧ LB l (b - b')
  | 0, b, p, a, l, st, b', h => by simp [ev] at h
  | n + 1, 0, p, a, l, st, b', h => by simp [ev] at h
  | n + 1, b + 1, p, a, l, st, b', h => by
    have ih := fun b p a l st b' => ev_len (defs := defs) (s := s) n b p a l st b'
    rw [ev] at h
    by_cases h11 : p.op = 11
    · rw [if_pos h11] at h
      split at h
      · cases h
        refine ⟨by omega, by omega, fun e he => ?_⟩
        simp only [arbE, List.mem_map] at he
        obtain ⟨i, _, rfl⟩ := he
        simp
      · cases h
    rw [if_neg h11] at h
    by_cases h13 : p.op = 13
    · rw [if_pos h13] at h
      cases h0 : ev defs s n b (p.kid 0) a with
      | none => rw [h0] at h; cases h
      | some r =>
        obtain ⟨l0, s0, b0⟩ := r
        rw [h0] at h
        obtain ⟨g1, g2⟩ := ih _ _ _ _ _ _ h0
        obtain ⟨k1, k2⟩ := after_len (c := b - b0) (fun b x l st b' hf => ih b p x l st b' hf) l0 [⟨a, []⟩] s0 b0 l st b' (1 + (b - b0)) g2.2 (LB.one _ _ (by omega)) (by omega) h
        exact ⟨by omega, k2.mono (by omega)⟩
    rw [if_neg h13] at h
    by_cases h14 : p.op = 14
    · rw [if_pos h14] at h
      cases h0 : ev defs s n b (p.kid 0) a with
      | none => rw [h0] at h; cases h
      | some r =>
        obtain ⟨l0, s0, b0⟩ := r
        rw [h0] at h
        obtain ⟨g1, g2⟩ := ih _ _ _ _ _ _ h0
        obtain ⟨k1, k2⟩ := after_len (c := b - b0) (fun b x l st b' hf => ih b _ x l st b' hf) l0 [] s0 b0 l st b' (b - b0) g2.2 (LB.nil _) (by omega) h
        exact ⟨by omega, k2.mono (by omega)⟩
    rw [if_neg h14] at h
    by_cases h15 : p.op = 15
    · rw [if_pos h15] at h
      cases h0 : ev defs s n b (p.kid 0) a with
      | none => rw [h0] at h; cases h
      | some r =>
        obtain ⟨l0, s0, b0⟩ := r
        rw [h0] at h
        obtain ⟨g1, g2⟩ := ih _ _ _ _ _ _ h0
        simp only at h
        split at h
        · cases h; exact ⟨by omega, g2.mono (by omega)⟩
        · cases h1 : ev defs s n b0 (p.kid 1) a with
          | none => rw [h1] at h; cases h
          | some r =>
            obtain ⟨l1, s1, b1⟩ := r
            rw [h1] at h
            cases h
            obtain ⟨k1, k2⟩ := ih _ _ _ _ _ _ h1
            exact ⟨by omega, (g2.append k2).mono (by omega)⟩
    rw [if_neg h15] at h
    by_cases h16 : p.op = 16
    · rw [if_pos h16] at h
      cases h0 : ev defs s n b (p.kid 0) a with
      | none => rw [h0] at h; cases h
      | some r =>
        obtain ⟨l0, s0, b0⟩ := r
        rw [h0] at h
        cases h
        obtain ⟨g1, g2⟩ := ih _ _ _ _ _ _ h0
        refine ⟨by omega, by simp; have := g2.1; omega, fun e he => ?_⟩
        obtain ⟨y, hy, rfl⟩ := List.mem_map.1 he
        have := g2.2 y hy
        simp
        omega
    rw [if_neg h16] at h
    by_cases h17 : p.op = 17
    · rw [if_pos h17] at h
      obtain ⟨g1, g2⟩ := ih _ _ _ _ _ _ h
      exact ⟨by omega, g2.mono (by omega)⟩
    rw [if_neg h17] at h
    by_cases h18 : p.op = 18
    · rw [if_pos h18] at h; cases h; exact ⟨by omega, LB.one _ _ (by omega)⟩
    rw [if_neg h18] at h
    by_cases h19 : p.op = 19
    · rw [if_pos h19] at h; cases h; exact ⟨by omega, LB.one _ _ (by omega)⟩
    rw [if_neg h19] at h
    by_cases h20 : p.op = 20
    · rw [if_pos h20] at h
      obtain ⟨g1, g2⟩ := ih _ _ _ _ _ _ h
      exact ⟨by omega, g2.mono (by omega)⟩
    rw [if_neg h20] at h
    by_cases h21 : p.op = 21
    · rw [if_pos h21] at h; cases h; exact ⟨by omega, LB.nil _⟩
    rw [if_neg h21] at h
    cases ho : oneEnd p.op p.text p.num p.lo p.hi s a with
    | none => rw [ho] at h; cases h; exact ⟨by omega, LB.nil _⟩
    | some e => rw [ho] at h; cases h; exact ⟨by omega, LB.one _ _ (by omega)⟩
end Go.Proofs.Ytndefbecoahfhaa

/- impl's endings: step and joinCaptures. -/
namespace Go.Proofs.Ytndefbecoahfhaa
open Go.RowKit

/-- The state of impl's endings in block M: what is left of the budget; none: it was exceeded. -/
def NSt (w : World) (M : Nat) (dA : Option Addr) (dn dc : Nat) (s : ByteArray) : Option Nat → Prop
  | some b => b ≤ 3000 ∧ w.heap[M]? = some (.cells #[.slice dA dn dc, .string s, .int .i64 (3000 - (b : Int)), .bool false] TN (0, 0))
  | none => ∃ k : Int, w.heap[M]? = some (.cells #[.slice dA dn dc, .string s, .int .i64 k, .bool true] TN (0, 0))
section
variable {w x : World} {M : Nat} {dA : Option Addr} {dn dc : Nat} {s : ByteArray} {b : Option Nat}
theorem NSt.some_ (h : NSt w M dA dn dc s b) : ∃ cs, w.heap[M]? = some (.cells cs TN (0, 0)) := by
  cases b with
  | none => obtain ⟨k, h⟩ := h; exact ⟨_, h⟩
  | some b => exact ⟨_, h.2⟩
theorem NSt.lt (h : NSt w M dA dn dc s b) : M < w.heap.size := by obtain ⟨cs, h⟩ := h.some_; exact has_lt' h
theorem NSt.later (h : NSt w M dA dn dc s b) (hl : Later w x) : NSt x M dA dn dc s b := by
  cases b with
  | none => obtain ⟨k, h⟩ := h; exact ⟨k, hl.has h⟩
  | some b => exact ⟨h.1, hl.has h.2⟩
theorem NSt.same (h : NSt w M dA dn dc s b) (hs : x.heap[M]? = w.heap[M]?) : NSt x M dA dn dc s b := by
  cases b with
  | none => obtain ⟨k, h⟩ := h; exact ⟨k, hs.trans h⟩
  | some b => exact ⟨h.1, hs.trans h.2⟩
theorem NSt.keep (h : NSt w M dA dn dc s b) (hd : Drawn M w x) : KeepT TK w x := by
  obtain ⟨cs, h⟩ := h.some_
  exact KeepT.drawn hd h (by decide)
end
theorem cells_n {x : World} {b : Nat} {v0 v1 v2 v3 : Value} {t : TypeId} (h : x.heap[b]? = some (.cells #[v0, v1, v2, v3] t (0, 0))) : x.cell? ⟨b, 0, none⟩ = some v0 ∧ x.cell? ⟨b, 1, none⟩ = some v1 ∧ x.cell? ⟨b, 2, none⟩ = some v2 ∧ x.cell? ⟨b, 3, none⟩ = some v3 :=
  ⟨cell_of_row x b 0 _ _ _ h, cell_of_row x b 1 _ _ _ h, cell_of_row x b 2 _ _ _ h, cell_of_row x b 3 _ _ _ h⟩
theorem set_n {w : World} {B : Nat} {v0 v1 v2 v3 : Value} {t : TypeId} (h : w.heap[B]? = some (.cells #[v0, v1, v2, v3] t (0, 0))) (v : Value) :
    (w.setCell ⟨B, 2, none⟩ v).heap[B]? = some (.cells #[v0, v1, v, v3] t (0, 0)) ∧ (w.setCell ⟨B, 3, none⟩ v).heap[B]? = some (.cells #[v0, v1, v2, v] t (0, 0)) := by
  have g := fun o => heap_set_own (o := o) h v
  refine ⟨?_, ?_⟩
  · simpa only [List.setIfInBounds_toArray, List.set_cons_zero, List.set_cons_succ] using g 2
  · simpa only [List.setIfInBounds_toArray, List.set_cons_zero, List.set_cons_succ] using g 3
/-- One step less. -/
def less : Option Nat → Option Nat
  | some (b + 1) => some b
  | _ => none
def Stepped (M : Nat) (dA : Option Addr) (dn dc : Nat) (s : ByteArray) (b : Option Nat) (w : World) (e : Ending) (w' : World) : Prop := e = .returned (.bool (less b).isSome) ∧ NSt w' M dA dn dc s (less b) ∧ Drawn M w w' ∧ w'.heap.size = w.heap.size
set_option maxRecDepth 100000 in
set_option maxHeartbeats 1000000 in
theorem implStep_any (M : Nat) (dA : Option Addr) (dn dc : Nat) (s : ByteArray) (b : Option Nat) (w : World) (h : NSt w M dA dn dc s b) :
    Calls Try.prog 77 #[.pointer (some ⟨M, 0, none⟩)] w (Stepped M dA dn dc s b w) := by
  have hlt := h.lt
  cases b with
  | none =>
    obtain ⟨k, hb⟩ := h
    obtain ⟨c0, c1, c2, c3⟩ := cells_n hb
    obtain ⟨f0, f1, f2, f3, _⟩ := frozen_r hb
    have HB := Lib.hid hb
    clear hb
    go_enter Try.func77, Try.ntmps77
    go_wp2_with fail
    · go_ret
      exact ⟨rfl, ⟨_, (set_n (set_n HB.out _).1 _).2⟩, ((Drawn.refl M w).set 2 _).set 3 _, by simp⟩
    · go_ret
      exact ⟨rfl, ⟨_, (set_n HB.out _).1⟩, (Drawn.refl M w).set 2 _, by simp⟩
  | some b =>
    obtain ⟨hb3, hb⟩ := h
    obtain ⟨c0, c1, c2, c3⟩ := cells_n hb
    obtain ⟨f0, f1, f2, f3, _⟩ := frozen_r hb
    have HB := Lib.hid hb
    clear hb
    cases b with
    | zero =>
      go_enter Try.func77, Try.ntmps77
      go_wp2_with fail
      go_ret
      exact ⟨rfl, ⟨_, (set_n (set_n HB.out _).1 _).2⟩, ((Drawn.refl M w).set 2 _).set 3 _, by simp⟩
    | succ b =>
      have t1 : decide ((3000 : Int) < 3000 - ((b + 1 : Nat) : Int) + 1) = false := by simp; omega
      have t2 : decide ((3000 : Int) < 3000 - ((b : Int) + 1) + 1) = false := by simp; omega
      go_enter Try.func77, Try.ntmps77
      go_wp2_with fail
      go_ret
      refine ⟨rfl, ⟨by omega, ?_⟩, (Drawn.refl M w).set 2 _, by simp⟩
      have h7 := (set_n HB.out (.int .i64 (3000 - (b : Int)))).1
      rw [← h7]
      congr 4
      omega

def Joined (a b : List Cap) (w : World) (e : Ending) (w' : World) : Prop := ∃ v, e = .returned v ∧ HasRow w' w.heap.size TK 3 v (a.length + b.length) (capCells (a ++ b)) ∧ Later w w'
set_option maxRecDepth 100000 in
set_option maxHeartbeats 1000000 in
theorem joinCaptures_any (a b : List Cap) (u v : Value) (w : World) (hu : HasRow w 0 TK 3 u a.length (capCells a)) (hv : HasRow w 0 TK 3 v b.length (capCells b)) (ha : a.length ≤ 100000) (hb : b.length ≤ 100000) :
    Calls Try.prog 80 #[u, v] w (Joined a b w) := by
  have HU := Lib.hid hu
  have HV := Lib.hid hv
  clear hu hv
  obtain ⟨i, hi, hz0, hz1, hz2⟩ := info_parts infoK
  have hl := Later.alloc (Later.refl w) (.cells #[] TK)
  go_enter Try.func80, Try.ntmps80
  go_wp2_with (at_builtin; refine wpList_append_fresh _ rfl _ _ _ rfl w.heap.size 0 TK i _ 3 24 Try.underlying31 hi hz0 hz1 hz2 rfl rfl (heap_alloc_new w _) (Nat.le_refl _) rfl (HU.out.keepT (KeepT.later hl)) (by omega) (by omega) ?_; fail_if_success done)
  intro v1 w1 hrow1 hl1 hown1
  have HR1 := Lib.hid hrow1
  have HL1 := Lib.hid (hl.trans hl1)
  have HV1 := Lib.hid (HV.out.keepT (KeepT.later (hl.trans hl1)))
  clear hrow1 hl1 hown1
  go_wp2_with (at_builtin; refine wpList_append_row _ rfl _ _ _ rfl w.heap.size 0 TK i _ 3 24 Try.underlying31 hi hz0 hz1 hz2 rfl rfl HR1.out rfl HV1.out (capCells_one _) ?a3 ?a4 (by omega) ?a5 ?_; fail_if_success done)
  case a3 => omega
  case a4 => omega
  case a5 => exact HL1.out.size
  intro v2 w2 hrow2 hg2 hown2
  have hL2 : Later w w2 := Below.grown HL1.out hg2 HL1.out.size (fun k hk => (HR1.out.lt k hk).1)
  have HR2 := Lib.hid hrow2
  clear hrow2 hg2 hown2
  go_wp2_with fail
  go_ret
  exact ⟨_, rfl, by rw [capCells_append]; exact HR2.out, hL2⟩
end Go.Proofs.Ytndefbecoahfhaa

/- impl's after: what a pattern has from each of some endings on. Printed by gen_endafter.py. -/
namespace Go.Proofs.Ytndefbecoahfhaa
open Go.RowKit

/-- Below base only block M was written to; rows of captures and patterns are as they were. -/
structure DrB (base M : Nat) (w x : World) : Prop where
  os : x.os = w.os
  tape : x.tape = w.tape
  output : x.output = w.output
  size : w.heap.size ≤ x.heap.size
  other : ∀ k, k < base → k ≠ M → x.heap[k]? = w.heap[k]?
  caps : KeepT TK w x
  pats : KeepT TP w x
theorem DrB.refl (base M : Nat) (w : World) : DrB base M w w := ⟨rfl, rfl, rfl, Nat.le_refl _, fun _ _ _ => rfl, KeepT.refl _ _, KeepT.refl _ _⟩
theorem DrB.trans {base M : Nat} {w x y : World} (h : DrB base M w x) (k : DrB base M x y) : DrB base M w y :=
  ⟨k.os.trans h.os, k.tape.trans h.tape, k.output.trans h.output, Nat.le_trans h.size k.size, fun i h1 h2 => (k.other i h1 h2).trans (h.other i h1 h2), h.caps.trans k.caps, h.pats.trans k.pats⟩
theorem DrB.drawn {base M : Nat} {w x : World} {cs : Array Value} (h : Drawn M w x) (hM : w.heap[M]? = some (.cells cs TN (0, 0))) (hb : base ≤ w.heap.size) : DrB base M w x :=
  ⟨h.below.os, h.below.tape, h.below.output, h.below.size, fun k h1 h2 => h.other k (by omega) h2, KeepT.drawn h hM (by decide), KeepT.drawn h hM (by decide)⟩
theorem DrB.later {base M : Nat} {w x : World} (h : Later w x) (hb : base ≤ w.heap.size) : DrB base M w x :=
  ⟨h.os, h.tape, h.output, h.size, fun k h1 _ => h.block k (by omega), KeepT.later h, KeepT.later h⟩
theorem DrB.grown {base M : Nat} {w x : World} {v : Value} {n : Nat} {xs : List Value} (hr : HasRow w base TE 2 v n xs) (hg : w.grownBy x v.ownBlock) (hb : base ≤ w.heap.size) : DrB base M w x :=
  ⟨hg.os, hg.tape, hg.output, hg.size, fun k h1 _ => hg.block k (by omega) (fun e => by have := (hr.lt k e.symm).1; omega),
    KeepT.grown hg (fun k hk => (hr.lt k hk).2.2) (by decide), KeepT.grown hg (fun k hk => (hr.lt k hk).2.2) (by decide)⟩
theorem DrB.weak {base b2 M : Nat} {w x : World} (h : DrB base M w x) (hb : b2 ≤ base) : DrB b2 M w x := { h with other := fun k h1 h2 => h.other k (by omega) h2 }
/-- A world of the call is later than the one it began with. -/
theorem DrB.out {base M : Nat} {w0 w x : World} (h : DrB base M w x) (hl : Later w0 w) (h1 : w0.heap.size ≤ base) (h2 : w0.heap.size ≤ M) : Later w0 x :=
  ⟨h.os.trans hl.os, h.tape.trans hl.tape, h.output.trans hl.output, Nat.le_trans hl.size h.size, fun k hk => (h.other k (by omega) (by omega)).trans (hl.block k hk)⟩
theorem DrB.drawnOf {M : Nat} {w x : World} (h : DrB w.heap.size M w x) (hM : M < w.heap.size) : Drawn M w x :=
  ⟨⟨h.os, h.tape, h.output, h.size, fun k hk => h.other k (by omega) (by omega)⟩, fun k hk hc => h.other k hk hc⟩
/-- What eval leaves. -/
def EvPost (w : World) (M : Nat) (dA : Option Addr) (dn dc : Nat) (s : ByteArray) (b : Nat) (r : EvR) (e : Ending) (w' : World) : Prop :=
  ∃ v st, e = .returned (.tuple #[v, .bool st]) ∧ Drawn M w w' ∧ match r with
    | some (l, st', b') => st = st' ∧ EndRow w.heap.size w' l v ∧ NSt w' M dA dn dc s (some b')
    | none => (∃ l, EndRow w.heap.size w' l v ∧ LB l b) ∧ NSt w' M dA dn dc s none
/-- What after leaves. -/
def AfPost (w : World) (base M : Nat) (dA : Option Addr) (dn dc : Nat) (s : ByteArray) (r : EvR) (e : Ending) (w' : World) : Prop :=
  ∃ v st, e = .returned (.tuple #[v, .bool st]) ∧ DrB base M w w' ∧ match r with
    | some (l, st', b') => st = st' ∧ EndRow base w' l v ∧ NSt w' M dA dn dc s (some b')
    | none => v = .slice none 0 0 ∧ NSt w' M dA dn dc s none
/-- eval of the pattern p, at depth n. -/
def EvalIs (w0 : World) (M : Nat) (dA : Option Addr) (dn dc : Nat) (defs : List Pat) (s : ByteArray) (n : Nat) (p : Pat) (kv : Value) : Prop :=
  ∀ (b a : Nat) (w : World), b < n → a ≤ s.size → Later w0 w → NSt w M dA dn dc s (some b) → Calls Try.prog 57 #[.pointer (some ⟨M, 0, none⟩), p.v kv, .int .i64 a] w (EvPost w M dA dn dc s b (ev defs s n b p a))
/-- The head of a round of the outer loop. -/
structure AfSt (w : World) (base M : Nat) (dA : Option Addr) (dn dc : Nat) (s : ByteArray) (f : Nat → Nat → EvR) (least : Int) (firsts : List End) (stop : Bool) (T : EvR) (c P : Nat) (po : Obj) (j : Nat) (acc : List End) (b : Nat) (lv : Value) (wr : World) : Prop where
  lt : j ≤ firsts.length
  row : EndRow base wr acc lv
  st : NSt wr M dA dn dc s (some b)
  fr : DrB base M w wr
  lb : ∃ q, LB acc q ∧ c ≤ q ∧ q + b ≤ 3001
  eq : afterE f least (firsts.drop j) acc stop b = T
  blk : wr.heap[P]? = some po
theorem cells_two {x : World} {b : Nat} {v0 v1 : Value} {t : TypeId} (h : x.heap[b]? = some (.cells #[v0, v1] t (0, 0))) : x.cell? ⟨b, 0, none⟩ = some v0 ∧ x.cell? ⟨b, 1, none⟩ = some v1 := ⟨cell_of_row x b 0 _ _ _ h, cell_of_row x b 1 _ _ _ h⟩
theorem cells_fresh (w : World) (cs : List Value) (t : TypeId) : ∀ j u, cs[j]? = some u → (w.alloc (.cells cs.toArray t)).cell? ((⟨w.heap.size, 0, none⟩ : Addr).add j) = some u := by
  intro j u h
  rw [show (⟨w.heap.size, 0, none⟩ : Addr).add j = ⟨w.heap.size, j, none⟩ by unfold Addr.add; split <;> simp_all, cell_of_row _ _ j _ _ _ (heap_alloc_new w _)]
  simpa using h
/-- The head of a round of the inner loop. -/
structure InSt (w : World) (base M : Nat) (acc l2 : List End) (fe : End) (v2 : Value) (B : Nat) (bo : Obj) (P : Nat) (po : Obj) (k : Nat) (lv : Value) (x : World) : Prop where
  lt : k ≤ l2.length
  row : EndRow base x (acc ++ (l2.take k).map fe.join) lv
  sec : EndRow 0 x l2 v2
  apart : ∀ g, v2.ownBlock = some g → lv.ownBlock ≠ some g ∧ g ≠ M ∧ g < x.heap.size
  box : x.heap[B]? = some bo
  apartB : lv.ownBlock ≠ some B ∧ B ≠ M
  fr : DrB base M w x
  blk : x.heap[P]? = some po
  hP : P ≠ M ∧ base ≤ x.heap.size ∧ M < base
section
variable {w : World} {base M : Nat} {acc l2 : List End} {fe : End} {v2 : Value} {B : Nat} {bo : Obj} {P : Nat} {po : Obj} {k : Nat} {lv : Value} {x y : World}
theorem InSt.drawn {cs : Array Value} (h : InSt w base M acc l2 fe v2 B bo P po k lv x) (hd : Drawn M x y) (hM : x.heap[M]? = some (.cells cs TN (0, 0))) : InSt w base M acc l2 fe v2 B bo P po k lv y := by
  have hk : KeepT TK x y := KeepT.drawn hd hM (by decide)
  exact ⟨h.lt, h.row.same hk (fun g h1 h2 _ => hd.other g h2 (by have := h.hP; omega)), h.sec.same hk (fun g _ h2 h3 => hd.other g h2 (h.apart g h3).2.1), fun g hg => ⟨(h.apart g hg).1, (h.apart g hg).2.1, Nat.lt_of_lt_of_le (h.apart g hg).2.2 hd.below.size⟩,
    hd.has h.box h.apartB.2, h.apartB, h.fr.trans (DrB.drawn hd hM h.hP.2.1), hd.has h.blk h.hP.1, ⟨h.hP.1, Nat.le_trans h.hP.2.1 hd.below.size, h.hP.2.2⟩⟩
theorem InSt.later (h : InSt w base M acc l2 fe v2 B bo P po k lv x) (hd : Later x y) : InSt w base M acc l2 fe v2 B bo P po k lv y :=
  ⟨h.lt, h.row.later hd, h.sec.later hd, fun g hg => ⟨(h.apart g hg).1, (h.apart g hg).2.1, Nat.lt_of_lt_of_le (h.apart g hg).2.2 hd.size⟩, hd.has h.box, h.apartB, h.fr.trans (DrB.later hd h.hP.2.1), hd.has h.blk, ⟨h.hP.1, Nat.le_trans h.hP.2.1 hd.size, h.hP.2.2⟩⟩
theorem InSt.push {cs : Array Value} (hpo : po = .cells cs TP (0, 0)) (h : InSt w base M acc l2 fe v2 B bo P po k lv x) (hlt : k < l2.length) {xs : List Value} {jv v' : Value} (hx : HasRow x base TE 2 lv (acc ++ (l2.take k).map fe.join).length xs) (he : ElemsE x (acc ++ (l2.take k).map fe.join) xs)
    (hj : HasRow x 0 TK 3 jv (fe.join l2[k]).caps.length (capCells (fe.join l2[k]).caps))
    (hrow : HasRow y base TE 2 v' ((acc ++ (l2.take k).map fe.join).length + 1) (xs ++ [.int .i64 l2[k].at_, jv])) (hg : x.grownBy y lv.ownBlock) (hb : v'.ownBlock = lv.ownBlock ∨ v'.ownBlock = some x.heap.size) :
    InSt w base M acc l2 fe v2 B bo P po (k + 1) v' y := by
  have hfr : DrB base M x y := DrB.grown hx hg h.hP.2.1
  have hB := has_lt' h.box
  have htake : acc ++ (l2.take (k + 1)).map fe.join = (acc ++ (l2.take k).map fe.join) ++ [fe.join l2[k]] := by
    rw [List.take_succ_eq_append_getElem hlt, List.map_append, List.append_assoc]; rfl
  refine ⟨hlt, ?_, h.sec.same hfr.caps (fun g _ h2 h3 => hg.block g h2 (fun e => (h.apart g h3).1 e.symm)), fun g hgg => ⟨?_, (h.apart g hgg).2.1, Nat.lt_of_lt_of_le (h.apart g hgg).2.2 hg.size⟩, (hg.block B hB (fun e => h.apartB.1 e.symm)).trans h.box, ⟨?_, h.apartB.2⟩, h.fr.trans hfr, ?_, ⟨h.hP.1, Nat.le_trans h.hP.2.1 hg.size, h.hP.2.2⟩⟩
  · rw [htake]
    exact ⟨_, by rw [List.length_append, List.length_singleton]; exact hrow, ElemsE.keep hfr.caps _ _ (ElemsE.append _ _ _ _ he (ElemsE.one (e := fe.join l2[k]) hj))⟩
  · rcases hb with hb | hb
    · rw [hb]; exact (h.apart g hgg).1
    · rw [hb]; intro e; cases e; have := (h.apart _ hgg).2.2; omega
  · rcases hb with hb | hb
    · rw [hb]; exact h.apartB.1
    · rw [hb]; intro e; cases e; omega
  · subst hpo
    exact hfr.pats _ _ h.blk
end

set_option maxRecDepth 100000 in
set_option maxHeartbeats 4000000 in
theorem after_any (w0 : World) (M : Nat) (dA : Option Addr) (dn dc : Nat) (defs : List Pat) (s : ByteArray) (n : Nat) (p : Pat) (kv : Value) (hev : EvalIs w0 M dA dn dc defs s n p kv)
    (w : World) (base b : Nat) (acc firsts : List End) (lv fv : Value) (stop : Bool) (least : Int) (c : Nat) (hl : Later w0 w) (hM0 : w0.heap.size ≤ M) (hMb : M < base) (hbw : base ≤ w.heap.size) (hst : NSt w M dA dn dc s (some b)) (hbn : b < n)
    (hacc : EndRow base w acc lv) (hf : EndRow 0 w firsts fv) (hfb : ∀ k, fv.ownBlock = some k → k < base ∧ k ≠ M) (hfw : ∀ e ∈ firsts, e.at_ ≤ s.size) (hfc : ∀ e ∈ firsts, e.caps.length ≤ c) (hlb : ∃ q, LB acc q ∧ c ≤ q ∧ q + b ≤ 3001) (hkv : KidsIn w0 p kv) :
    Calls Try.prog 79 #[.pointer (some ⟨M, 0, none⟩), lv, fv, .bool stop, p.v kv, .int .i64 least] w (AfPost w base M dA dn dc s (afterE (fun b a => ev defs s n b p a) least firsts acc stop b)) := by
  obtain ⟨kA, kc, hkvf, _, _⟩ := hkv.form
  subst hkvf
  obtain ⟨fA, fc, hfvf, _, hfcm⟩ := hf.form
  subst hfvf
  obtain ⟨T, hT⟩ : ∃ T, afterE (fun b a => ev defs s n b p a) least firsts acc stop b = T := ⟨_, rfl⟩
  rw [hT]
  have HF := Lib.hid hf
  have HFB := Lib.hid hfb
  have HEV := Lib.hid hev
  have hlw := Later.alloc (Later.refl w) (.cells #[.int .i64 p.op, .string p.text, .int .i64 p.num, .int .i64 p.lo, .int .i64 p.hi, .slice kA p.kids.length kc] TP)
  have HA : Hid (AfSt w base M dA dn dc s (fun b a => ev defs s n b p a) least firsts stop T c w.heap.size (.cells #[.int .i64 p.op, .string p.text, .int .i64 p.num, .int .i64 p.lo, .int .i64 p.hi, .slice kA p.kids.length kc] TP (0, 0)) 0 acc b lv (w.alloc (.cells #[.int .i64 p.op, .string p.text, .int .i64 p.num, .int .i64 p.lo, .int .i64 p.hi, .slice kA p.kids.length kc] TP))) :=
    Lib.hid ⟨Nat.zero_le _, hacc.later hlw, hst.later hlw, DrB.later hlw hbw, hlb, hT, heap_alloc_new _ _⟩
  have HFW := Lib.hid hfw
  have HFC := Lib.hid hfc
  have HL0 := Lib.hid hl
  have hflen : firsts.length ≤ maxLen := by omega
  unfold maxLen at hflen
  clear hf hfb hev hacc hst hlw hT hlb hfw hfc hl hkv hfcm
  go_enter Try.func79, Try.ntmps79
  go_wp2_with fail
  go_loopw [22, 1] (fun i v wr => ∃ (j : Nat) (acc : List End) (b2 : Nat) (lv : Value), lv = v ∧ i = .int .i64 j ∧ b2 ≤ b ∧ AfSt w base M dA dn dc s (fun b a => ev defs s n b p a) least firsts stop T c w.heap.size (.cells #[.int .i64 p.op, .string p.text, .int .i64 p.num, .int .i64 p.lo, .int .i64 p.hi, .slice kA p.kids.length kc] TP (0, 0)) j acc b2 lv wr) (fun i _ _ => firsts.length - (intOf i).toNat)
  case atStart => exact ⟨0, acc, b, _, rfl, rfl, Nat.le_refl _, HA.out⟩
  case round =>
    clear HA
    obtain ⟨j, acc, b2, lv, rfl, rfl, hb2, has⟩ := hrel
    obtain ⟨wo, rfl⟩ : ∃ wo : World, wo = wr := ⟨_, rfl⟩
    have hjl := has.lt
    by_cases hlt : j < firsts.length
    · have t1 : decide ((j : Int) < firsts.length) = true := by simp; omega
      have t1' : decide (j < firsts.length) = true := by simp; omega
      obtain ⟨g, fc', cvf, hfv, _, hg0, e00, e01, hcvf⟩ := HF.out.cell hlt
      obtain ⟨rfl, rfl⟩ : fA = some ⟨g, 0, none⟩ ∧ fc = fc' := by simpa using hfv
      have hgb := HFB.out g rfl
      have hcell : ∀ o, wo.cell? ⟨g, o, none⟩ = w.cell? ⟨g, o, none⟩ := fun o => by unfold World.cell?; rw [has.fr.other g hgb.1 hgb.2]
      have e0 := (hcell _).trans e00
      have e1 := (hcell _).trans e01
      have hg : g < wo.heap.size := Nat.lt_of_lt_of_le hg0 has.fr.size
      clear hcell e00 e01 hg0
      obtain ⟨cfA, cfc, hcf, _, _⟩ := hcvf.form
      subst hcf
      clear hfv
      obtain ⟨fe, hfe⟩ : ∃ fe, firsts[j] = fe := ⟨_, rfl⟩
      rw [hfe] at e0 e1 hcvf
      have hfw := HFW.out fe (by rw [← hfe]; exact List.getElem_mem hlt)
      have hfc := HFC.out fe (by rw [← hfe]; exact List.getElem_mem hlt)
      have hdrop : firsts.drop j = fe :: firsts.drop (j + 1) := by rw [List.drop_eq_getElem_cons hlt, hfe]
      have heq := has.eq
      rw [hdrop] at heq
      have HEQ := Lib.hid heq
      have HAS := Lib.hid has
      have HCV := Lib.hid hcvf
      clear hdrop heq has hcvf hfe
      by_cases hle : (fe.at_ : Int) ≤ least
      · have t2 : decide ((fe.at_ : Int) ≤ least) = true := by simpa using hle
        have heq2 := HEQ.out
        simp only [afterE, if_pos hle] at heq2
        have HEQ2 := Lib.hid heq2
        clear heq2
        have hlw := Later.alloc (Later.refl wo) (.cells #[.int .i64 fe.at_, .slice cfA fe.caps.length cfc] TE)
        have HLW := Lib.hid hlw
        clear hlw
        go_wp2_with fail
        go_roundw
        case rel => exact ⟨j + 1, acc, b2, _, rfl, by simp, hb2, by omega, HAS.out.row.later HLW.out, HAS.out.st.later HLW.out, HAS.out.fr.trans (DrB.later HLW.out (Nat.le_trans hbw HAS.out.fr.size)), HAS.out.lb, HEQ2.out, HLW.out.has HAS.out.blk⟩
        case measure => simp [intOf]; omega
      · have t2 : decide ((fe.at_ : Int) ≤ least) = false := by simpa using hle
        obtain ⟨p0, p1, p2, p3, p4, p5⟩ := cells_p HAS.out.blk
        have hPw : w.heap.size < wo.heap.size := has_lt' HAS.out.blk
        have hlw := Later.alloc (Later.refl wo) (.cells #[.int .i64 fe.at_, .slice cfA fe.caps.length cfc] TE)
        have HLW := Lib.hid hlw
        clear hlw
        go_wp2_with fail
        clear p0 p1 p2 p3 p4 p5
        have hst1 := HAS.out.st.later HLW.out
        refine (HEV.out b2 fe.at_ _ (by omega) hfw ((HAS.out.fr.out HL0.out (by omega) hM0).trans HLW.out) hst1).mono ?_
        rintro e w4 ⟨v2, st2, rfl, hd4, hpost⟩
        obtain ⟨cs1, hcs1⟩ := hst1.some_
        have hw1 : base ≤ (wo.alloc (.cells #[.int .i64 fe.at_, .slice cfA fe.caps.length cfc] TE)).heap.size := by have := HAS.out.fr.size; have := HLW.out.size; omega
        have HFR4 := Lib.hid ((HAS.out.fr.trans (DrB.later HLW.out (Nat.le_trans hbw HAS.out.fr.size))).trans (DrB.drawn hd4 hcs1 hw1))
        have heq1 := HEQ.out
        rw [afterE, if_neg (by omega)] at heq1
        cases hr : ev defs s n b2 p fe.at_ with
        | none =>
          rw [hr] at hpost heq1
          simp only at heq1
          obtain ⟨⟨l2, hrow2, hlb2⟩, kk, hst4⟩ := hpost
          obtain ⟨A2, c2, hv2, _, hc2⟩ := hrow2.form
          subst hv2
          unfold maxLen at hc2
          have HEQ1 := Lib.hid heq1
          have HR2 := Lib.hid hrow2
          have HST4 := Lib.hid hst4
          clear hr heq1 hst4 hrow2 hcs1 hst1 hw1 hd4
          obtain ⟨m0, m1, m2, m3⟩ := cells_n HST4.out
          obtain ⟨f0, f1, f2, f3, _⟩ := frozen_r HST4.out
          go_wp2_with fail
          go_loopw [40, 1] (fun i v wx => i = .int .i64 0 ∧ wx = w4) (fun _ _ _ => 0)
          case atStart => exact ⟨rfl, rfl⟩
          case round =>
            obtain ⟨rfl, hwx⟩ := hrel
            subst hwx
            by_cases hz : l2.length = 0
            · have t3 : decide ((0 : Int) < l2.length) = false := decide_eq_false (by omega)
              have t3' : decide (0 < l2.length) = false := decide_eq_false (by omega)
              clear hz
              go_wp2_with fail
              go_ret2
              refine ⟨_, _, rfl, HFR4.out, ?_⟩
              rw [← HEQ1.out]
              exact ⟨rfl, _, HST4.out⟩
            · have hz0 : 0 < l2.length := by omega
              have t3 : decide ((0 : Int) < l2.length) = true := decide_eq_true (by omega)
              have t3' : decide (0 < l2.length) = true := decide_eq_true (by omega)
              clear hz
              obtain ⟨g2, c2', cv2, hv2, _, hg2, a0, a1, hcv2⟩ := HR2.out.cell (j := 0) hz0
              obtain ⟨rfl, rfl⟩ : A2 = some ⟨g2, 0, none⟩ ∧ c2 = c2' := by simpa using hv2
              obtain ⟨cA2, cc2, hcv, _, _⟩ := hcv2.form
              subst hcv
              simp only [Nat.zero_mul, Nat.zero_add] at a0 a1
              clear hv2 hcv2
              have hlx := Later.alloc (Later.refl wr) (.cells #[.int .i64 l2[0].at_, .slice cA2 l2[0].caps.length cc2] TE)
              have HLX := Lib.hid hlx
              have HNX := Lib.hid (show NSt wr M dA dn dc s none from ⟨_, HST4.out⟩)
              clear hlx
              go_wp2_with fail
              refine (implStep_any M dA dn dc s none _ (HNX.out.later HLX.out)).mono ?_
              rintro e w5 ⟨rfl, hn5, hd5, _⟩
              obtain ⟨cs5, hcs5⟩ := HNX.out.some_
              have HN5 := Lib.hid hn5
              have HFR5 := Lib.hid (HFR4.out.trans ((DrB.later HLX.out (Nat.le_trans hbw HFR4.out.size)).trans (DrB.drawn hd5 (HLX.out.has hcs5) (by have := HFR4.out.size; have := HLX.out.size; omega))))
              clear hn5 hd5 hcs5
              have t4 : (less none).isSome = false := rfl
              go_wp2_with fail
              go_ret2
              refine ⟨_, _, rfl, HFR5.out, ?_⟩
              rw [← HEQ1.out]
              exact ⟨rfl, HN5.out⟩
        | some r =>
          obtain ⟨l2, inner, b1⟩ := r
          obtain ⟨hb1, hl2⟩ := ev_len n b2 p fe.at_ l2 inner b1 hr
          rw [hr] at hpost heq1
          simp only at heq1
          obtain ⟨rfl, hrow2, hst4⟩ := hpost
          obtain ⟨A2, c2, hv2, _, hc2⟩ := hrow2.form
          subst hv2
          unfold maxLen at hc2
          have hMs := hst1.lt
          have hMr := HAS.out.st.lt
          obtain ⟨xs1, hx1, _⟩ := (HAS.out.row.later HLW.out)
          have HIN : Hid (InSt w base M acc l2 fe (.slice A2 l2.length c2) wo.heap.size (.cells #[.int .i64 fe.at_, .slice cfA fe.caps.length cfc] TE (0, 0)) w.heap.size (.cells #[.int .i64 p.op, .string p.text, .int .i64 p.num, .int .i64 p.lo, .int .i64 p.hi, .slice kA p.kids.length kc] TP (0, 0)) 0 lv w4) := Lib.hid (by
            refine ⟨Nat.zero_le _, ?_, hrow2.weak (Nat.zero_le _), fun g hg => ?_, hd4.has (heap_alloc_new wo _) (by omega), ⟨fun e => ?_, by omega⟩, HFR4.out, hd4.has (HLW.out.has HAS.out.blk) (by omega), ⟨by omega, by have := HFR4.out.size; omega, hMb⟩⟩
            · rw [List.take_zero, List.map_nil, List.append_nil]
              exact (HAS.out.row.later HLW.out).same (KeepT.drawn hd4 hcs1 (by decide)) (fun k h1 h2 _ => hd4.other k h2 (by omega))
            · obtain ⟨xs2, hx2, _⟩ := hrow2
              have hg2 := hx2.lt g hg
              refine ⟨fun e => ?_, by omega, hg2.2.1⟩
              have := (hx1.lt g e).2.1
              omega
            · obtain ⟨xs0, hx0, _⟩ := HAS.out.row
              have := (hx0.lt _ e).2.1
              omega)
          obtain ⟨q, hq1, hq2, hq3⟩ := HAS.out.lb
          have HEQ1 := Lib.hid heq1
          have HST4 := Lib.hid hst4
          have hl2n := hl2.1
          have HLB := Lib.hid hl2.2
          have HACC := Lib.hid hq1
          have haccn := hq1.1
          clear hr heq1 hst4 hrow2 hcs1 hst1 hw1 hd4 hl2 hx1 hq1
          go_wp2_with fail
          go_loopw [40, 1] (fun i v wx => ∃ (k : Nat) (lv' : Value), lv' = v ∧ i = .int .i64 k ∧ k ≤ b1 ∧ NSt wx M dA dn dc s (some (b1 - k)) ∧ InSt w base M acc l2 fe (.slice A2 l2.length c2) wo.heap.size (.cells #[.int .i64 fe.at_, .slice cfA fe.caps.length cfc] TE (0, 0)) w.heap.size (.cells #[.int .i64 p.op, .string p.text, .int .i64 p.num, .int .i64 p.lo, .int .i64 p.hi, .slice kA p.kids.length kc] TP (0, 0)) k lv' wx) (fun i _ _ => l2.length - (intOf i).toNat)
          case atStart => exact ⟨0, _, rfl, rfl, Nat.zero_le _, HST4.out, HIN.out⟩
          case round =>
            clear HIN HST4
            obtain ⟨k, lv', rfl, rfl, hkb, hst, hin⟩ := hrel
            have hkl := hin.lt
            have hMr' := hst.lt
            have HIN := Lib.hid hin
            have HST := Lib.hid hst
            clear hin hst
            by_cases hk : k < l2.length
            · have t3 : decide ((k : Int) < l2.length) = true := decide_eq_true (by omega)
              have t3' : decide (k < l2.length) = true := decide_eq_true (by omega)
              obtain ⟨g2, c2', cv2, hv2, _, hg2, a0, a1, hcv2⟩ := HIN.out.sec.cell hk
              obtain ⟨rfl, rfl⟩ : A2 = some ⟨g2, 0, none⟩ ∧ c2 = c2' := by simpa using hv2
              obtain ⟨cA2, cc2, hcv, _, _⟩ := hcv2.form
              subst hcv
              obtain ⟨xe, hxe⟩ : ∃ xe, l2[k] = xe := ⟨_, rfl⟩
              rw [hxe] at a0 a1 hcv2
              have hxc := HLB.out xe (by rw [← hxe]; exact List.getElem_mem hk)
              have HXE := Lib.hid hxe
              have HCX := Lib.hid hcv2
              clear hv2 hcv2 hxe
              have hlx := Later.alloc (Later.refl wr) (.cells #[.int .i64 xe.at_, .slice cA2 xe.caps.length cc2] TE)
              have HLX := Lib.hid hlx
              clear hlx
              go_wp2_with fail
              clear a0 a1
              obtain ⟨cs5, hcs5⟩ := (HST.out.later HLX.out).some_
              refine (implStep_any M dA dn dc s (some (b1 - k)) _ (HST.out.later HLX.out)).mono ?_
              rintro e w5 ⟨rfl, hn5, hd5, _⟩
              by_cases hkb1 : k < b1
              · have hless : less (some (b1 - k)) = some (b1 - (k + 1)) := by rw [show b1 - k = (b1 - (k + 1)) + 1 by omega]; rfl
                rw [hless] at hn5
                have t4 : (less (some (b1 - k))).isSome = true := by rw [hless]; rfl
                have HIN5 := Lib.hid ((HIN.out.later HLX.out).drawn hd5 hcs5)
                have HB19 := Lib.hid (hd5.has (heap_alloc_new wr (.cells #[.int .i64 xe.at_, .slice cA2 xe.caps.length cc2] TE)) (by omega))
                have HCX5 := Lib.hid ((HCX.out.keepT (KeepT.later HLX.out)).keepT (KeepT.drawn hd5 hcs5 (by decide)))
                have HCF5 := Lib.hid (HCV.out.keepT HIN5.out.fr.caps)
                have HN5 := Lib.hid hn5
                clear hn5 hd5 hcs5 hless
                go_wp2_with fail
                -- region 11: 12 operations, the last [10, 11]
                refine wpU_begin [10, 11] [] (by kernel_rfl) (fun w6 hw6 => ?_)
                have HIN6 := Lib.hid (HIN5.out.later (drew_later hw6))
                have HB6 := Lib.hid ((drew_later hw6).has HB19.out)
                have HCX6 := Lib.hid (HCX5.out.keepT (KeepT.later (drew_later hw6)))
                have HCF6 := Lib.hid (HCF5.out.keepT (KeepT.later (drew_later hw6)))
                have HN6 := Lib.hid (HN5.out.later (drew_later hw6))
                clear hw6 HIN5 HB19 HCX5 HCF5 HN5
                refine wpU_take 0 (some 47) (v := ?_) rfl rfl (by kernel_rfl) (fun _ _ _ h => h) rfl (fun x hx => ?_) ?_
                rotate_left 1
                · go_simp; first | done | with_reducible rfl | rw [if_neg (by omega)] | rw [if_pos (by omega)]
                simp only [Act.put, nA, nB, nC]
                refine wpU_take 1 (some 48) (v := ?_) rfl rfl (by kernel_rfl) (fun _ _ _ h => h) rfl (fun x hx => ?_) ?_
                rotate_left 1
                · go_simp; first | done | with_reducible rfl | rw [if_neg (by omega)] | rw [if_pos (by omega)]
                simp only [Act.put, nA, nB, nC]
                refine wpU_take 2 (some 49) (v := ?_) rfl rfl (by kernel_rfl) (fun _ _ _ h => h) rfl (fun x hx => ?_) ?_
                rotate_left 1
                · obtain ⟨q0, q1⟩ := cells_two (hx.has HIN6.out.box); obtain ⟨r0, r1⟩ := cells_two (hx.has HB6.out); go_simp; first | done | with_reducible rfl | rw [if_neg (by omega)] | rw [if_pos (by omega)]
                simp only [Act.put, nA, nB, nC]
                refine wpU_take 3 (some 50) (v := ?_) rfl rfl (by kernel_rfl) (fun _ _ _ h => h) rfl (fun x hx => ?_) ?_
                rotate_left 1
                · go_simp; first | done | with_reducible rfl | rw [if_neg (by omega)] | rw [if_pos (by omega)]
                simp only [Act.put, nA, nB, nC]
                refine wpU_take 4 (some 51) (v := ?_) rfl rfl (by kernel_rfl) (fun _ _ _ h => h) rfl (fun x hx => ?_) ?_
                rotate_left 1
                · obtain ⟨q0, q1⟩ := cells_two (hx.has HIN6.out.box); obtain ⟨r0, r1⟩ := cells_two (hx.has HB6.out); go_simp; first | done | with_reducible rfl | rw [if_neg (by omega)] | rw [if_pos (by omega)]
                simp only [Act.put, nA, nB, nC]
                refine wpU_take 5 (some 52) (v := ?_) rfl rfl (by kernel_rfl) (fun _ _ _ h => h) rfl (fun x hx => ?_) ?_
                rotate_left 1
                · go_simp; first | done | with_reducible rfl | rw [if_neg (by omega)] | rw [if_pos (by omega)]
                simp only [Act.put, nA, nB, nC]
                refine wpU_take 6 (some 53) (v := ?_) rfl rfl (by kernel_rfl) (fun _ _ _ h => h) rfl (fun x hx => ?_) ?_
                rotate_left 1
                · obtain ⟨q0, q1⟩ := cells_two (hx.has HIN6.out.box); obtain ⟨r0, r1⟩ := cells_two (hx.has HB6.out); go_simp; first | done | with_reducible rfl | rw [if_neg (by omega)] | rw [if_pos (by omega)]
                simp only [Act.put, nA, nB, nC]
                refine wpU_step 7 (by kernel_rfl) rfl rfl ?_  -- call value (Go.Operand.func 80)
                go_wp2_with fail
                refine (joinCaptures_any fe.caps xe.caps _ _ _ HCF6.out HCX6.out (by omega) (by omega)).mono ?_
                rintro e w7 ⟨jv, rfl, hj7, hl7⟩
                obtain ⟨jA, jc, hjv, _, _⟩ := hj7.form
                subst hjv
                have HIN7 := Lib.hid (HIN6.out.later hl7)
                have HN7 := Lib.hid (HN6.out.later hl7)
                have HJ7 := Lib.hid hj7
                clear hj7
                go_wp2_with fail
                refine ⟨hl7, ?_⟩
                refine wpU_take 8 (some 55) (v := ?_) rfl rfl (by kernel_rfl) (fun _ _ _ h => h) rfl (fun x hx => ?_) ?_
                rotate_left 1
                · go_simp; first | done | with_reducible rfl | rw [if_neg (by omega)] | rw [if_pos (by omega)]
                simp only [Act.put, nA, nB, nC]
                refine wpU_step 9 (by kernel_rfl) rfl rfl ?_  -- buildSlice 
                go_wp2_with fail
                refine ⟨(Later.refl _).alloc _, ?_⟩
                refine wpU_last [_, _] (by kernel_rfl) rfl rfl ?_
                simp only [List.getElem_toArray, List.getElem_cons_succ, List.getElem_cons_zero]
                obtain ⟨i, hi, hz0, hz1, hz2⟩ := info_parts infoE
                have hlz := Later.alloc (Later.refl w7) (.cells #[.int .i64 xe.at_, .slice jA (fe.caps.length + xe.caps.length) jc] TE)
                have hin8 := HIN7.out.later hlz
                obtain ⟨xs, hx8, he8⟩ := hin8.row
                have hlen8 : (acc ++ (l2.take k).map fe.join).length ≤ 10000 := by simp; omega
                refine wpList_append_has _ rfl _ _ _ rfl base TE i _ 2 32 Try.underlying55 hi hz0 hz1 hz2 rfl _ _ xs rfl hx8 _ 1 1 [.int .i64 xe.at_, .slice jA (fe.caps.length + xe.caps.length) jc] rfl rfl ?_ ?_ (by omega) ?_ ?_ ?_ ?_
                · exact cells_fresh _ [_, _] _
                · intro u hu
                  simp only [List.mem_cons, List.not_mem_nil, or_false] at hu
                  rcases hu with rfl | rfl <;> rfl
                · simp only [maxLen]; omega
                · omega
                · exact hin8.hP.2.1
                · intro v' w9 hrow9 hg9 hb9
                  have hst9 : NSt w9 M dA dn dc s (some (b1 - (k + 1))) := (HN7.out.later hlz).same (hg9.block M (HN7.out.later hlz).lt (fun e => by have := (hx8.lt M e.symm).1; omega))
                  have hin9 := hin8.push (cs := _) rfl hk (y := w9) (v' := v') (jv := .slice jA (fe.caps.length + xe.caps.length) jc) hx8 he8 (by rw [HXE.out]; simp only [End.join, List.length_append]; exact ((HJ7.out.weak (Nat.zero_le _)).keepT (KeepT.later hlz))) (by rw [HXE.out]; exact hrow9) hg9 hb9
                  have HI9 := Lib.hid hin9
                  have HS9 := Lib.hid hst9
                  clear hin9 hst9 hrow9 hg9 hb9 hin8 hx8 he8 hlz
                  go_wp2_with fail
                  go_roundw
                  case rel => exact ⟨k + 1, _, rfl, by simp, by omega, HS9.out, HI9.out⟩
                  case measure => simp [intOf]; omega
              · have hless : less (some (b1 - k)) = none := by rw [show b1 - k = 0 by omega]; rfl
                rw [hless] at hn5
                have t4 : (less (some (b1 - k))).isSome = false := by rw [hless]; rfl
                have HFR5 := Lib.hid ((HIN.out.later HLX.out).drawn hd5 hcs5).fr
                have HN5 := Lib.hid hn5
                have heq2 := HEQ1.out
                rw [if_neg (by omega)] at heq2
                have HEQ2 := Lib.hid heq2
                clear hn5 hd5 hcs5 hless heq2
                go_wp2_with fail
                go_ret2
                refine ⟨_, _, rfl, HFR5.out, ?_⟩
                rw [← HEQ2.out]
                exact ⟨rfl, HN5.out⟩
            · have t3 : decide ((k : Int) < l2.length) = false := decide_eq_false (by omega)
              have t3' : decide (k < l2.length) = false := decide_eq_false (by omega)
              have hke : k = l2.length := by omega
              have hrow := HIN.out.row
              rw [hke, List.take_length] at hrow
              have hst := HST.out
              rw [hke] at hst
              have heq2 := HEQ1.out
              rw [if_pos (by omega)] at heq2
              have HROW := Lib.hid hrow
              have HST5 := Lib.hid hst
              obtain ⟨m0, m1, m2, m3⟩ := cells_n HST.out.2
              have HEQ2 := Lib.hid heq2
              clear hrow hst heq2 hke hk
              cases st2
              · go_wp2_with fail
                clear m0 m1 m2 m3
                go_roundw
                case rel => exact ⟨j + 1, _, b1 - l2.length, _, rfl, by simp, by omega, by omega, HROW.out, HST5.out, HIN.out.fr, ⟨q + (b2 - (b1 - l2.length)), ⟨by simp; omega, fun x hx => by
                    rcases List.mem_append.1 hx with hx | hx
                    · have := HACC.out.2 x hx; omega
                    · obtain ⟨y, hy, rfl⟩ := List.mem_map.1 hx
                      have := HLB.out y hy
                      simp only [End.join, List.length_append]
                      omega⟩, by omega, by omega⟩, HEQ2.out, HIN.out.blk⟩
                case measure => simp [intOf]; omega
              · go_wp2_with fail
                go_ret2
                refine ⟨_, _, rfl, HIN.out.fr, ?_⟩
                rw [← HEQ2.out]
                exact ⟨rfl, HROW.out, HST5.out⟩
    · have t1 : decide ((j : Int) < firsts.length) = false := by simp; omega
      have t1' : decide (j < firsts.length) = false := by simp; omega
      have hj : j = firsts.length := by omega
      have heq := has.eq
      rw [hj, List.drop_length] at heq
      simp only [afterE] at heq
      have HEQ := Lib.hid heq
      have HAS := Lib.hid has
      clear heq has hj hlt
      go_wp2_with fail
      go_ret2
      refine ⟨_, _, rfl, HAS.out.fr, ?_⟩
      rw [← HEQ.out]
      exact ⟨rfl, HAS.out.row, HAS.out.st⟩
end Go.Proofs.Ytndefbecoahfhaa

/- impl's eval: its base and the plain cases. Printed by gen_endeval.py. -/
namespace Go.Proofs.Ytndefbecoahfhaa
open Go.RowKit

/-- A state of the walk of eval: the pattern's box stands, block M holds the budget b. -/
structure EvAt (w0 w : World) (M : Nat) (dA : Option Addr) (dn dc : Nat) (s : ByteArray) (po : Obj) (b : Nat) (x : World) : Prop where
  st : NSt x M dA dn dc s (some b)
  fr : Drawn M w x
  blk : x.heap[w.heap.size]? = some po
  base : Later w0 x
  hM : M < w.heap.size ∧ w0.heap.size ≤ M
section
variable {w0 w : World} {M : Nat} {dA : Option Addr} {dn dc : Nat} {s : ByteArray} {po : Obj} {b b' : Nat} {x y : World}
theorem EvAt.later (h : EvAt w0 w M dA dn dc s po b x) (hl : Later x y) : EvAt w0 w M dA dn dc s po b y :=
  ⟨h.st.later hl, h.fr.trans (Drawn.later hl (Nat.le_of_lt h.st.lt)), hl.has h.blk, h.base.trans hl, h.hM⟩
theorem EvAt.drawn (h : EvAt w0 w M dA dn dc s po b x) (hd : Drawn M x y) (hs : NSt y M dA dn dc s (some b')) : EvAt w0 w M dA dn dc s po b' y :=
  ⟨hs, h.fr.trans hd, hd.has h.blk (by have := h.hM; omega), ⟨hd.below.os.trans h.base.os, hd.below.tape.trans h.base.tape, hd.below.output.trans h.base.output, Nat.le_trans h.base.size hd.below.size, fun k hk => (hd.other k (Nat.lt_of_lt_of_le hk h.base.size) (by have := h.hM; omega)).trans (h.base.block k hk)⟩, h.hM⟩
theorem EvAt.start (hst : NSt w M dA dn dc s (some b)) (hl : Later w0 w) (hM : w0.heap.size ≤ M) (o : Obj) : EvAt w0 w M dA dn dc s o b (w.alloc o) :=
  EvAt.mk (hst.later (Later.alloc (Later.refl w) o)) (Drawn.later (Later.alloc (Later.refl w) o) (Nat.le_of_lt hst.lt)) (heap_alloc_new w o) (hl.trans (Later.alloc (Later.refl w) o)) ⟨hst.lt, hM⟩
theorem EvAt.size (h : EvAt w0 w M dA dn dc s po b x) : w.heap.size < x.heap.size := has_lt' h.blk
/-- Nothing is left of the budget. -/
theorem evPost_none {T : EvR} (hT : T = none) {l : List End} {v : Value} (hr : EndRow w.heap.size x l v) (hl : LB l b) (hd : Drawn M w x) (hn : NSt x M dA dn dc s none) (st : Bool) : EvPost w M dA dn dc s b T (.returned (.tuple #[v, .bool st])) x :=
  ⟨v, st, rfl, hd, by subst hT; exact ⟨⟨l, hr, hl⟩, hn⟩⟩
theorem evPost_some {T : EvR} {l : List End} {st : Bool} (hT : T = some (l, st, b')) {v : Value} (hr : EndRow w.heap.size x l v) (hd : Drawn M w x) (hn : NSt x M dA dn dc s (some b')) : EvPost w M dA dn dc s b T (.returned (.tuple #[v, .bool st])) x :=
  ⟨v, st, rfl, hd, by subst hT; exact ⟨rfl, hr, hn⟩⟩
theorem EndRow.single (w : World) (base a B : Nat) (hb : base ≤ w.heap.size) (hB : B = w.heap.size) : EndRow base (w.alloc (.cells #[.int .i64 a, .slice none 0 0] TE)) [⟨a, []⟩] (.slice (some ⟨B, 0, none⟩) 1 1) := by
  subst hB
  exact ⟨[.int .i64 a, .slice none 0 0], ⟨rfl, .inr ⟨w.heap.size, 1, _, rfl, hb, heap_alloc_new w _, Nat.le_refl _, by decide, Nat.le_refl _, rfl⟩⟩, ElemsE.one (e := ⟨a, []⟩) (HasRow.nil _ _ _ _)⟩
end
section
variable (defs : List Pat) (s : ByteArray) (n b a : Nat) (text : ByteArray) (num lo hi : Int) (kids : List Pat)
theorem ev_zero (p : Pat) : ev defs s (n + 1) 0 p a = none := by rw [ev]
theorem ev_arb : ev defs s (n + 1) (b + 1) (.mk 11 text num lo hi kids) a = if (arbE s a).length ≤ b then some (arbE s a, false, b - (arbE s a).length) else none := by rw [ev]; rfl
theorem ev_arbno (k0 : Pat) (ks : List Pat) : ev defs s (n + 1) (b + 1) (.mk 13 text num lo hi (k0 :: ks)) a = (match ev defs s n b k0 a with
      | none => none
      | some (l, st, b1) => afterE (fun b x => ev defs s n b (.mk 13 text num lo hi (k0 :: ks)) x) a l [⟨a, []⟩] st b1) := by rw [ev]; rfl
theorem ev_cat (k0 k1 : Pat) (ks : List Pat) : ev defs s (n + 1) (b + 1) (.mk 14 text num lo hi (k0 :: k1 :: ks)) a = (match ev defs s n b k0 a with
      | none => none
      | some (l, st, b1) => afterE (fun b x => ev defs s n b k1 x) (-1) l [] st b1) := by rw [ev]; rfl
theorem ev_alt (k0 k1 : Pat) (ks : List Pat) : ev defs s (n + 1) (b + 1) (.mk 15 text num lo hi (k0 :: k1 :: ks)) a = (match ev defs s n b k0 a with
      | none => none
      | some (l, st, b1) => if st then some (l, true, b1) else match ev defs s n b1 k1 a with
        | none => none
        | some (l2, st2, b2) => some (l ++ l2, st2, b2)) := by rw [ev]; rfl
/-- The endings with one capture more. -/
def assignE (num : Int) (a : Nat) (l : List End) : List End := l.map fun e => ⟨e.at_, e.caps ++ [⟨num, a, e.at_⟩]⟩
theorem ev_assign (k0 : Pat) (ks : List Pat) : ev defs s (n + 1) (b + 1) (.mk 16 text num lo hi (k0 :: ks)) a = (match ev defs s n b k0 a with
      | none => none
      | some (l, st, b1) => some (assignE num a l, st, b1)) := by rw [ev]; rfl
theorem ev_imm (k0 : Pat) (ks : List Pat) : ev defs s (n + 1) (b + 1) (.mk 17 text num lo hi (k0 :: ks)) a = ev defs s n b k0 a := by rw [ev]; rfl
theorem ev_cursor : ev defs s (n + 1) (b + 1) (.mk 18 text num lo hi kids) a = some ([⟨a, []⟩], false, b) := by rw [ev]; rfl
theorem ev_fence : ev defs s (n + 1) (b + 1) (.mk 19 text num lo hi kids) a = some ([⟨a, []⟩], true, b) := by rw [ev]; rfl
theorem ev_defer (i : Nat) (hi' : i < defs.length) : ev defs s (n + 1) (b + 1) (.mk 20 text i lo hi kids) a = ev defs s n b defs[i] a := by
  rw [ev]
  show ev defs s n b (defs.getD (i : Int).toNat _) a = _
  rw [Int.toNat_natCast, List.getD_eq_getElem?_getD, List.getElem?_eq_getElem hi']; rfl
theorem ev_abort : ev defs s (n + 1) (b + 1) (.mk 21 text num lo hi kids) a = some ([], true, b) := by rw [ev]; rfl
theorem ev_simple (op : Int) (h : isSimple op) : ev defs s (n + 1) (b + 1) (.mk op text num lo hi kids) a = match oneEnd op text num lo hi s a with
      | some e => some ([⟨e, []⟩], false, b)
      | none => some ([], false, b) := by
  unfold isSimple at h
  have n11 : ¬ (Pat.mk op text num lo hi kids).op = 11 := fun h => by have h : op = 11 := h; omega
  have n13 : ¬ (Pat.mk op text num lo hi kids).op = 13 := fun h => by have h : op = 13 := h; omega
  have n14 : ¬ (Pat.mk op text num lo hi kids).op = 14 := fun h => by have h : op = 14 := h; omega
  have n15 : ¬ (Pat.mk op text num lo hi kids).op = 15 := fun h => by have h : op = 15 := h; omega
  have n16 : ¬ (Pat.mk op text num lo hi kids).op = 16 := fun h => by have h : op = 16 := h; omega
  have n17 : ¬ (Pat.mk op text num lo hi kids).op = 17 := fun h => by have h : op = 17 := h; omega
  have n18 : ¬ (Pat.mk op text num lo hi kids).op = 18 := fun h => by have h : op = 18 := h; omega
  have n19 : ¬ (Pat.mk op text num lo hi kids).op = 19 := fun h => by have h : op = 19 := h; omega
  have n20 : ¬ (Pat.mk op text num lo hi kids).op = 20 := fun h => by have h : op = 20 := h; omega
  have n21 : ¬ (Pat.mk op text num lo hi kids).op = 21 := fun h => by have h : op = 21 := h; omega
  rw [ev, if_neg n11, if_neg n13, if_neg n14, if_neg n15, if_neg n16, if_neg n17, if_neg n18, if_neg n19, if_neg n20, if_neg n21]
  rfl
end

set_option maxRecDepth 100000 in
set_option maxHeartbeats 1000000 in
theorem eval_zero {w : World} {M : Nat} {dA : Option Addr} {dn dc : Nat} {s : ByteArray} {defs : List Pat} {n a : Nat} {text : ByteArray} {op num lo hi : Int} {kids : List Pat} {A : Option Addr} {l c : Nat}
    (hst : NSt w M dA dn dc s (some 0)) :
    Calls Try.prog 57 #[.pointer (some ⟨M, 0, none⟩), patV op text num lo hi (.slice A l c), .int .i64 a] w (EvPost w M dA dn dc s 0 (ev defs s (n + 1) 0 (.mk op text num lo hi kids) a)) := by
  have HS := Lib.hid hst
  have hMlt := hst.lt
  clear hst
  go_enter Try.func57, Try.ntmps57
  go_wp2_with fail
  have hlw := Later.alloc (Later.refl w) (.cells #[.int .i64 op, .string text, .int .i64 num, .int .i64 lo, .int .i64 hi, .slice A l c] TP)
  refine (implStep_any M dA dn dc s (some 0) _ (HS.out.later hlw)).mono ?_
  rintro e w1 ⟨rfl, hn1, hd1, _⟩
  have HN := Lib.hid hn1
  have HD := Lib.hid ((Drawn.later hlw (Nat.le_of_lt hMlt)).trans hd1)
  have t4 : (less (some 0)).isSome = false := rfl
  clear hn1 hd1 hlw
  go_wp2_with fail
  go_ret2
  exact evPost_none (ev_zero ..) (EndRow.nil _ _) (LB.nil _) HD.out HN.out _

set_option maxRecDepth 100000 in
set_option maxHeartbeats 4000000 in
theorem eval_some {w0 w : World} {M : Nat} {dA : Option Addr} {dn dc : Nat} {s : ByteArray} {defs : List Pat} {n b a : Nat} {text : ByteArray} {num lo hi : Int} {l : Nat} {kids : List Pat} {A : Option Addr} {c : Nat} {op : Int} {z : Nat}
    (hst : NSt w M dA dn dc s (some (b + 1))) (hl : Later w0 w) (hM : w0.heap.size ≤ M) (hs : s.size ≤ 120) (ha : a ≤ s.size) (hsi : isSimple op) (hok : okWords op text num) (hz : oneEnd op text num lo hi s a = some z) :
    Calls Try.prog 57 #[.pointer (some ⟨M, 0, none⟩), patV op text num lo hi (.slice A l c), .int .i64 a] w (EvPost w M dA dn dc s (b + 1) (ev defs s (n + 1) (b + 1) (.mk op text num lo hi kids) a)) := by
  have HSI := Lib.hid hsi
  have HOK := Lib.hid hok
  have HZ := Lib.hid hz
  clear hsi hok hz
  have HS := Lib.hid hst
  have hMlt := hst.lt
  have hb3000 := hst.1
  skip
  have HE := Lib.hid (EvAt.start hst hl hM (.cells #[.int .i64 op, .string text, .int .i64 num, .int .i64 lo, .int .i64 hi, .slice A l c] TP))
  clear hst hl
  go_enter Try.func57, Try.ntmps57
  go_wp2_with fail
  refine (implStep_any M dA dn dc s (some (b + 1)) _ HE.out.st).mono ?_
  rintro e w1 ⟨rfl, hn1, hd1, _⟩
  have HE1 := Lib.hid (HE.out.drawn hd1 (b' := b) hn1)
  have t4 : (less (some (b + 1))).isSome = true := rfl
  clear hn1 hd1 HE
  go_wp2_with fail
  -- region 3: 14 operations, the last []
  refine wpU_begin [] [] (by kernel_rfl) (fun w2 hw2 => ?_)
  have HE2 := Lib.hid (HE1.out.later (drew_later hw2))
  clear hw2 HE1
  refine wpU_take 0 (some 30) (v := ?_) rfl rfl (by kernel_rfl) (fun _ _ _ h => h) rfl (fun x hx => ?_) ?_
  rotate_left 1
  · obtain ⟨m0, m1, m2, m3⟩ := cells_n (HE2.out.st.later hx).2; obtain ⟨p0, p1, p2, p3, p4, p5⟩ := cells_p (hx.has HE2.out.blk); go_simp; first | done | with_reducible rfl | rw [if_neg (by omega)] | rw [if_pos (by omega)]
  simp only [Act.put, nA, nB, nC]
  refine wpU_take 1 (some 31) (v := ?_) rfl rfl (by kernel_rfl) (fun _ _ _ h => h) rfl (fun x hx => ?_) ?_
  rotate_left 1
  · go_simp; first | done | with_reducible rfl | rw [if_neg (by omega)] | rw [if_pos (by omega)]
  simp only [Act.put, nA, nB, nC]
  refine wpU_take 2 (some 32) (v := ?_) rfl rfl (by kernel_rfl) (fun _ _ _ h => h) rfl (fun x hx => ?_) ?_
  rotate_left 1
  · go_simp; first | done | with_reducible rfl | rw [if_neg (by omega)] | rw [if_pos (by omega)]
  simp only [Act.put, nA, nB, nC]
  refine wpU_take 3 (some 33) (v := ?_) rfl rfl (by kernel_rfl) (fun _ _ _ h => h) rfl (fun x hx => ?_) ?_
  rotate_left 1
  · go_simp; first | done | with_reducible rfl | rw [if_neg (by omega)] | rw [if_pos (by omega)]
  simp only [Act.put, nA, nB, nC]
  refine wpU_take 4 (some 34) (v := ?_) rfl rfl (by kernel_rfl) (fun _ _ _ h => h) rfl (fun x hx => ?_) ?_
  rotate_left 1
  · obtain ⟨m0, m1, m2, m3⟩ := cells_n (HE2.out.st.later hx).2; obtain ⟨p0, p1, p2, p3, p4, p5⟩ := cells_p (hx.has HE2.out.blk); go_simp; first | done | with_reducible rfl | rw [if_neg (by omega)] | rw [if_pos (by omega)]
  simp only [Act.put, nA, nB, nC]
  refine wpU_take 5 (some 35) (v := ?_) rfl rfl (by kernel_rfl) (fun _ _ _ h => h) rfl (fun x hx => ?_) ?_
  rotate_left 1
  · go_simp; first | done | with_reducible rfl | rw [if_neg (by omega)] | rw [if_pos (by omega)]
  simp only [Act.put, nA, nB, nC]
  refine wpU_step 6 (by kernel_rfl) rfl rfl ?_  -- call value (Go.Operand.func 78)
  go_wp2_with fail
  refine (simple_some HSI.out HOK.out hs ha HZ.out).mono ?_
  rintro e w3 ⟨rfl, hb3⟩
  go_wp2_with fail
  refine ⟨hb3, ?_⟩
  have HE3 := Lib.hid (HE2.out.later hb3)
  clear HE2 hb3
  refine wpU_take 7 (some 29) (v := ?_) rfl rfl (by kernel_rfl) (fun _ _ _ h => h) rfl (fun x hx => ?_) ?_
  rotate_left 1
  · go_simp; first | done | with_reducible rfl | rw [if_neg (by omega)] | rw [if_pos (by omega)]
  simp only [Act.put, nA, nB, nC]
  refine wpU_take 8 (some 37) (v := ?_) rfl rfl (by kernel_rfl) (fun _ _ _ h => h) rfl (fun x hx => ?_) ?_
  rotate_left 1
  · go_simp; first | done | with_reducible rfl | rw [if_neg (by omega)] | rw [if_pos (by omega)]
  simp only [Act.put, nA, nB, nC]
  refine wpU_take 9 (some 38) (v := ?_) rfl rfl (by kernel_rfl) (fun _ _ _ h => h) rfl (fun x hx => ?_) ?_
  rotate_left 1
  · go_simp; first | done | with_reducible rfl | rw [if_neg (by omega)] | rw [if_pos (by omega)]
  simp only [Act.put, nA, nB, nC]
  refine wpU_take 10 (some 39) (v := ?_) rfl rfl (by kernel_rfl) (fun _ _ _ h => h) rfl (fun x hx => ?_) ?_
  rotate_left 1
  · go_simp; first | done | with_reducible rfl | rw [if_neg (by omega)] | rw [if_pos (by omega)]
  simp only [Act.put, nA, nB, nC]
  refine wpU_take 11 (some 8) (v := ?_) rfl rfl (by kernel_rfl) (fun _ _ _ h => h) rfl (fun x hx => ?_) ?_
  rotate_left 1
  · go_simp; first | done | with_reducible rfl | rw [if_neg (by omega)] | rw [if_pos (by omega)]
  simp only [Act.put, nA, nB, nC]
  refine wpU_take 12 (some 9) (v := ?_) rfl rfl (by kernel_rfl) (fun _ _ _ h => h) rfl (fun x hx => ?_) ?_
  rotate_left 1
  · go_simp; first | done | with_reducible rfl | rw [if_neg (by omega)] | rw [if_pos (by omega)]
  simp only [Act.put, nA, nB, nC]
  refine wpU_take 13 (some 10) (v := ?_) rfl rfl (by kernel_rfl) (fun _ _ _ h => h) rfl (fun x hx => ?_) ?_
  rotate_left 1
  · go_simp; first | done | with_reducible rfl | rw [if_neg (by omega)] | rw [if_pos (by omega)]
  simp only [Act.put, nA, nB, nC]
  refine wpU_last [] (by kernel_rfl) rfl rfl ?_
  go_wp2_with fail
  go_ret2
  exact evPost_some (by rw [ev_simple _ _ _ _ _ _ _ _ _ _ _ HSI.out, HZ.out]) (EndRow.single _ _ _ _ (by have := HE3.out.size; omega) rfl) (HE3.out.later (Later.alloc (Later.refl _) _)).fr (HE3.out.later (Later.alloc (Later.refl _) _)).st

set_option maxRecDepth 100000 in
set_option maxHeartbeats 4000000 in
theorem eval_none {w0 w : World} {M : Nat} {dA : Option Addr} {dn dc : Nat} {s : ByteArray} {defs : List Pat} {n b a : Nat} {text : ByteArray} {num lo hi : Int} {l : Nat} {kids : List Pat} {A : Option Addr} {c : Nat} {op : Int}
    (hst : NSt w M dA dn dc s (some (b + 1))) (hl : Later w0 w) (hM : w0.heap.size ≤ M) (hs : s.size ≤ 120) (ha : a ≤ s.size) (hsi : isSimple op) (hok : okWords op text num) (hz : oneEnd op text num lo hi s a = none) :
    Calls Try.prog 57 #[.pointer (some ⟨M, 0, none⟩), patV op text num lo hi (.slice A l c), .int .i64 a] w (EvPost w M dA dn dc s (b + 1) (ev defs s (n + 1) (b + 1) (.mk op text num lo hi kids) a)) := by
  have HSI := Lib.hid hsi
  have HOK := Lib.hid hok
  have HZ := Lib.hid hz
  clear hsi hok hz
  have HS := Lib.hid hst
  have hMlt := hst.lt
  have hb3000 := hst.1
  skip
  have HE := Lib.hid (EvAt.start hst hl hM (.cells #[.int .i64 op, .string text, .int .i64 num, .int .i64 lo, .int .i64 hi, .slice A l c] TP))
  clear hst hl
  go_enter Try.func57, Try.ntmps57
  go_wp2_with fail
  refine (implStep_any M dA dn dc s (some (b + 1)) _ HE.out.st).mono ?_
  rintro e w1 ⟨rfl, hn1, hd1, _⟩
  have HE1 := Lib.hid (HE.out.drawn hd1 (b' := b) hn1)
  have t4 : (less (some (b + 1))).isSome = true := rfl
  clear hn1 hd1 HE
  go_wp2_with fail
  -- region 3: 14 operations, the last []
  refine wpU_begin [] [] (by kernel_rfl) (fun w2 hw2 => ?_)
  have HE2 := Lib.hid (HE1.out.later (drew_later hw2))
  clear hw2 HE1
  refine wpU_take 0 (some 30) (v := ?_) rfl rfl (by kernel_rfl) (fun _ _ _ h => h) rfl (fun x hx => ?_) ?_
  rotate_left 1
  · obtain ⟨m0, m1, m2, m3⟩ := cells_n (HE2.out.st.later hx).2; obtain ⟨p0, p1, p2, p3, p4, p5⟩ := cells_p (hx.has HE2.out.blk); go_simp; first | done | with_reducible rfl | rw [if_neg (by omega)] | rw [if_pos (by omega)]
  simp only [Act.put, nA, nB, nC]
  refine wpU_take 1 (some 31) (v := ?_) rfl rfl (by kernel_rfl) (fun _ _ _ h => h) rfl (fun x hx => ?_) ?_
  rotate_left 1
  · go_simp; first | done | with_reducible rfl | rw [if_neg (by omega)] | rw [if_pos (by omega)]
  simp only [Act.put, nA, nB, nC]
  refine wpU_take 2 (some 32) (v := ?_) rfl rfl (by kernel_rfl) (fun _ _ _ h => h) rfl (fun x hx => ?_) ?_
  rotate_left 1
  · go_simp; first | done | with_reducible rfl | rw [if_neg (by omega)] | rw [if_pos (by omega)]
  simp only [Act.put, nA, nB, nC]
  refine wpU_take 3 (some 33) (v := ?_) rfl rfl (by kernel_rfl) (fun _ _ _ h => h) rfl (fun x hx => ?_) ?_
  rotate_left 1
  · go_simp; first | done | with_reducible rfl | rw [if_neg (by omega)] | rw [if_pos (by omega)]
  simp only [Act.put, nA, nB, nC]
  refine wpU_take 4 (some 34) (v := ?_) rfl rfl (by kernel_rfl) (fun _ _ _ h => h) rfl (fun x hx => ?_) ?_
  rotate_left 1
  · obtain ⟨m0, m1, m2, m3⟩ := cells_n (HE2.out.st.later hx).2; obtain ⟨p0, p1, p2, p3, p4, p5⟩ := cells_p (hx.has HE2.out.blk); go_simp; first | done | with_reducible rfl | rw [if_neg (by omega)] | rw [if_pos (by omega)]
  simp only [Act.put, nA, nB, nC]
  refine wpU_take 5 (some 35) (v := ?_) rfl rfl (by kernel_rfl) (fun _ _ _ h => h) rfl (fun x hx => ?_) ?_
  rotate_left 1
  · go_simp; first | done | with_reducible rfl | rw [if_neg (by omega)] | rw [if_pos (by omega)]
  simp only [Act.put, nA, nB, nC]
  refine wpU_step 6 (by kernel_rfl) rfl rfl ?_  -- call value (Go.Operand.func 78)
  go_wp2_with fail
  refine (simple_none HSI.out HOK.out hs ha HZ.out).mono ?_
  rintro e w3 ⟨y, rfl, hb3⟩
  go_wp2_with fail
  refine ⟨hb3, ?_⟩
  have HE3 := Lib.hid (HE2.out.later hb3)
  clear HE2 hb3
  refine wpU_take 7 (some 29) (v := ?_) rfl rfl (by kernel_rfl) (fun _ _ _ h => h) rfl (fun x hx => ?_) ?_
  rotate_left 1
  · go_simp; first | done | with_reducible rfl | rw [if_neg (by omega)] | rw [if_pos (by omega)]
  simp only [Act.put, nA, nB, nC]
  refine wpU_take 8 (some 37) (v := ?_) rfl rfl (by kernel_rfl) (fun _ _ _ h => h) rfl (fun x hx => ?_) ?_
  rotate_left 1
  · go_simp; first | done | with_reducible rfl | rw [if_neg (by omega)] | rw [if_pos (by omega)]
  simp only [Act.put, nA, nB, nC]
  refine wpU_take 9 (some 38) (v := ?_) rfl rfl (by kernel_rfl) (fun _ _ _ h => h) rfl (fun x hx => ?_) ?_
  rotate_left 1
  · go_simp; first | done | with_reducible rfl | rw [if_neg (by omega)] | rw [if_pos (by omega)]
  simp only [Act.put, nA, nB, nC]
  refine wpU_take 10 (some 39) (v := ?_) rfl rfl (by kernel_rfl) (fun _ _ _ h => h) rfl (fun x hx => ?_) ?_
  rotate_left 1
  · go_simp; first | done | with_reducible rfl | rw [if_neg (by omega)] | rw [if_pos (by omega)]
  simp only [Act.put, nA, nB, nC]
  refine wpU_take 11 (some 8) (v := ?_) rfl rfl (by kernel_rfl) (fun _ _ _ h => h) rfl (fun x hx => ?_) ?_
  rotate_left 1
  · go_simp; first | done | with_reducible rfl | rw [if_neg (by omega)] | rw [if_pos (by omega)]
  simp only [Act.put, nA, nB, nC]
  refine wpU_take 12 (some 9) (v := ?_) rfl rfl (by kernel_rfl) (fun _ _ _ h => h) rfl (fun x hx => ?_) ?_
  rotate_left 1
  · go_simp; first | done | with_reducible rfl | rw [if_neg (by omega)] | rw [if_pos (by omega)]
  simp only [Act.put, nA, nB, nC]
  refine wpU_take 13 (some 10) (v := ?_) rfl rfl (by kernel_rfl) (fun _ _ _ h => h) rfl (fun x hx => ?_) ?_
  rotate_left 1
  · go_simp; first | done | with_reducible rfl | rw [if_neg (by omega)] | rw [if_pos (by omega)]
  simp only [Act.put, nA, nB, nC]
  refine wpU_last [] (by kernel_rfl) rfl rfl ?_
  go_wp2_with fail
  go_ret2
  exact evPost_some (by rw [ev_simple _ _ _ _ _ _ _ _ _ _ _ HSI.out, HZ.out]) (EndRow.nil _ _) HE3.out.fr HE3.out.st

set_option maxRecDepth 100000 in
set_option maxHeartbeats 4000000 in
theorem eval_cursor {w0 w : World} {M : Nat} {dA : Option Addr} {dn dc : Nat} {s : ByteArray} {defs : List Pat} {n b a : Nat} {text : ByteArray} {num lo hi : Int} {l : Nat} {kids : List Pat} {A : Option Addr} {c : Nat} 
    (hst : NSt w M dA dn dc s (some (b + 1))) (hl : Later w0 w) (hM : w0.heap.size ≤ M) (hs : s.size ≤ 120) (ha : a ≤ s.size) :
    Calls Try.prog 57 #[.pointer (some ⟨M, 0, none⟩), patV 18 text num lo hi (.slice A l c), .int .i64 a] w (EvPost w M dA dn dc s (b + 1) (ev defs s (n + 1) (b + 1) (.mk 18 text num lo hi kids) a)) := by
  have HS := Lib.hid hst
  have hMlt := hst.lt
  have hb3000 := hst.1
  skip
  have HE := Lib.hid (EvAt.start hst hl hM (.cells #[.int .i64 18, .string text, .int .i64 num, .int .i64 lo, .int .i64 hi, .slice A l c] TP))
  clear hst hl
  go_enter Try.func57, Try.ntmps57
  go_wp2_with fail
  refine (implStep_any M dA dn dc s (some (b + 1)) _ HE.out.st).mono ?_
  rintro e w1 ⟨rfl, hn1, hd1, _⟩
  have HE1 := Lib.hid (HE.out.drawn hd1 (b' := b) hn1)
  have t4 : (less (some (b + 1))).isSome = true := rfl
  clear hn1 hd1 HE
  go_wp2_with fail
  -- region 3: 14 operations, the last []
  refine wpU_begin [] [] (by kernel_rfl) (fun w2 hw2 => ?_)
  have HE2 := Lib.hid (HE1.out.later (drew_later hw2))
  clear hw2 HE1
  refine wpU_take 0 (some 30) (v := ?_) rfl rfl (by kernel_rfl) (fun _ _ _ h => h) rfl (fun x hx => ?_) ?_
  rotate_left 1
  · obtain ⟨m0, m1, m2, m3⟩ := cells_n (HE2.out.st.later hx).2; obtain ⟨p0, p1, p2, p3, p4, p5⟩ := cells_p (hx.has HE2.out.blk); go_simp; first | done | with_reducible rfl | rw [if_neg (by omega)] | rw [if_pos (by omega)]
  simp only [Act.put, nA, nB, nC]
  refine wpU_take 1 (some 31) (v := ?_) rfl rfl (by kernel_rfl) (fun _ _ _ h => h) rfl (fun x hx => ?_) ?_
  rotate_left 1
  · go_simp; first | done | with_reducible rfl | rw [if_neg (by omega)] | rw [if_pos (by omega)]
  simp only [Act.put, nA, nB, nC]
  refine wpU_take 2 (some 32) (v := ?_) rfl rfl (by kernel_rfl) (fun _ _ _ h => h) rfl (fun x hx => ?_) ?_
  rotate_left 1
  · go_simp; first | done | with_reducible rfl | rw [if_neg (by omega)] | rw [if_pos (by omega)]
  simp only [Act.put, nA, nB, nC]
  refine wpU_take 3 (some 33) (v := ?_) rfl rfl (by kernel_rfl) (fun _ _ _ h => h) rfl (fun x hx => ?_) ?_
  rotate_left 1
  · go_simp; first | done | with_reducible rfl | rw [if_neg (by omega)] | rw [if_pos (by omega)]
  simp only [Act.put, nA, nB, nC]
  refine wpU_take 4 (some 34) (v := ?_) rfl rfl (by kernel_rfl) (fun _ _ _ h => h) rfl (fun x hx => ?_) ?_
  rotate_left 1
  · obtain ⟨m0, m1, m2, m3⟩ := cells_n (HE2.out.st.later hx).2; obtain ⟨p0, p1, p2, p3, p4, p5⟩ := cells_p (hx.has HE2.out.blk); go_simp; first | done | with_reducible rfl | rw [if_neg (by omega)] | rw [if_pos (by omega)]
  simp only [Act.put, nA, nB, nC]
  refine wpU_take 5 (some 35) (v := ?_) rfl rfl (by kernel_rfl) (fun _ _ _ h => h) rfl (fun x hx => ?_) ?_
  rotate_left 1
  · go_simp; first | done | with_reducible rfl | rw [if_neg (by omega)] | rw [if_pos (by omega)]
  simp only [Act.put, nA, nB, nC]
  refine wpU_step 6 (by kernel_rfl) rfl rfl ?_  -- call value (Go.Operand.func 78)
  go_wp2_with fail
  refine (simple_else text num lo hi A l c s a _ 18 (by omega)).mono ?_
  rintro e w3 ⟨rfl, hb3⟩
  go_wp2_with fail
  refine ⟨hb3, ?_⟩
  have HE3 := Lib.hid (HE2.out.later hb3)
  clear HE2 hb3
  refine wpU_take 7 (some 29) (v := ?_) rfl rfl (by kernel_rfl) (fun _ _ _ h => h) rfl (fun x hx => ?_) ?_
  rotate_left 1
  · go_simp; first | done | with_reducible rfl | rw [if_neg (by omega)] | rw [if_pos (by omega)]
  simp only [Act.put, nA, nB, nC]
  refine wpU_take 8 (some 37) (v := ?_) rfl rfl (by kernel_rfl) (fun _ _ _ h => h) rfl (fun x hx => ?_) ?_
  rotate_left 1
  · go_simp; first | done | with_reducible rfl | rw [if_neg (by omega)] | rw [if_pos (by omega)]
  simp only [Act.put, nA, nB, nC]
  refine wpU_take 9 (some 38) (v := ?_) rfl rfl (by kernel_rfl) (fun _ _ _ h => h) rfl (fun x hx => ?_) ?_
  rotate_left 1
  · go_simp; first | done | with_reducible rfl | rw [if_neg (by omega)] | rw [if_pos (by omega)]
  simp only [Act.put, nA, nB, nC]
  refine wpU_take 10 (some 39) (v := ?_) rfl rfl (by kernel_rfl) (fun _ _ _ h => h) rfl (fun x hx => ?_) ?_
  rotate_left 1
  · go_simp; first | done | with_reducible rfl | rw [if_neg (by omega)] | rw [if_pos (by omega)]
  simp only [Act.put, nA, nB, nC]
  refine wpU_take 11 (some 8) (v := ?_) rfl rfl (by kernel_rfl) (fun _ _ _ h => h) rfl (fun x hx => ?_) ?_
  rotate_left 1
  · go_simp; first | done | with_reducible rfl | rw [if_neg (by omega)] | rw [if_pos (by omega)]
  simp only [Act.put, nA, nB, nC]
  refine wpU_take 12 (some 9) (v := ?_) rfl rfl (by kernel_rfl) (fun _ _ _ h => h) rfl (fun x hx => ?_) ?_
  rotate_left 1
  · go_simp; first | done | with_reducible rfl | rw [if_neg (by omega)] | rw [if_pos (by omega)]
  simp only [Act.put, nA, nB, nC]
  refine wpU_take 13 (some 10) (v := ?_) rfl rfl (by kernel_rfl) (fun _ _ _ h => h) rfl (fun x hx => ?_) ?_
  rotate_left 1
  · go_simp; first | done | with_reducible rfl | rw [if_neg (by omega)] | rw [if_pos (by omega)]
  simp only [Act.put, nA, nB, nC]
  refine wpU_last [] (by kernel_rfl) rfl rfl ?_
  obtain ⟨p0, p1, p2, p3, p4, p5⟩ := cells_p HE3.out.blk
  go_wp2_with fail
  go_ret2
  exact evPost_some (ev_cursor ..) (EndRow.single _ _ _ _ (by have := HE3.out.size; omega) rfl) (HE3.out.later (Later.alloc (Later.refl _) _)).fr (HE3.out.later (Later.alloc (Later.refl _) _)).st

set_option maxRecDepth 100000 in
set_option maxHeartbeats 4000000 in
theorem eval_fence {w0 w : World} {M : Nat} {dA : Option Addr} {dn dc : Nat} {s : ByteArray} {defs : List Pat} {n b a : Nat} {text : ByteArray} {num lo hi : Int} {l : Nat} {kids : List Pat} {A : Option Addr} {c : Nat} 
    (hst : NSt w M dA dn dc s (some (b + 1))) (hl : Later w0 w) (hM : w0.heap.size ≤ M) (hs : s.size ≤ 120) (ha : a ≤ s.size) :
    Calls Try.prog 57 #[.pointer (some ⟨M, 0, none⟩), patV 19 text num lo hi (.slice A l c), .int .i64 a] w (EvPost w M dA dn dc s (b + 1) (ev defs s (n + 1) (b + 1) (.mk 19 text num lo hi kids) a)) := by
  have HS := Lib.hid hst
  have hMlt := hst.lt
  have hb3000 := hst.1
  skip
  have HE := Lib.hid (EvAt.start hst hl hM (.cells #[.int .i64 19, .string text, .int .i64 num, .int .i64 lo, .int .i64 hi, .slice A l c] TP))
  clear hst hl
  go_enter Try.func57, Try.ntmps57
  go_wp2_with fail
  refine (implStep_any M dA dn dc s (some (b + 1)) _ HE.out.st).mono ?_
  rintro e w1 ⟨rfl, hn1, hd1, _⟩
  have HE1 := Lib.hid (HE.out.drawn hd1 (b' := b) hn1)
  have t4 : (less (some (b + 1))).isSome = true := rfl
  clear hn1 hd1 HE
  go_wp2_with fail
  -- region 3: 14 operations, the last []
  refine wpU_begin [] [] (by kernel_rfl) (fun w2 hw2 => ?_)
  have HE2 := Lib.hid (HE1.out.later (drew_later hw2))
  clear hw2 HE1
  refine wpU_take 0 (some 30) (v := ?_) rfl rfl (by kernel_rfl) (fun _ _ _ h => h) rfl (fun x hx => ?_) ?_
  rotate_left 1
  · obtain ⟨m0, m1, m2, m3⟩ := cells_n (HE2.out.st.later hx).2; obtain ⟨p0, p1, p2, p3, p4, p5⟩ := cells_p (hx.has HE2.out.blk); go_simp; first | done | with_reducible rfl | rw [if_neg (by omega)] | rw [if_pos (by omega)]
  simp only [Act.put, nA, nB, nC]
  refine wpU_take 1 (some 31) (v := ?_) rfl rfl (by kernel_rfl) (fun _ _ _ h => h) rfl (fun x hx => ?_) ?_
  rotate_left 1
  · go_simp; first | done | with_reducible rfl | rw [if_neg (by omega)] | rw [if_pos (by omega)]
  simp only [Act.put, nA, nB, nC]
  refine wpU_take 2 (some 32) (v := ?_) rfl rfl (by kernel_rfl) (fun _ _ _ h => h) rfl (fun x hx => ?_) ?_
  rotate_left 1
  · go_simp; first | done | with_reducible rfl | rw [if_neg (by omega)] | rw [if_pos (by omega)]
  simp only [Act.put, nA, nB, nC]
  refine wpU_take 3 (some 33) (v := ?_) rfl rfl (by kernel_rfl) (fun _ _ _ h => h) rfl (fun x hx => ?_) ?_
  rotate_left 1
  · go_simp; first | done | with_reducible rfl | rw [if_neg (by omega)] | rw [if_pos (by omega)]
  simp only [Act.put, nA, nB, nC]
  refine wpU_take 4 (some 34) (v := ?_) rfl rfl (by kernel_rfl) (fun _ _ _ h => h) rfl (fun x hx => ?_) ?_
  rotate_left 1
  · obtain ⟨m0, m1, m2, m3⟩ := cells_n (HE2.out.st.later hx).2; obtain ⟨p0, p1, p2, p3, p4, p5⟩ := cells_p (hx.has HE2.out.blk); go_simp; first | done | with_reducible rfl | rw [if_neg (by omega)] | rw [if_pos (by omega)]
  simp only [Act.put, nA, nB, nC]
  refine wpU_take 5 (some 35) (v := ?_) rfl rfl (by kernel_rfl) (fun _ _ _ h => h) rfl (fun x hx => ?_) ?_
  rotate_left 1
  · go_simp; first | done | with_reducible rfl | rw [if_neg (by omega)] | rw [if_pos (by omega)]
  simp only [Act.put, nA, nB, nC]
  refine wpU_step 6 (by kernel_rfl) rfl rfl ?_  -- call value (Go.Operand.func 78)
  go_wp2_with fail
  refine (simple_else text num lo hi A l c s a _ 19 (by omega)).mono ?_
  rintro e w3 ⟨rfl, hb3⟩
  go_wp2_with fail
  refine ⟨hb3, ?_⟩
  have HE3 := Lib.hid (HE2.out.later hb3)
  clear HE2 hb3
  refine wpU_take 7 (some 29) (v := ?_) rfl rfl (by kernel_rfl) (fun _ _ _ h => h) rfl (fun x hx => ?_) ?_
  rotate_left 1
  · go_simp; first | done | with_reducible rfl | rw [if_neg (by omega)] | rw [if_pos (by omega)]
  simp only [Act.put, nA, nB, nC]
  refine wpU_take 8 (some 37) (v := ?_) rfl rfl (by kernel_rfl) (fun _ _ _ h => h) rfl (fun x hx => ?_) ?_
  rotate_left 1
  · go_simp; first | done | with_reducible rfl | rw [if_neg (by omega)] | rw [if_pos (by omega)]
  simp only [Act.put, nA, nB, nC]
  refine wpU_take 9 (some 38) (v := ?_) rfl rfl (by kernel_rfl) (fun _ _ _ h => h) rfl (fun x hx => ?_) ?_
  rotate_left 1
  · go_simp; first | done | with_reducible rfl | rw [if_neg (by omega)] | rw [if_pos (by omega)]
  simp only [Act.put, nA, nB, nC]
  refine wpU_take 10 (some 39) (v := ?_) rfl rfl (by kernel_rfl) (fun _ _ _ h => h) rfl (fun x hx => ?_) ?_
  rotate_left 1
  · go_simp; first | done | with_reducible rfl | rw [if_neg (by omega)] | rw [if_pos (by omega)]
  simp only [Act.put, nA, nB, nC]
  refine wpU_take 11 (some 8) (v := ?_) rfl rfl (by kernel_rfl) (fun _ _ _ h => h) rfl (fun x hx => ?_) ?_
  rotate_left 1
  · go_simp; first | done | with_reducible rfl | rw [if_neg (by omega)] | rw [if_pos (by omega)]
  simp only [Act.put, nA, nB, nC]
  refine wpU_take 12 (some 9) (v := ?_) rfl rfl (by kernel_rfl) (fun _ _ _ h => h) rfl (fun x hx => ?_) ?_
  rotate_left 1
  · go_simp; first | done | with_reducible rfl | rw [if_neg (by omega)] | rw [if_pos (by omega)]
  simp only [Act.put, nA, nB, nC]
  refine wpU_take 13 (some 10) (v := ?_) rfl rfl (by kernel_rfl) (fun _ _ _ h => h) rfl (fun x hx => ?_) ?_
  rotate_left 1
  · go_simp; first | done | with_reducible rfl | rw [if_neg (by omega)] | rw [if_pos (by omega)]
  simp only [Act.put, nA, nB, nC]
  refine wpU_last [] (by kernel_rfl) rfl rfl ?_
  obtain ⟨p0, p1, p2, p3, p4, p5⟩ := cells_p HE3.out.blk
  go_wp2_with fail
  go_ret2
  exact evPost_some (ev_fence ..) (EndRow.single _ _ _ _ (by have := HE3.out.size; omega) rfl) (HE3.out.later (Later.alloc (Later.refl _) _)).fr (HE3.out.later (Later.alloc (Later.refl _) _)).st

set_option maxRecDepth 100000 in
set_option maxHeartbeats 4000000 in
theorem eval_abort {w0 w : World} {M : Nat} {dA : Option Addr} {dn dc : Nat} {s : ByteArray} {defs : List Pat} {n b a : Nat} {text : ByteArray} {num lo hi : Int} {l : Nat} {kids : List Pat} {A : Option Addr} {c : Nat} 
    (hst : NSt w M dA dn dc s (some (b + 1))) (hl : Later w0 w) (hM : w0.heap.size ≤ M) (hs : s.size ≤ 120) (ha : a ≤ s.size) :
    Calls Try.prog 57 #[.pointer (some ⟨M, 0, none⟩), patV 21 text num lo hi (.slice A l c), .int .i64 a] w (EvPost w M dA dn dc s (b + 1) (ev defs s (n + 1) (b + 1) (.mk 21 text num lo hi kids) a)) := by
  have HS := Lib.hid hst
  have hMlt := hst.lt
  have hb3000 := hst.1
  skip
  have HE := Lib.hid (EvAt.start hst hl hM (.cells #[.int .i64 21, .string text, .int .i64 num, .int .i64 lo, .int .i64 hi, .slice A l c] TP))
  clear hst hl
  go_enter Try.func57, Try.ntmps57
  go_wp2_with fail
  refine (implStep_any M dA dn dc s (some (b + 1)) _ HE.out.st).mono ?_
  rintro e w1 ⟨rfl, hn1, hd1, _⟩
  have HE1 := Lib.hid (HE.out.drawn hd1 (b' := b) hn1)
  have t4 : (less (some (b + 1))).isSome = true := rfl
  clear hn1 hd1 HE
  go_wp2_with fail
  -- region 3: 14 operations, the last []
  refine wpU_begin [] [] (by kernel_rfl) (fun w2 hw2 => ?_)
  have HE2 := Lib.hid (HE1.out.later (drew_later hw2))
  clear hw2 HE1
  refine wpU_take 0 (some 30) (v := ?_) rfl rfl (by kernel_rfl) (fun _ _ _ h => h) rfl (fun x hx => ?_) ?_
  rotate_left 1
  · obtain ⟨m0, m1, m2, m3⟩ := cells_n (HE2.out.st.later hx).2; obtain ⟨p0, p1, p2, p3, p4, p5⟩ := cells_p (hx.has HE2.out.blk); go_simp; first | done | with_reducible rfl | rw [if_neg (by omega)] | rw [if_pos (by omega)]
  simp only [Act.put, nA, nB, nC]
  refine wpU_take 1 (some 31) (v := ?_) rfl rfl (by kernel_rfl) (fun _ _ _ h => h) rfl (fun x hx => ?_) ?_
  rotate_left 1
  · go_simp; first | done | with_reducible rfl | rw [if_neg (by omega)] | rw [if_pos (by omega)]
  simp only [Act.put, nA, nB, nC]
  refine wpU_take 2 (some 32) (v := ?_) rfl rfl (by kernel_rfl) (fun _ _ _ h => h) rfl (fun x hx => ?_) ?_
  rotate_left 1
  · go_simp; first | done | with_reducible rfl | rw [if_neg (by omega)] | rw [if_pos (by omega)]
  simp only [Act.put, nA, nB, nC]
  refine wpU_take 3 (some 33) (v := ?_) rfl rfl (by kernel_rfl) (fun _ _ _ h => h) rfl (fun x hx => ?_) ?_
  rotate_left 1
  · go_simp; first | done | with_reducible rfl | rw [if_neg (by omega)] | rw [if_pos (by omega)]
  simp only [Act.put, nA, nB, nC]
  refine wpU_take 4 (some 34) (v := ?_) rfl rfl (by kernel_rfl) (fun _ _ _ h => h) rfl (fun x hx => ?_) ?_
  rotate_left 1
  · obtain ⟨m0, m1, m2, m3⟩ := cells_n (HE2.out.st.later hx).2; obtain ⟨p0, p1, p2, p3, p4, p5⟩ := cells_p (hx.has HE2.out.blk); go_simp; first | done | with_reducible rfl | rw [if_neg (by omega)] | rw [if_pos (by omega)]
  simp only [Act.put, nA, nB, nC]
  refine wpU_take 5 (some 35) (v := ?_) rfl rfl (by kernel_rfl) (fun _ _ _ h => h) rfl (fun x hx => ?_) ?_
  rotate_left 1
  · go_simp; first | done | with_reducible rfl | rw [if_neg (by omega)] | rw [if_pos (by omega)]
  simp only [Act.put, nA, nB, nC]
  refine wpU_step 6 (by kernel_rfl) rfl rfl ?_  -- call value (Go.Operand.func 78)
  go_wp2_with fail
  refine (simple_else text num lo hi A l c s a _ 21 (by omega)).mono ?_
  rintro e w3 ⟨rfl, hb3⟩
  go_wp2_with fail
  refine ⟨hb3, ?_⟩
  have HE3 := Lib.hid (HE2.out.later hb3)
  clear HE2 hb3
  refine wpU_take 7 (some 29) (v := ?_) rfl rfl (by kernel_rfl) (fun _ _ _ h => h) rfl (fun x hx => ?_) ?_
  rotate_left 1
  · go_simp; first | done | with_reducible rfl | rw [if_neg (by omega)] | rw [if_pos (by omega)]
  simp only [Act.put, nA, nB, nC]
  refine wpU_take 8 (some 37) (v := ?_) rfl rfl (by kernel_rfl) (fun _ _ _ h => h) rfl (fun x hx => ?_) ?_
  rotate_left 1
  · go_simp; first | done | with_reducible rfl | rw [if_neg (by omega)] | rw [if_pos (by omega)]
  simp only [Act.put, nA, nB, nC]
  refine wpU_take 9 (some 38) (v := ?_) rfl rfl (by kernel_rfl) (fun _ _ _ h => h) rfl (fun x hx => ?_) ?_
  rotate_left 1
  · go_simp; first | done | with_reducible rfl | rw [if_neg (by omega)] | rw [if_pos (by omega)]
  simp only [Act.put, nA, nB, nC]
  refine wpU_take 10 (some 39) (v := ?_) rfl rfl (by kernel_rfl) (fun _ _ _ h => h) rfl (fun x hx => ?_) ?_
  rotate_left 1
  · go_simp; first | done | with_reducible rfl | rw [if_neg (by omega)] | rw [if_pos (by omega)]
  simp only [Act.put, nA, nB, nC]
  refine wpU_take 11 (some 8) (v := ?_) rfl rfl (by kernel_rfl) (fun _ _ _ h => h) rfl (fun x hx => ?_) ?_
  rotate_left 1
  · go_simp; first | done | with_reducible rfl | rw [if_neg (by omega)] | rw [if_pos (by omega)]
  simp only [Act.put, nA, nB, nC]
  refine wpU_take 12 (some 9) (v := ?_) rfl rfl (by kernel_rfl) (fun _ _ _ h => h) rfl (fun x hx => ?_) ?_
  rotate_left 1
  · go_simp; first | done | with_reducible rfl | rw [if_neg (by omega)] | rw [if_pos (by omega)]
  simp only [Act.put, nA, nB, nC]
  refine wpU_take 13 (some 10) (v := ?_) rfl rfl (by kernel_rfl) (fun _ _ _ h => h) rfl (fun x hx => ?_) ?_
  rotate_left 1
  · go_simp; first | done | with_reducible rfl | rw [if_neg (by omega)] | rw [if_pos (by omega)]
  simp only [Act.put, nA, nB, nC]
  refine wpU_last [] (by kernel_rfl) rfl rfl ?_
  obtain ⟨p0, p1, p2, p3, p4, p5⟩ := cells_p HE3.out.blk
  go_wp2_with fail
  go_ret2
  exact evPost_some (ev_abort ..) (EndRow.nil _ _) HE3.out.fr HE3.out.st

end Go.Proofs.Ytndefbecoahfhaa

/- impl's eval: the cases with the endings of a kid. Printed by gen_endeval.py. -/
namespace Go.Proofs.Ytndefbecoahfhaa
open Go.RowKit

set_option maxRecDepth 100000 in
set_option maxHeartbeats 4000000 in
theorem eval_imm {w0 w : World} {M : Nat} {dA : Option Addr} {dn dc : Nat} {s : ByteArray} {defs : List Pat} {n b a : Nat} {text : ByteArray} {num lo hi : Int} {k0 : Pat} {A : Option Addr} {c : Nat} 
    (hst : NSt w M dA dn dc s (some (b + 1))) (hl : Later w0 w) (hM : w0.heap.size ≤ M) (hs : s.size ≤ 120) (ha : a ≤ s.size) (hkid : KidsIn w0 (.mk 17 text num lo hi [k0]) (.slice A 1 c)) (ih : ∀ (p : Pat) (kv : Value), valid p dn = true → KidsIn w0 p kv → EvalIs w0 M dA dn dc defs s n p kv) (hbn : b < n) (hv0 : valid k0 dn = true) :
    Calls Try.prog 57 #[.pointer (some ⟨M, 0, none⟩), patV 17 text num lo hi (.slice A 1 c), .int .i64 a] w (EvPost w M dA dn dc s (b + 1) (ev defs s (n + 1) (b + 1) (.mk 17 text num lo hi [k0]) a)) := by
  have HIH := Lib.hid ih
  clear ih
  have HS := Lib.hid hst
  have hMlt := hst.lt
  have hb3000 := hst.1
  have HR := Lib.hid (kids_row hkid)
  have HKID := Lib.hid hkid
  clear hkid
  have HE := Lib.hid (EvAt.start hst hl hM (.cells #[.int .i64 17, .string text, .int .i64 num, .int .i64 lo, .int .i64 hi, .slice A 1 c] TP))
  clear hst hl
  go_enter Try.func57, Try.ntmps57
  go_wp2_with fail
  refine (implStep_any M dA dn dc s (some (b + 1)) _ HE.out.st).mono ?_
  rintro e w1 ⟨rfl, hn1, hd1, _⟩
  have HE1 := Lib.hid (HE.out.drawn hd1 (b' := b) hn1)
  have t4 : (less (some (b + 1))).isSome = true := rfl
  clear hn1 hd1 HE
  go_wp2_with fail
  -- region 3: 14 operations, the last []
  refine wpU_begin [] [] (by kernel_rfl) (fun w2 hw2 => ?_)
  have HE2 := Lib.hid (HE1.out.later (drew_later hw2))
  clear hw2 HE1
  refine wpU_take 0 (some 30) (v := ?_) rfl rfl (by kernel_rfl) (fun _ _ _ h => h) rfl (fun x hx => ?_) ?_
  rotate_left 1
  · obtain ⟨m0, m1, m2, m3⟩ := cells_n (HE2.out.st.later hx).2; obtain ⟨p0, p1, p2, p3, p4, p5⟩ := cells_p (hx.has HE2.out.blk); go_simp; first | done | with_reducible rfl | rw [if_neg (by omega)] | rw [if_pos (by omega)]
  simp only [Act.put, nA, nB, nC]
  refine wpU_take 1 (some 31) (v := ?_) rfl rfl (by kernel_rfl) (fun _ _ _ h => h) rfl (fun x hx => ?_) ?_
  rotate_left 1
  · go_simp; first | done | with_reducible rfl | rw [if_neg (by omega)] | rw [if_pos (by omega)]
  simp only [Act.put, nA, nB, nC]
  refine wpU_take 2 (some 32) (v := ?_) rfl rfl (by kernel_rfl) (fun _ _ _ h => h) rfl (fun x hx => ?_) ?_
  rotate_left 1
  · go_simp; first | done | with_reducible rfl | rw [if_neg (by omega)] | rw [if_pos (by omega)]
  simp only [Act.put, nA, nB, nC]
  refine wpU_take 3 (some 33) (v := ?_) rfl rfl (by kernel_rfl) (fun _ _ _ h => h) rfl (fun x hx => ?_) ?_
  rotate_left 1
  · go_simp; first | done | with_reducible rfl | rw [if_neg (by omega)] | rw [if_pos (by omega)]
  simp only [Act.put, nA, nB, nC]
  refine wpU_take 4 (some 34) (v := ?_) rfl rfl (by kernel_rfl) (fun _ _ _ h => h) rfl (fun x hx => ?_) ?_
  rotate_left 1
  · obtain ⟨m0, m1, m2, m3⟩ := cells_n (HE2.out.st.later hx).2; obtain ⟨p0, p1, p2, p3, p4, p5⟩ := cells_p (hx.has HE2.out.blk); go_simp; first | done | with_reducible rfl | rw [if_neg (by omega)] | rw [if_pos (by omega)]
  simp only [Act.put, nA, nB, nC]
  refine wpU_take 5 (some 35) (v := ?_) rfl rfl (by kernel_rfl) (fun _ _ _ h => h) rfl (fun x hx => ?_) ?_
  rotate_left 1
  · go_simp; first | done | with_reducible rfl | rw [if_neg (by omega)] | rw [if_pos (by omega)]
  simp only [Act.put, nA, nB, nC]
  refine wpU_step 6 (by kernel_rfl) rfl rfl ?_  -- call value (Go.Operand.func 78)
  go_wp2_with fail
  refine (simple_else text num lo hi A 1 c s a _ 17 (by omega)).mono ?_
  rintro e w3 ⟨rfl, hb3⟩
  go_wp2_with fail
  refine ⟨hb3, ?_⟩
  have HE3 := Lib.hid (HE2.out.later hb3)
  clear HE2 hb3
  refine wpU_take 7 (some 29) (v := ?_) rfl rfl (by kernel_rfl) (fun _ _ _ h => h) rfl (fun x hx => ?_) ?_
  rotate_left 1
  · go_simp; first | done | with_reducible rfl | rw [if_neg (by omega)] | rw [if_pos (by omega)]
  simp only [Act.put, nA, nB, nC]
  refine wpU_take 8 (some 37) (v := ?_) rfl rfl (by kernel_rfl) (fun _ _ _ h => h) rfl (fun x hx => ?_) ?_
  rotate_left 1
  · go_simp; first | done | with_reducible rfl | rw [if_neg (by omega)] | rw [if_pos (by omega)]
  simp only [Act.put, nA, nB, nC]
  refine wpU_take 9 (some 38) (v := ?_) rfl rfl (by kernel_rfl) (fun _ _ _ h => h) rfl (fun x hx => ?_) ?_
  rotate_left 1
  · go_simp; first | done | with_reducible rfl | rw [if_neg (by omega)] | rw [if_pos (by omega)]
  simp only [Act.put, nA, nB, nC]
  refine wpU_take 10 (some 39) (v := ?_) rfl rfl (by kernel_rfl) (fun _ _ _ h => h) rfl (fun x hx => ?_) ?_
  rotate_left 1
  · go_simp; first | done | with_reducible rfl | rw [if_neg (by omega)] | rw [if_pos (by omega)]
  simp only [Act.put, nA, nB, nC]
  refine wpU_take 11 (some 8) (v := ?_) rfl rfl (by kernel_rfl) (fun _ _ _ h => h) rfl (fun x hx => ?_) ?_
  rotate_left 1
  · go_simp; first | done | with_reducible rfl | rw [if_neg (by omega)] | rw [if_pos (by omega)]
  simp only [Act.put, nA, nB, nC]
  refine wpU_take 12 (some 9) (v := ?_) rfl rfl (by kernel_rfl) (fun _ _ _ h => h) rfl (fun x hx => ?_) ?_
  rotate_left 1
  · go_simp; first | done | with_reducible rfl | rw [if_neg (by omega)] | rw [if_pos (by omega)]
  simp only [Act.put, nA, nB, nC]
  refine wpU_take 13 (some 10) (v := ?_) rfl rfl (by kernel_rfl) (fun _ _ _ h => h) rfl (fun x hx => ?_) ?_
  rotate_left 1
  · go_simp; first | done | with_reducible rfl | rw [if_neg (by omega)] | rw [if_pos (by omega)]
  simp only [Act.put, nA, nB, nC]
  refine wpU_last [] (by kernel_rfl) rfl rfl ?_
  obtain ⟨p0, p1, p2, p3, p4, p5⟩ := cells_p HE3.out.blk
  obtain ⟨g0, kA0, kc0, hA0, hk0, he0⟩ := kid_cells HR.out (j := 0) (by simp) HE3.out.base
  simp only [List.getElem_cons_zero] at hk0 he0
  obtain ⟨e00, e01, e02, e03, e04, e05⟩ := he0
  simp only [Nat.zero_mul, Nat.zero_add] at e00 e01 e02 e03 e04 e05
  have HK0 := Lib.hid hk0
  clear hk0
  subst hA0
  go_wp2_with fail
  refine (HIH.out k0 _ hv0 HK0.out b a w3 (by omega) ha HE3.out.base HE3.out.st).mono ?_
  rintro e w4 ⟨v4, st4, rfl, hd4, hpost4⟩
  have HD := Lib.hid (HE3.out.fr.trans hd4)
  have hsz := HE3.out.size
  cases hr : ev defs s n b k0 a with
  | none =>
    rw [hr] at hpost4
    obtain ⟨⟨l, hrow, hlb⟩, hst4⟩ := hpost4
    obtain ⟨vA, vc, rfl, _, _⟩ := hrow.form
    have HROW := Lib.hid (hrow.weak (Nat.le_of_lt hsz))
    have HR0 := Lib.hid hr
    have HLB := Lib.hid (hlb.mono (Nat.le_succ b))
    have HST := Lib.hid hst4
    clear hr hd4 hrow hlb hst4
    go_wp2_with fail
    go_ret2
    exact evPost_none (by rw [ev_imm]; exact HR0.out) HROW.out HLB.out HD.out HST.out _
  | some r =>
    obtain ⟨l, st, b1⟩ := r
    rw [hr] at hpost4
    obtain ⟨rfl, hrow, hst4⟩ := hpost4
    obtain ⟨vA, vc, rfl, _, _⟩ := hrow.form
    have HROW := Lib.hid (hrow.weak (Nat.le_of_lt hsz))
    have HR0 := Lib.hid hr
    have HST := Lib.hid hst4
    clear hr hd4 hrow hst4
    go_wp2_with fail
    go_ret2
    exact evPost_some (by rw [ev_imm]; exact HR0.out) HROW.out HD.out HST.out

set_option maxRecDepth 100000 in
set_option maxHeartbeats 4000000 in
theorem eval_cat {w0 w : World} {M : Nat} {dA : Option Addr} {dn dc : Nat} {s : ByteArray} {defs : List Pat} {n b a : Nat} {text : ByteArray} {num lo hi : Int} {k0 k1 : Pat} {A : Option Addr} {c : Nat} 
    (hst : NSt w M dA dn dc s (some (b + 1))) (hl : Later w0 w) (hM : w0.heap.size ≤ M) (hs : s.size ≤ 120) (ha : a ≤ s.size) (hkid : KidsIn w0 (.mk 14 text num lo hi [k0, k1]) (.slice A 2 c)) (ih : ∀ (p : Pat) (kv : Value), valid p dn = true → KidsIn w0 p kv → EvalIs w0 M dA dn dc defs s n p kv) (hbn : b < n) (hv0 : valid k0 dn = true) (hv1 : valid k1 dn = true) (hdv : DefsOkV defs) (hdn : dn = defs.length) :
    Calls Try.prog 57 #[.pointer (some ⟨M, 0, none⟩), patV 14 text num lo hi (.slice A 2 c), .int .i64 a] w (EvPost w M dA dn dc s (b + 1) (ev defs s (n + 1) (b + 1) (.mk 14 text num lo hi [k0, k1]) a)) := by
  have HIH := Lib.hid ih
  clear ih
  have HS := Lib.hid hst
  have hMlt := hst.lt
  have hb3000 := hst.1
  have HR := Lib.hid (kids_row hkid)
  have HKID := Lib.hid hkid
  clear hkid
  have HE := Lib.hid (EvAt.start hst hl hM (.cells #[.int .i64 14, .string text, .int .i64 num, .int .i64 lo, .int .i64 hi, .slice A 2 c] TP))
  clear hst hl
  go_enter Try.func57, Try.ntmps57
  go_wp2_with fail
  refine (implStep_any M dA dn dc s (some (b + 1)) _ HE.out.st).mono ?_
  rintro e w1 ⟨rfl, hn1, hd1, _⟩
  have HE1 := Lib.hid (HE.out.drawn hd1 (b' := b) hn1)
  have t4 : (less (some (b + 1))).isSome = true := rfl
  clear hn1 hd1 HE
  go_wp2_with fail
  -- region 3: 14 operations, the last []
  refine wpU_begin [] [] (by kernel_rfl) (fun w2 hw2 => ?_)
  have HE2 := Lib.hid (HE1.out.later (drew_later hw2))
  clear hw2 HE1
  refine wpU_take 0 (some 30) (v := ?_) rfl rfl (by kernel_rfl) (fun _ _ _ h => h) rfl (fun x hx => ?_) ?_
  rotate_left 1
  · obtain ⟨m0, m1, m2, m3⟩ := cells_n (HE2.out.st.later hx).2; obtain ⟨p0, p1, p2, p3, p4, p5⟩ := cells_p (hx.has HE2.out.blk); go_simp; first | done | with_reducible rfl | rw [if_neg (by omega)] | rw [if_pos (by omega)]
  simp only [Act.put, nA, nB, nC]
  refine wpU_take 1 (some 31) (v := ?_) rfl rfl (by kernel_rfl) (fun _ _ _ h => h) rfl (fun x hx => ?_) ?_
  rotate_left 1
  · go_simp; first | done | with_reducible rfl | rw [if_neg (by omega)] | rw [if_pos (by omega)]
  simp only [Act.put, nA, nB, nC]
  refine wpU_take 2 (some 32) (v := ?_) rfl rfl (by kernel_rfl) (fun _ _ _ h => h) rfl (fun x hx => ?_) ?_
  rotate_left 1
  · go_simp; first | done | with_reducible rfl | rw [if_neg (by omega)] | rw [if_pos (by omega)]
  simp only [Act.put, nA, nB, nC]
  refine wpU_take 3 (some 33) (v := ?_) rfl rfl (by kernel_rfl) (fun _ _ _ h => h) rfl (fun x hx => ?_) ?_
  rotate_left 1
  · go_simp; first | done | with_reducible rfl | rw [if_neg (by omega)] | rw [if_pos (by omega)]
  simp only [Act.put, nA, nB, nC]
  refine wpU_take 4 (some 34) (v := ?_) rfl rfl (by kernel_rfl) (fun _ _ _ h => h) rfl (fun x hx => ?_) ?_
  rotate_left 1
  · obtain ⟨m0, m1, m2, m3⟩ := cells_n (HE2.out.st.later hx).2; obtain ⟨p0, p1, p2, p3, p4, p5⟩ := cells_p (hx.has HE2.out.blk); go_simp; first | done | with_reducible rfl | rw [if_neg (by omega)] | rw [if_pos (by omega)]
  simp only [Act.put, nA, nB, nC]
  refine wpU_take 5 (some 35) (v := ?_) rfl rfl (by kernel_rfl) (fun _ _ _ h => h) rfl (fun x hx => ?_) ?_
  rotate_left 1
  · go_simp; first | done | with_reducible rfl | rw [if_neg (by omega)] | rw [if_pos (by omega)]
  simp only [Act.put, nA, nB, nC]
  refine wpU_step 6 (by kernel_rfl) rfl rfl ?_  -- call value (Go.Operand.func 78)
  go_wp2_with fail
  refine (simple_else text num lo hi A 2 c s a _ 14 (by omega)).mono ?_
  rintro e w3 ⟨rfl, hb3⟩
  go_wp2_with fail
  refine ⟨hb3, ?_⟩
  have HE3 := Lib.hid (HE2.out.later hb3)
  clear HE2 hb3
  refine wpU_take 7 (some 29) (v := ?_) rfl rfl (by kernel_rfl) (fun _ _ _ h => h) rfl (fun x hx => ?_) ?_
  rotate_left 1
  · go_simp; first | done | with_reducible rfl | rw [if_neg (by omega)] | rw [if_pos (by omega)]
  simp only [Act.put, nA, nB, nC]
  refine wpU_take 8 (some 37) (v := ?_) rfl rfl (by kernel_rfl) (fun _ _ _ h => h) rfl (fun x hx => ?_) ?_
  rotate_left 1
  · go_simp; first | done | with_reducible rfl | rw [if_neg (by omega)] | rw [if_pos (by omega)]
  simp only [Act.put, nA, nB, nC]
  refine wpU_take 9 (some 38) (v := ?_) rfl rfl (by kernel_rfl) (fun _ _ _ h => h) rfl (fun x hx => ?_) ?_
  rotate_left 1
  · go_simp; first | done | with_reducible rfl | rw [if_neg (by omega)] | rw [if_pos (by omega)]
  simp only [Act.put, nA, nB, nC]
  refine wpU_take 10 (some 39) (v := ?_) rfl rfl (by kernel_rfl) (fun _ _ _ h => h) rfl (fun x hx => ?_) ?_
  rotate_left 1
  · go_simp; first | done | with_reducible rfl | rw [if_neg (by omega)] | rw [if_pos (by omega)]
  simp only [Act.put, nA, nB, nC]
  refine wpU_take 11 (some 8) (v := ?_) rfl rfl (by kernel_rfl) (fun _ _ _ h => h) rfl (fun x hx => ?_) ?_
  rotate_left 1
  · go_simp; first | done | with_reducible rfl | rw [if_neg (by omega)] | rw [if_pos (by omega)]
  simp only [Act.put, nA, nB, nC]
  refine wpU_take 12 (some 9) (v := ?_) rfl rfl (by kernel_rfl) (fun _ _ _ h => h) rfl (fun x hx => ?_) ?_
  rotate_left 1
  · go_simp; first | done | with_reducible rfl | rw [if_neg (by omega)] | rw [if_pos (by omega)]
  simp only [Act.put, nA, nB, nC]
  refine wpU_take 13 (some 10) (v := ?_) rfl rfl (by kernel_rfl) (fun _ _ _ h => h) rfl (fun x hx => ?_) ?_
  rotate_left 1
  · go_simp; first | done | with_reducible rfl | rw [if_neg (by omega)] | rw [if_pos (by omega)]
  simp only [Act.put, nA, nB, nC]
  refine wpU_last [] (by kernel_rfl) rfl rfl ?_
  obtain ⟨p0, p1, p2, p3, p4, p5⟩ := cells_p HE3.out.blk
  obtain ⟨g0, kA0, kc0, hA0, hk0, he0⟩ := kid_cells HR.out (j := 0) (by simp) HE3.out.base
  simp only [List.getElem_cons_zero] at hk0 he0
  obtain ⟨e00, e01, e02, e03, e04, e05⟩ := he0
  simp only [Nat.zero_mul, Nat.zero_add] at e00 e01 e02 e03 e04 e05
  have HK0 := Lib.hid hk0
  clear hk0
  subst hA0
  go_wp2_with fail
  refine (HIH.out k0 _ hv0 HK0.out b a w3 (by omega) ha HE3.out.base HE3.out.st).mono ?_
  rintro e w4 ⟨v4, st4, rfl, hd4, hpost4⟩
  have HD := Lib.hid (HE3.out.fr.trans hd4)
  have hsz := HE3.out.size
  cases hr : ev defs s n b k0 a with
  | none =>
    rw [hr] at hpost4
    obtain ⟨⟨l, hrow, hlb⟩, kk, hst4⟩ := hpost4
    obtain ⟨m0, m1, m2, m3⟩ := cells_n hst4
    obtain ⟨vA, vc, rfl, _, _⟩ := hrow.form
    have HST := Lib.hid hst4
    have HR0 := Lib.hid hr
    clear hr hd4 hrow hlb hst4
    clear p0 p1 p2 p3 p4 p5 e00 e01 e02 e03 e04 e05
    go_wp2_with fail
    go_ret2
    exact evPost_none (by rw [ev_cat, HR0.out]) (EndRow.nil _ _) (LB.nil _) HD.out ⟨kk, HST.out⟩ _
  | some r =>
    obtain ⟨l, st, b1⟩ := r
    rw [hr] at hpost4
    obtain ⟨rfl, hrow, hst4⟩ := hpost4
    obtain ⟨hb1, hlb⟩ := ev_len n b k0 a l st4 b1 hr
    have hwi := ev_within hdv n b k0 a l st4 b1 (by rw [← hdn]; exact hv0) ha hr
    have hfc := hlb.2
    have hlen := hlb.1
    have HE4 := Lib.hid (HE3.out.drawn hd4 (b' := b1) hst4)
    have hfb : ∀ k, v4.ownBlock = some k → k < w4.heap.size ∧ k ≠ M := fun k hk => by
      obtain ⟨xs, hx, _⟩ := hrow
      have h1 := hx.lt k hk
      have h2 := HE3.out.hM.1
      omega
    obtain ⟨vA, vc, rfl, _, _⟩ := hrow.form
    have HROW := Lib.hid (hrow.weak (Nat.le_of_lt hsz))
    have HR0 := Lib.hid hr
    have HW := Lib.hid (show ∀ e ∈ l, e.at_ ≤ s.size from fun e he => (hwi e he).2)
    have HFC := Lib.hid hfc
    have HFB := Lib.hid hfb
    have hMw := HE3.out.hM.1
    clear hr hd4 hrow hst4 hlb hfc hwi hfb
    obtain ⟨m0, m1, m2, m3⟩ := cells_n HE4.out.st.2
    clear p0 p1 p2 p3 p4 p5 e00 e01 e02 e03 e04 e05
    obtain ⟨p0, p1, p2, p3, p4, p5⟩ := cells_p HE4.out.blk
    have h1 := kid_cells HR.out (j := 1) (by simp) HE4.out.base
    simp only [List.getElem_cons_succ, List.getElem_cons_zero] at h1
    obtain ⟨g1, kA1, kc1, hA1, hk1, he1⟩ := h1
    obtain ⟨e10, e11, e12, e13, e14, e15⟩ := he1
    simp only [Nat.one_mul, Nat.reduceAdd] at e10 e11 e12 e13 e14 e15
    have HK1 := Lib.hid hk1
    obtain rfl : g0 = g1 := by cases hA1; rfl
    clear hk1 hA1
    go_wp2_with fail
    refine (after_any w0 M dA dn dc defs s n k1 _ (HIH.out k1 _ hv1 HK1.out) w4 w4.heap.size b1 [] l _ _ st4 (-1) (b - b1) HE4.out.base hM (by have := HE4.out.size; omega) (Nat.le_refl _) HE4.out.st (by omega) (EndRow.nil _ _) (HROW.out.weak (Nat.zero_le _)) HFB.out HW.out HFC.out ⟨b - b1, LB.nil _, Nat.le_refl _, by omega⟩ HK1.out).mono ?_
    rintro e w5 ⟨v5, st5, rfl, hd5, hpost5⟩
    have HD5 := Lib.hid (HE4.out.fr.trans (hd5.drawnOf (by have := HE4.out.size; omega)))
    have hsz4 := HE4.out.size
    cases hT : afterE (fun b x => ev defs s n b k1 x) (-1) l [] st4 b1 with
    | none =>
      rw [hT] at hpost5
      obtain ⟨rfl, hn5⟩ := hpost5
      have HN5 := Lib.hid hn5
      have HT := Lib.hid hT
      clear hT hn5 hd5
      go_wp2_with fail
      go_ret2
      exact evPost_none (by rw [ev_cat, HR0.out]; exact HT.out) (EndRow.nil _ _) (LB.nil _) HD5.out HN5.out _
    | some r =>
      obtain ⟨L, st', b2⟩ := r
      rw [hT] at hpost5
      obtain ⟨rfl, hrow5, hn5⟩ := hpost5
      have HROW5 := Lib.hid (hrow5.weak (Nat.le_of_lt hsz4))
      obtain ⟨vB, vd, rfl, _, _⟩ := hrow5.form
      have HN5 := Lib.hid hn5
      have HT := Lib.hid hT
      clear hT hn5 hd5 hrow5
      go_wp2_with fail
      go_ret2
      exact evPost_some (by rw [ev_cat, HR0.out]; exact HT.out) HROW5.out HD5.out HN5.out

set_option maxRecDepth 100000 in
set_option maxHeartbeats 4000000 in
theorem eval_arbno {w0 w : World} {M : Nat} {dA : Option Addr} {dn dc : Nat} {s : ByteArray} {defs : List Pat} {n b a : Nat} {text : ByteArray} {num lo hi : Int} {k0 : Pat} {A : Option Addr} {c : Nat} 
    (hst : NSt w M dA dn dc s (some (b + 1))) (hl : Later w0 w) (hM : w0.heap.size ≤ M) (hs : s.size ≤ 120) (ha : a ≤ s.size) (hkid : KidsIn w0 (.mk 13 text num lo hi [k0]) (.slice A 1 c)) (ih : ∀ (p : Pat) (kv : Value), valid p dn = true → KidsIn w0 p kv → EvalIs w0 M dA dn dc defs s n p kv) (hbn : b < n) (hv0 : valid k0 dn = true) (hvp : valid (.mk 13 text num lo hi [k0]) dn = true) (hdv : DefsOkV defs) (hdn : dn = defs.length) :
    Calls Try.prog 57 #[.pointer (some ⟨M, 0, none⟩), patV 13 text num lo hi (.slice A 1 c), .int .i64 a] w (EvPost w M dA dn dc s (b + 1) (ev defs s (n + 1) (b + 1) (.mk 13 text num lo hi [k0]) a)) := by
  have HIH := Lib.hid ih
  clear ih
  have HS := Lib.hid hst
  have hMlt := hst.lt
  have hb3000 := hst.1
  have HR := Lib.hid (kids_row hkid)
  have HKID := Lib.hid hkid
  clear hkid
  have HE := Lib.hid (EvAt.start hst hl hM (.cells #[.int .i64 13, .string text, .int .i64 num, .int .i64 lo, .int .i64 hi, .slice A 1 c] TP))
  clear hst hl
  go_enter Try.func57, Try.ntmps57
  go_wp2_with fail
  refine (implStep_any M dA dn dc s (some (b + 1)) _ HE.out.st).mono ?_
  rintro e w1 ⟨rfl, hn1, hd1, _⟩
  have HE1 := Lib.hid (HE.out.drawn hd1 (b' := b) hn1)
  have t4 : (less (some (b + 1))).isSome = true := rfl
  clear hn1 hd1 HE
  go_wp2_with fail
  -- region 3: 14 operations, the last []
  refine wpU_begin [] [] (by kernel_rfl) (fun w2 hw2 => ?_)
  have HE2 := Lib.hid (HE1.out.later (drew_later hw2))
  clear hw2 HE1
  refine wpU_take 0 (some 30) (v := ?_) rfl rfl (by kernel_rfl) (fun _ _ _ h => h) rfl (fun x hx => ?_) ?_
  rotate_left 1
  · obtain ⟨m0, m1, m2, m3⟩ := cells_n (HE2.out.st.later hx).2; obtain ⟨p0, p1, p2, p3, p4, p5⟩ := cells_p (hx.has HE2.out.blk); go_simp; first | done | with_reducible rfl | rw [if_neg (by omega)] | rw [if_pos (by omega)]
  simp only [Act.put, nA, nB, nC]
  refine wpU_take 1 (some 31) (v := ?_) rfl rfl (by kernel_rfl) (fun _ _ _ h => h) rfl (fun x hx => ?_) ?_
  rotate_left 1
  · go_simp; first | done | with_reducible rfl | rw [if_neg (by omega)] | rw [if_pos (by omega)]
  simp only [Act.put, nA, nB, nC]
  refine wpU_take 2 (some 32) (v := ?_) rfl rfl (by kernel_rfl) (fun _ _ _ h => h) rfl (fun x hx => ?_) ?_
  rotate_left 1
  · go_simp; first | done | with_reducible rfl | rw [if_neg (by omega)] | rw [if_pos (by omega)]
  simp only [Act.put, nA, nB, nC]
  refine wpU_take 3 (some 33) (v := ?_) rfl rfl (by kernel_rfl) (fun _ _ _ h => h) rfl (fun x hx => ?_) ?_
  rotate_left 1
  · go_simp; first | done | with_reducible rfl | rw [if_neg (by omega)] | rw [if_pos (by omega)]
  simp only [Act.put, nA, nB, nC]
  refine wpU_take 4 (some 34) (v := ?_) rfl rfl (by kernel_rfl) (fun _ _ _ h => h) rfl (fun x hx => ?_) ?_
  rotate_left 1
  · obtain ⟨m0, m1, m2, m3⟩ := cells_n (HE2.out.st.later hx).2; obtain ⟨p0, p1, p2, p3, p4, p5⟩ := cells_p (hx.has HE2.out.blk); go_simp; first | done | with_reducible rfl | rw [if_neg (by omega)] | rw [if_pos (by omega)]
  simp only [Act.put, nA, nB, nC]
  refine wpU_take 5 (some 35) (v := ?_) rfl rfl (by kernel_rfl) (fun _ _ _ h => h) rfl (fun x hx => ?_) ?_
  rotate_left 1
  · go_simp; first | done | with_reducible rfl | rw [if_neg (by omega)] | rw [if_pos (by omega)]
  simp only [Act.put, nA, nB, nC]
  refine wpU_step 6 (by kernel_rfl) rfl rfl ?_  -- call value (Go.Operand.func 78)
  go_wp2_with fail
  refine (simple_else text num lo hi A 1 c s a _ 13 (by omega)).mono ?_
  rintro e w3 ⟨rfl, hb3⟩
  go_wp2_with fail
  refine ⟨hb3, ?_⟩
  have HE3 := Lib.hid (HE2.out.later hb3)
  clear HE2 hb3
  refine wpU_take 7 (some 29) (v := ?_) rfl rfl (by kernel_rfl) (fun _ _ _ h => h) rfl (fun x hx => ?_) ?_
  rotate_left 1
  · go_simp; first | done | with_reducible rfl | rw [if_neg (by omega)] | rw [if_pos (by omega)]
  simp only [Act.put, nA, nB, nC]
  refine wpU_take 8 (some 37) (v := ?_) rfl rfl (by kernel_rfl) (fun _ _ _ h => h) rfl (fun x hx => ?_) ?_
  rotate_left 1
  · go_simp; first | done | with_reducible rfl | rw [if_neg (by omega)] | rw [if_pos (by omega)]
  simp only [Act.put, nA, nB, nC]
  refine wpU_take 9 (some 38) (v := ?_) rfl rfl (by kernel_rfl) (fun _ _ _ h => h) rfl (fun x hx => ?_) ?_
  rotate_left 1
  · go_simp; first | done | with_reducible rfl | rw [if_neg (by omega)] | rw [if_pos (by omega)]
  simp only [Act.put, nA, nB, nC]
  refine wpU_take 10 (some 39) (v := ?_) rfl rfl (by kernel_rfl) (fun _ _ _ h => h) rfl (fun x hx => ?_) ?_
  rotate_left 1
  · go_simp; first | done | with_reducible rfl | rw [if_neg (by omega)] | rw [if_pos (by omega)]
  simp only [Act.put, nA, nB, nC]
  refine wpU_take 11 (some 8) (v := ?_) rfl rfl (by kernel_rfl) (fun _ _ _ h => h) rfl (fun x hx => ?_) ?_
  rotate_left 1
  · go_simp; first | done | with_reducible rfl | rw [if_neg (by omega)] | rw [if_pos (by omega)]
  simp only [Act.put, nA, nB, nC]
  refine wpU_take 12 (some 9) (v := ?_) rfl rfl (by kernel_rfl) (fun _ _ _ h => h) rfl (fun x hx => ?_) ?_
  rotate_left 1
  · go_simp; first | done | with_reducible rfl | rw [if_neg (by omega)] | rw [if_pos (by omega)]
  simp only [Act.put, nA, nB, nC]
  refine wpU_take 13 (some 10) (v := ?_) rfl rfl (by kernel_rfl) (fun _ _ _ h => h) rfl (fun x hx => ?_) ?_
  rotate_left 1
  · go_simp; first | done | with_reducible rfl | rw [if_neg (by omega)] | rw [if_pos (by omega)]
  simp only [Act.put, nA, nB, nC]
  refine wpU_last [] (by kernel_rfl) rfl rfl ?_
  obtain ⟨p0, p1, p2, p3, p4, p5⟩ := cells_p HE3.out.blk
  obtain ⟨g0, kA0, kc0, hA0, hk0, he0⟩ := kid_cells HR.out (j := 0) (by simp) HE3.out.base
  simp only [List.getElem_cons_zero] at hk0 he0
  obtain ⟨e00, e01, e02, e03, e04, e05⟩ := he0
  simp only [Nat.zero_mul, Nat.zero_add] at e00 e01 e02 e03 e04 e05
  have HK0 := Lib.hid hk0
  clear hk0
  subst hA0
  go_wp2_with fail
  refine (HIH.out k0 _ hv0 HK0.out b a w3 (by omega) ha HE3.out.base HE3.out.st).mono ?_
  rintro e w4 ⟨v4, st4, rfl, hd4, hpost4⟩
  have HD := Lib.hid (HE3.out.fr.trans hd4)
  have hsz := HE3.out.size
  cases hr : ev defs s n b k0 a with
  | none =>
    rw [hr] at hpost4
    obtain ⟨⟨l, hrow, hlb⟩, kk, hst4⟩ := hpost4
    obtain ⟨m0, m1, m2, m3⟩ := cells_n hst4
    obtain ⟨vA, vc, rfl, _, _⟩ := hrow.form
    have HST := Lib.hid hst4
    have HR0 := Lib.hid hr
    clear hr hd4 hrow hlb hst4
    clear p0 p1 p2 p3 p4 p5 e00 e01 e02 e03 e04 e05
    go_wp2_with fail
    go_ret2
    exact evPost_none (by rw [ev_arbno, HR0.out]) (EndRow.nil _ _) (LB.nil _) HD.out ⟨kk, HST.out⟩ _
  | some r =>
    obtain ⟨l, st, b1⟩ := r
    rw [hr] at hpost4
    obtain ⟨rfl, hrow, hst4⟩ := hpost4
    obtain ⟨hb1, hlb⟩ := ev_len n b k0 a l st4 b1 hr
    have hwi := ev_within hdv n b k0 a l st4 b1 (by rw [← hdn]; exact hv0) ha hr
    have hfc := hlb.2
    have hlen := hlb.1
    have HE4 := Lib.hid (HE3.out.drawn hd4 (b' := b1) hst4)
    have hfb : ∀ k, v4.ownBlock = some k → k < w4.heap.size ∧ k ≠ M := fun k hk => by
      obtain ⟨xs, hx, _⟩ := hrow
      have h1 := hx.lt k hk
      have h2 := HE3.out.hM.1
      omega
    obtain ⟨vA, vc, rfl, _, _⟩ := hrow.form
    have HROW := Lib.hid (hrow.weak (Nat.le_of_lt hsz))
    have HR0 := Lib.hid hr
    have HW := Lib.hid (show ∀ e ∈ l, e.at_ ≤ s.size from fun e he => (hwi e he).2)
    have HFC := Lib.hid hfc
    have HFB := Lib.hid hfb
    have hMw := HE3.out.hM.1
    clear hr hd4 hrow hst4 hlb hfc hwi hfb
    obtain ⟨m0, m1, m2, m3⟩ := cells_n HE4.out.st.2
    clear p0 p1 p2 p3 p4 p5 e00 e01 e02 e03 e04 e05
    obtain ⟨p0, p1, p2, p3, p4, p5⟩ := cells_p HE4.out.blk
    have hla := Later.alloc (Later.refl w4) (.cells #[.int .i64 a, .slice none 0 0] TE)
    have HE5 := Lib.hid (HE4.out.later hla)
    have HFR := Lib.hid ((HROW.out.later hla).weak (Nat.zero_le _))
    have HLA := Lib.hid hla
    clear hla p0 p1 p2 p3 p4 p5
    obtain ⟨p0, p1, p2, p3, p4, p5⟩ := cells_p HE5.out.blk
    have hBne : ¬ w.heap.size = w4.heap.size := by have := HE4.out.size; omega
    go_wp2_with fail
    refine (after_any w0 M dA dn dc defs s n (.mk 13 text num lo hi [k0]) _ (HIH.out (.mk 13 text num lo hi [k0]) _ hvp HKID.out) _ w4.heap.size b1 [⟨a, []⟩] l _ _ st4 a (b - b1 + 1) HE5.out.base hM (by have := HE4.out.size; omega) (by simp) HE5.out.st (by omega) (EndRow.single w4 w4.heap.size a _ (Nat.le_refl _) rfl) HFR.out HFB.out HW.out (fun e he => Nat.le_trans (HFC.out e he) (Nat.le_succ _)) ⟨b - b1 + 1, LB.one _ _ (by omega), Nat.le_refl _, by omega⟩ HKID.out).mono ?_
    rintro e w5 ⟨v5, st5, rfl, hd5, hpost5⟩
    have HD5 := Lib.hid (HE4.out.fr.trans ((DrB.trans (DrB.later HLA.out (Nat.le_refl _)) hd5).drawnOf (by have := HE4.out.size; omega)))
    have hsz4 := HE4.out.size
    cases hT : afterE (fun b x => ev defs s n b (.mk 13 text num lo hi [k0]) x) a l [⟨a, []⟩] st4 b1 with
    | none =>
      rw [hT] at hpost5
      obtain ⟨rfl, hn5⟩ := hpost5
      have HN5 := Lib.hid hn5
      have HT := Lib.hid hT
      clear hT hn5 hd5
      go_wp2_with fail
      go_ret2
      exact evPost_none (by rw [ev_arbno, HR0.out]; exact HT.out) (EndRow.nil _ _) (LB.nil _) HD5.out HN5.out _
    | some r =>
      obtain ⟨L, st', b2⟩ := r
      rw [hT] at hpost5
      obtain ⟨rfl, hrow5, hn5⟩ := hpost5
      have HROW5 := Lib.hid (hrow5.weak (Nat.le_of_lt hsz4))
      obtain ⟨vB, vd, rfl, _, _⟩ := hrow5.form
      have HN5 := Lib.hid hn5
      have HT := Lib.hid hT
      clear hT hn5 hd5 hrow5
      go_wp2_with fail
      go_ret2
      exact evPost_some (by rw [ev_arbno, HR0.out]; exact HT.out) HROW5.out HD5.out HN5.out

theorem Drawn.trans' {M : Nat} {w x y : World} (h : Drawn M w x) (k : DrB w.heap.size M x y) (hM : M < w.heap.size) : Drawn M w y :=
  ⟨⟨k.os.trans h.below.os, k.tape.trans h.below.tape, k.output.trans h.below.output, Nat.le_trans h.below.size k.size, fun i hi => (k.other i (by omega) (by omega)).trans (h.below.block i hi)⟩, fun i hi hm => (k.other i hi hm).trans (h.other i hi hm)⟩

set_option maxRecDepth 100000 in
set_option maxHeartbeats 4000000 in
theorem eval_alt {w0 w : World} {M : Nat} {dA : Option Addr} {dn dc : Nat} {s : ByteArray} {defs : List Pat} {n b a : Nat} {text : ByteArray} {num lo hi : Int} {k0 k1 : Pat} {A : Option Addr} {c : Nat} 
    (hst : NSt w M dA dn dc s (some (b + 1))) (hl : Later w0 w) (hM : w0.heap.size ≤ M) (hs : s.size ≤ 120) (ha : a ≤ s.size) (hkid : KidsIn w0 (.mk 15 text num lo hi [k0, k1]) (.slice A 2 c)) (ih : ∀ (p : Pat) (kv : Value), valid p dn = true → KidsIn w0 p kv → EvalIs w0 M dA dn dc defs s n p kv) (hbn : b < n) (hv0 : valid k0 dn = true) (hv1 : valid k1 dn = true) (hdv : DefsOkV defs) (hdn : dn = defs.length) :
    Calls Try.prog 57 #[.pointer (some ⟨M, 0, none⟩), patV 15 text num lo hi (.slice A 2 c), .int .i64 a] w (EvPost w M dA dn dc s (b + 1) (ev defs s (n + 1) (b + 1) (.mk 15 text num lo hi [k0, k1]) a)) := by
  have HIH := Lib.hid ih
  clear ih
  have HS := Lib.hid hst
  have hMlt := hst.lt
  have hb3000 := hst.1
  have HR := Lib.hid (kids_row hkid)
  have HKID := Lib.hid hkid
  clear hkid
  have HE := Lib.hid (EvAt.start hst hl hM (.cells #[.int .i64 15, .string text, .int .i64 num, .int .i64 lo, .int .i64 hi, .slice A 2 c] TP))
  clear hst hl
  go_enter Try.func57, Try.ntmps57
  go_wp2_with fail
  refine (implStep_any M dA dn dc s (some (b + 1)) _ HE.out.st).mono ?_
  rintro e w1 ⟨rfl, hn1, hd1, _⟩
  have HE1 := Lib.hid (HE.out.drawn hd1 (b' := b) hn1)
  have t4 : (less (some (b + 1))).isSome = true := rfl
  clear hn1 hd1 HE
  go_wp2_with fail
  -- region 3: 14 operations, the last []
  refine wpU_begin [] [] (by kernel_rfl) (fun w2 hw2 => ?_)
  have HE2 := Lib.hid (HE1.out.later (drew_later hw2))
  clear hw2 HE1
  refine wpU_take 0 (some 30) (v := ?_) rfl rfl (by kernel_rfl) (fun _ _ _ h => h) rfl (fun x hx => ?_) ?_
  rotate_left 1
  · obtain ⟨m0, m1, m2, m3⟩ := cells_n (HE2.out.st.later hx).2; obtain ⟨p0, p1, p2, p3, p4, p5⟩ := cells_p (hx.has HE2.out.blk); go_simp; first | done | with_reducible rfl | rw [if_neg (by omega)] | rw [if_pos (by omega)]
  simp only [Act.put, nA, nB, nC]
  refine wpU_take 1 (some 31) (v := ?_) rfl rfl (by kernel_rfl) (fun _ _ _ h => h) rfl (fun x hx => ?_) ?_
  rotate_left 1
  · go_simp; first | done | with_reducible rfl | rw [if_neg (by omega)] | rw [if_pos (by omega)]
  simp only [Act.put, nA, nB, nC]
  refine wpU_take 2 (some 32) (v := ?_) rfl rfl (by kernel_rfl) (fun _ _ _ h => h) rfl (fun x hx => ?_) ?_
  rotate_left 1
  · go_simp; first | done | with_reducible rfl | rw [if_neg (by omega)] | rw [if_pos (by omega)]
  simp only [Act.put, nA, nB, nC]
  refine wpU_take 3 (some 33) (v := ?_) rfl rfl (by kernel_rfl) (fun _ _ _ h => h) rfl (fun x hx => ?_) ?_
  rotate_left 1
  · go_simp; first | done | with_reducible rfl | rw [if_neg (by omega)] | rw [if_pos (by omega)]
  simp only [Act.put, nA, nB, nC]
  refine wpU_take 4 (some 34) (v := ?_) rfl rfl (by kernel_rfl) (fun _ _ _ h => h) rfl (fun x hx => ?_) ?_
  rotate_left 1
  · obtain ⟨m0, m1, m2, m3⟩ := cells_n (HE2.out.st.later hx).2; obtain ⟨p0, p1, p2, p3, p4, p5⟩ := cells_p (hx.has HE2.out.blk); go_simp; first | done | with_reducible rfl | rw [if_neg (by omega)] | rw [if_pos (by omega)]
  simp only [Act.put, nA, nB, nC]
  refine wpU_take 5 (some 35) (v := ?_) rfl rfl (by kernel_rfl) (fun _ _ _ h => h) rfl (fun x hx => ?_) ?_
  rotate_left 1
  · go_simp; first | done | with_reducible rfl | rw [if_neg (by omega)] | rw [if_pos (by omega)]
  simp only [Act.put, nA, nB, nC]
  refine wpU_step 6 (by kernel_rfl) rfl rfl ?_  -- call value (Go.Operand.func 78)
  go_wp2_with fail
  refine (simple_else text num lo hi A 2 c s a _ 15 (by omega)).mono ?_
  rintro e w3 ⟨rfl, hb3⟩
  go_wp2_with fail
  refine ⟨hb3, ?_⟩
  have HE3 := Lib.hid (HE2.out.later hb3)
  clear HE2 hb3
  refine wpU_take 7 (some 29) (v := ?_) rfl rfl (by kernel_rfl) (fun _ _ _ h => h) rfl (fun x hx => ?_) ?_
  rotate_left 1
  · go_simp; first | done | with_reducible rfl | rw [if_neg (by omega)] | rw [if_pos (by omega)]
  simp only [Act.put, nA, nB, nC]
  refine wpU_take 8 (some 37) (v := ?_) rfl rfl (by kernel_rfl) (fun _ _ _ h => h) rfl (fun x hx => ?_) ?_
  rotate_left 1
  · go_simp; first | done | with_reducible rfl | rw [if_neg (by omega)] | rw [if_pos (by omega)]
  simp only [Act.put, nA, nB, nC]
  refine wpU_take 9 (some 38) (v := ?_) rfl rfl (by kernel_rfl) (fun _ _ _ h => h) rfl (fun x hx => ?_) ?_
  rotate_left 1
  · go_simp; first | done | with_reducible rfl | rw [if_neg (by omega)] | rw [if_pos (by omega)]
  simp only [Act.put, nA, nB, nC]
  refine wpU_take 10 (some 39) (v := ?_) rfl rfl (by kernel_rfl) (fun _ _ _ h => h) rfl (fun x hx => ?_) ?_
  rotate_left 1
  · go_simp; first | done | with_reducible rfl | rw [if_neg (by omega)] | rw [if_pos (by omega)]
  simp only [Act.put, nA, nB, nC]
  refine wpU_take 11 (some 8) (v := ?_) rfl rfl (by kernel_rfl) (fun _ _ _ h => h) rfl (fun x hx => ?_) ?_
  rotate_left 1
  · go_simp; first | done | with_reducible rfl | rw [if_neg (by omega)] | rw [if_pos (by omega)]
  simp only [Act.put, nA, nB, nC]
  refine wpU_take 12 (some 9) (v := ?_) rfl rfl (by kernel_rfl) (fun _ _ _ h => h) rfl (fun x hx => ?_) ?_
  rotate_left 1
  · go_simp; first | done | with_reducible rfl | rw [if_neg (by omega)] | rw [if_pos (by omega)]
  simp only [Act.put, nA, nB, nC]
  refine wpU_take 13 (some 10) (v := ?_) rfl rfl (by kernel_rfl) (fun _ _ _ h => h) rfl (fun x hx => ?_) ?_
  rotate_left 1
  · go_simp; first | done | with_reducible rfl | rw [if_neg (by omega)] | rw [if_pos (by omega)]
  simp only [Act.put, nA, nB, nC]
  refine wpU_last [] (by kernel_rfl) rfl rfl ?_
  obtain ⟨p0, p1, p2, p3, p4, p5⟩ := cells_p HE3.out.blk
  obtain ⟨g0, kA0, kc0, hA0, hk0, he0⟩ := kid_cells HR.out (j := 0) (by simp) HE3.out.base
  simp only [List.getElem_cons_zero] at hk0 he0
  obtain ⟨e00, e01, e02, e03, e04, e05⟩ := he0
  simp only [Nat.zero_mul, Nat.zero_add] at e00 e01 e02 e03 e04 e05
  have HK0 := Lib.hid hk0
  clear hk0
  subst hA0
  go_wp2_with fail
  refine (HIH.out k0 _ hv0 HK0.out b a w3 (by omega) ha HE3.out.base HE3.out.st).mono ?_
  rintro e w4 ⟨v4, st4, rfl, hd4, hpost4⟩
  have HD := Lib.hid (HE3.out.fr.trans hd4)
  have hsz := HE3.out.size
  cases hr : ev defs s n b k0 a with
  | none =>
    rw [hr] at hpost4
    obtain ⟨⟨l, hrow, hlb⟩, kk, hst4⟩ := hpost4
    obtain ⟨m0, m1, m2, m3⟩ := cells_n hst4
    obtain ⟨vA, vc, rfl, _, _⟩ := hrow.form
    have HST := Lib.hid hst4
    have HR0 := Lib.hid hr
    have HROW := Lib.hid (hrow.weak (Nat.le_of_lt hsz))
    have HLB := Lib.hid (hlb.mono (Nat.le_succ b))
    clear hr hd4 hrow hlb hst4
    clear p0 p1 p2 p3 p4 p5 e00 e01 e02 e03 e04 e05
    cases st4
    · go_wp2_with fail
      go_ret2
      exact evPost_none (by rw [ev_alt, HR0.out]) HROW.out HLB.out HD.out ⟨kk, HST.out⟩ _
    · go_wp2_with fail
      go_ret2
      exact evPost_none (by rw [ev_alt, HR0.out]) HROW.out HLB.out HD.out ⟨kk, HST.out⟩ _
  | some r =>
    obtain ⟨l, st, b1⟩ := r
    rw [hr] at hpost4
    obtain ⟨rfl, hrow, hst4⟩ := hpost4
    obtain ⟨hb1, hlb⟩ := ev_len n b k0 a l st4 b1 hr
    have hwi := ev_within hdv n b k0 a l st4 b1 (by rw [← hdn]; exact hv0) ha hr
    have hfc := hlb.2
    have hlen := hlb.1
    have HE4 := Lib.hid (HE3.out.drawn hd4 (b' := b1) hst4)
    have hfb : ∀ k, v4.ownBlock = some k → k < w4.heap.size ∧ k ≠ M := fun k hk => by
      obtain ⟨xs, hx, _⟩ := hrow
      have h1 := hx.lt k hk
      have h2 := HE3.out.hM.1
      omega
    obtain ⟨vA, vc, rfl, _, _⟩ := hrow.form
    have HROW := Lib.hid (hrow.weak (Nat.le_of_lt hsz))
    have HR0 := Lib.hid hr
    have HW := Lib.hid (show ∀ e ∈ l, e.at_ ≤ s.size from fun e he => (hwi e he).2)
    have HFC := Lib.hid hfc
    have HFB := Lib.hid hfb
    have hMw := HE3.out.hM.1
    clear hr hd4 hrow hst4 hlb hfc hwi hfb
    obtain ⟨m0, m1, m2, m3⟩ := cells_n HE4.out.st.2
    clear p0 p1 p2 p3 p4 p5 e00 e01 e02 e03 e04 e05
    obtain ⟨p0, p1, p2, p3, p4, p5⟩ := cells_p HE4.out.blk
    have h1 := kid_cells HR.out (j := 1) (by simp) HE4.out.base
    simp only [List.getElem_cons_succ, List.getElem_cons_zero] at h1
    obtain ⟨g1, kA1, kc1, hA1, hk1, he1⟩ := h1
    obtain ⟨e10, e11, e12, e13, e14, e15⟩ := he1
    simp only [Nat.one_mul, Nat.reduceAdd] at e10 e11 e12 e13 e14 e15
    have HK1 := Lib.hid hk1
    obtain rfl : g0 = g1 := by cases hA1; rfl
    clear hk1 hA1
    cases st4 with
    | true =>
      go_wp2_with fail
      go_ret2
      exact evPost_some (by rw [ev_alt, HR0.out]; rfl) HROW.out HE4.out.fr HE4.out.st
    | false =>
      go_wp2_with fail
      refine (HIH.out k1 _ hv1 HK1.out b1 a w4 (by omega) ha HE4.out.base HE4.out.st).mono ?_
      rintro e w5 ⟨v5, st5, rfl, hd5, hpost5⟩
      have HD6 := Lib.hid (HE4.out.fr.trans hd5)
      obtain ⟨cs4, hcs4⟩ := HE4.out.st.some_
      have HROW6 := Lib.hid (HROW.out.same (KeepT.drawn hd5 hcs4 (by decide)) (fun k h1 h2 _ => hd5.other k h2 (by omega)))
      clear hcs4 hd5
      cases hT : ev defs s n b1 k1 a with
      | none =>
        rw [hT] at hpost5
        obtain ⟨⟨l2, hrow2, hlb2⟩, hn6⟩ := hpost5
        obtain ⟨vB, vd, rfl, _, hd2⟩ := hrow2.form
        have hlen2 := hlb2.1
        have HROW2 := Lib.hid (hrow2.weak (Nat.zero_le _))
        have HLB2 := Lib.hid hlb2
        have HN6 := Lib.hid hn6
        have HT := Lib.hid hT
        clear hT hn6 hrow2 hlb2 p0 p1 p2 p3 p4 p5 m0 m1 m2 m3 e10 e11 e12 e13 e14 e15
        obtain ⟨xs1, hx1, he1⟩ := HROW6.out
        obtain ⟨xs2, hx2, he2⟩ := HROW2.out
        obtain ⟨i, hi, hz0, hz1, hz2⟩ := info_parts infoE
        have HX1 := Lib.hid hx1
        have HX2 := Lib.hid hx2
        have HE1x := Lib.hid he1
        have HE2x := Lib.hid he2
        clear hx1 hx2 he1 he2
        go_wp2_with (at_builtin; refine wpList_append_row _ rfl _ _ _ rfl w.heap.size 0 TE i _ 2 32 Try.underlying55 hi hz0 hz1 hz2 rfl rfl HX1.out rfl HX2.out (ElemsE.oneCell _ _ HE2x.out) ?a3 ?a4 (by omega) ?a5 ?_; fail_if_success done)
        case a3 => omega
        case a4 => omega
        case a5 => have := HD6.out.below.size; omega
        intro v7 w7 hrow7 hg7 hb7
        obtain ⟨vE, ve, rfl, _, _⟩ := hrow7.form
        have hgr := DrB.grown (M := M) HX1.out hg7 (by have := HD6.out.below.size; omega)
        have HD7 := Lib.hid (HD6.out.trans' hgr hMlt)
        have HN7 := Lib.hid (HN6.out.same (hg7.block M HN6.out.lt (fun e => by have := (HX1.out.lt M e.symm).1; omega)))
        have HROW7 : Hid (EndRow w.heap.size w7 _ _) := Lib.hid ⟨_, by rw [List.length_append]; exact hrow7, ElemsE.keep hgr.caps _ _ (ElemsE.append _ _ _ _ HE1x.out HE2x.out)⟩
        clear hrow7 hg7 hb7 hgr
        go_wp2_with fail
        go_ret2
        exact evPost_none (by rw [ev_alt, HR0.out]; simp only [Bool.false_eq_true, if_false]; rw [HT.out]) HROW7.out ((LB.append (a := b - b1) (b := b1) ⟨hlen, HFC.out⟩ HLB2.out).mono (by omega)) HD7.out HN7.out _
      | some r =>
        obtain ⟨l2, st', b2⟩ := r
        rw [hT] at hpost5
        obtain ⟨rfl, hrow2, hn6⟩ := hpost5
        obtain ⟨vB, vd, rfl, _, _⟩ := hrow2.form
        obtain ⟨hb2, hlb2⟩ := ev_len n b1 k1 a l2 st5 b2 hT
        have hlen2 := hlb2.1
        have HROW2 := Lib.hid (hrow2.weak (Nat.zero_le _))
        have HN6 := Lib.hid hn6
        have HT := Lib.hid hT
        clear hT hn6 hrow2 hlb2 p0 p1 p2 p3 p4 p5 m0 m1 m2 m3 e10 e11 e12 e13 e14 e15
        obtain ⟨xs1, hx1, he1⟩ := HROW6.out
        obtain ⟨xs2, hx2, he2⟩ := HROW2.out
        obtain ⟨i, hi, hz0, hz1, hz2⟩ := info_parts infoE
        have HX1 := Lib.hid hx1
        have HX2 := Lib.hid hx2
        have HE1x := Lib.hid he1
        have HE2x := Lib.hid he2
        clear hx1 hx2 he1 he2
        go_wp2_with (at_builtin; refine wpList_append_row _ rfl _ _ _ rfl w.heap.size 0 TE i _ 2 32 Try.underlying55 hi hz0 hz1 hz2 rfl rfl HX1.out rfl HX2.out (ElemsE.oneCell _ _ HE2x.out) ?a3 ?a4 (by omega) ?a5 ?_; fail_if_success done)
        case a3 => omega
        case a4 => omega
        case a5 => have := HD6.out.below.size; omega
        intro v7 w7 hrow7 hg7 hb7
        obtain ⟨vE, ve, rfl, _, _⟩ := hrow7.form
        have hgr := DrB.grown (M := M) HX1.out hg7 (by have := HD6.out.below.size; omega)
        have HD7 := Lib.hid (HD6.out.trans' hgr hMlt)
        have HN7 := Lib.hid (HN6.out.same (hg7.block M HN6.out.lt (fun e => by have := (HX1.out.lt M e.symm).1; omega)))
        have HROW7 : Hid (EndRow w.heap.size w7 _ _) := Lib.hid ⟨_, by rw [List.length_append]; exact hrow7, ElemsE.keep hgr.caps _ _ (ElemsE.append _ _ _ _ HE1x.out HE2x.out)⟩
        clear hrow7 hg7 hb7 hgr
        go_wp2_with fail
        go_ret2
        exact evPost_some (by rw [ev_alt, HR0.out]; simp only [Bool.false_eq_true, if_false]; rw [HT.out]) HROW7.out HD7.out HN7.out

end Go.Proofs.Ytndefbecoahfhaa
