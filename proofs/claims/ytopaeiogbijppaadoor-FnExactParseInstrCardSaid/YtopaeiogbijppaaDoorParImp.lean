/- impl.ParseInstr at every text. -/
import Derived.Test.YtopaeiogbijppaaDoorParName
namespace Go.Proofs.YtopaeiogbijppaaDoor
open Go.RowKit

/-- The memory while the instruction is built, in block B. -/
structure PiSt (w : World) (B G N : Nat) (ps : List (List UInt8)) (op a b line : Int) (t : ByteArray) (wr : World) : Prop where
  res : wr.heap[w.heap.size]? = some (insObj 0 0 0 0 ⟨#[]⟩)
  blk : wr.heap[B]? = some (insObj op a b line t)
  parts : StrRow wr G ps
  nm : StrRow wr N names
  bel : Below w.heap.size w wr
  hB : w.heap.size < B
  hG : G ≠ B
  hN : N ≠ B
theorem StrRow.later {w x : World} {g : Nat} {l : List (List UInt8)} (h : StrRow w g l) (hl : Later w x) : StrRow x g l :=
  ⟨Nat.lt_of_lt_of_le h.1 hl.size, fun j hj => (hl.cell ⟨g, j, none⟩ h.1).trans (h.2 j hj)⟩
theorem StrRow.set {w : World} {g : Nat} {l : List (List UInt8)} (h : StrRow w g l) {B : Nat} (hB : g ≠ B) (o : Nat) (v : Value) : StrRow (w.setCell ⟨B, o, none⟩ v) g l :=
  ⟨by have := (Below.setCell (B := 0) (Below.refl 0 w) (p := ⟨B, o, none⟩) (Nat.zero_le _) v).size; exact Nat.lt_of_lt_of_le h.1 this, fun j hj => (World.cell?_of_block (w := w) (Below.heap_setCell _ _ _ _ hB)).trans (h.2 j hj)⟩
section
variable {w : World} {B G N : Nat} {ps : List (List UInt8)} {op a b line : Int} {t : ByteArray} {wr x : World}
theorem PiSt.later (h : PiSt w B G N ps op a b line t wr) (hl : Later wr x) : PiSt w B G N ps op a b line t x :=
  ⟨(Below.block hl _ (Array.getElem?_eq_some_iff.1 h.res).1).trans h.res, (Below.block hl _ (Array.getElem?_eq_some_iff.1 h.blk).1).trans h.blk, h.parts.later hl, h.nm.later hl, h.bel.trans (Below.mono hl h.bel.size), h.hB, h.hG, h.hN⟩
theorem PiSt.set_ (h : PiSt w B G N ps op a b line t wr) {op' a' b' line' : Int} {t' : ByteArray} {o : Nat} {v : Value} (hb : (wr.setCell ⟨B, o, none⟩ v).heap[B]? = some (insObj op' a' b' line' t')) : PiSt w B G N ps op' a' b' line' t' (wr.setCell ⟨B, o, none⟩ v) :=
  ⟨(Below.heap_setCell _ _ _ _ (by have := h.hB; simp; omega)).trans h.res, hb, h.parts.set h.hG _ _, h.nm.set h.hN _ _, h.bel.setCell (by have := h.hB; simp; omega) _, h.hB, h.hG, h.hN⟩
theorem PiSt.set0 (h : PiSt w B G N ps op a b line t wr) (v : Int) : PiSt w B G N ps v a b line t (wr.setCell ⟨B, 0, none⟩ (.int .i64 v)) := h.set_ (set_row h.blk _)
theorem PiSt.set1 (h : PiSt w B G N ps op a b line t wr) (v : Int) : PiSt w B G N ps op v b line t (wr.setCell ⟨B, 1, none⟩ (.int .i64 v)) := h.set_ (set_row h.blk _)
theorem PiSt.set2 (h : PiSt w B G N ps op a b line t wr) (v : Int) : PiSt w B G N ps op a v line t (wr.setCell ⟨B, 2, none⟩ (.int .i64 v)) := h.set_ (set_row h.blk _)
theorem PiSt.set3 (h : PiSt w B G N ps op a b line t wr) (v : Int) : PiSt w B G N ps op a b v t (wr.setCell ⟨B, 3, none⟩ (.int .i64 v)) := h.set_ (set_row h.blk _)
theorem PiSt.set4 (h : PiSt w B G N ps op a b line t wr) (v : ByteArray) : PiSt w B G N ps op a b line v (wr.setCell ⟨B, 4, none⟩ (.string v)) := h.set_ (set_row h.blk _)
end
theorem below_set5 {B R : Nat} {a w : World} (h : Below B a w) (hR : B ≤ R) (v0 v1 v2 v3 v4 : Value) : Below B a (((((w.setCell ⟨R, 0, none⟩ v0).setCell ⟨R, 1, none⟩ v1).setCell ⟨R, 2, none⟩ v2).setCell ⟨R, 3, none⟩ v3).setCell ⟨R, 4, none⟩ v4) :=
  ((((h.setCell hR _).setCell hR _).setCell hR _).setCell hR _).setCell hR _
theorem numOut_eq (A : Option Int) : numOut A = .tuple #[.int .i64 (A.getD 0), .bool A.isSome] := by cases A <;> rfl
theorem strOut_eq (T : Option (List UInt8)) : strOut T = .tuple #[.string ⟨(T.getD []).toArray⟩, .bool T.isSome] := by cases T <;> rfl
theorem resOf_no {s : ByteArray} {op : Nat} {A B L : Option Int} {T : Option (List UInt8)} (h : A.isSome = false ∨ B.isSome = false ∨ L.isSome = false ∨ T.isSome = false ∨ op = 0 ∨ instrText op (A.getD 0) (B.getD 0) (L.getD 0) ⟨(T.getD []).toArray⟩ ≠ s) : resOf s op A B L T = insOut 0 0 0 0 ⟨#[]⟩ false := by
  cases A with
  | none => rfl
  | some a => cases B with
    | none => rfl
    | some b => cases L with
      | none => rfl
      | some l => cases T with
        | none => rfl
        | some t =>
          simp only [Option.isSome_some, Bool.true_eq_false, false_or, Option.getD_some] at h
          simp only [resOf]
          rw [if_neg]
          rintro ⟨h1, h2⟩
          rcases h with h | h
          · exact h1 h
          · exact h h2
theorem resOf_yes {s : ByteArray} {op : Nat} {A B L : Option Int} {T : Option (List UInt8)} (hA : A.isSome = true) (hB : B.isSome = true) (hL : L.isSome = true) (hT : T.isSome = true) (h0 : op ≠ 0) (h : instrText op (A.getD 0) (B.getD 0) (L.getD 0) ⟨(T.getD []).toArray⟩ = s) : resOf s op A B L T = insOut op (A.getD 0) (B.getD 0) (L.getD 0) ⟨(T.getD []).toArray⟩ true := by
  cases A with
  | none => cases hA
  | some a => cases B with
    | none => cases hB
    | some b => cases L with
      | none => cases hL
      | some l => cases T with
        | none => cases hT
        | some t => simp only [Option.getD_some] at h; simp only [resOf, Option.getD_some]; rw [if_pos ⟨h0, h⟩]
theorem getD_bound {A : Option Int} (h : ∀ x, A = some x → -999999999999 ≤ x ∧ x ≤ 999999999999) : I64 (A.getD 0) := by
  cases A with
  | none => exact ⟨by decide, by decide⟩
  | some a => have := h a rfl; exact ⟨by simp; omega, by simp; omega⟩
theorem getD_size {T : Option (List UInt8)} {n : Nat} (h : ∀ x, T = some x → x.length ≤ n) : (⟨(T.getD []).toArray⟩ : ByteArray).size ≤ n := by
  cases T with
  | none => exact Nat.zero_le _
  | some t => exact h t rfl
set_option maxRecDepth 100000 in
set_option maxHeartbeats 4000000 in
theorem implParseInstr_any (s : ByteArray) (w : World) (hs : s.size ≤ 1048576) (ht : Tabs w) (hm : MaxL w) :
    Calls Tryd.prog 6 #[.string s] w fun e w' => e = .returned (insRes s) ∧ Below w.heap.size w w' := by
  obtain ⟨R, hR⟩ : ∃ R, insRes s = R := ⟨_, rfl⟩
  rw [hR]
  have hl5 := five_length s.data.toList
  obtain ⟨w1, hw1⟩ : ∃ w1, w1 = w.alloc (insObj 0 0 0 0 ⟨#[]⟩) := ⟨_, rfl⟩
  have hb1 : Below w.heap.size w w1 := by rw [hw1]; exact (Below.refl _ _).alloc (Nat.le_refl _) _
  have hS := splitN_any s w1 hs (hm.below hb1)
  have HT1 := Lib.hid (ht.below hb1)
  have HS := Lib.hid hS
  have HT := Lib.hid ht
  have HR := Lib.hid hR
  have HM := Lib.hid hm
  clear hS ht hR hm
  go_enter Tryd.func6, Tryd.ntmps6
  go_wp2_with fail
  rw [show w.alloc (.cells #[.int .i64 0, .int .i64 0, .int .i64 0, .int .i64 0, .string ⟨#[]⟩] 23) = w1 from hw1.symm]
  refine HS.out.mono ?_
  rintro e w2 ⟨c, o, rfl, hc, hw2, hrow⟩
  have hlt1 : w.heap.size < w1.heap.size := by rw [hw1]; simp
  have hres1 : w1.heap[w.heap.size]? = some (insObj 0 0 0 0 ⟨#[]⟩) := by rw [hw1]; exact heap_alloc_new w _
  have hl12 : Later w1 w2 := by rw [hw2]; exact (Later.refl _).alloc _
  have hres2 := (Below.block hl12 _ hlt1).trans hres1
  have hb2 := hb1.trans (Below.mono hl12 hb1.size)
  have HT2 := Lib.hid (HT.out.below hb2)
  have HROW := Lib.hid hrow
  clear hw2 hrow hb1 hres1 HS HT1
  obtain ⟨G, hG⟩ : ∃ G, w1.heap.size = G := ⟨_, rfl⟩
  have hG2 : G < w2.heap.size := by have := HROW.out.1; omega
  rw [hG] at HROW hlt1 ⊢
  clear hw1 hG
  obtain ⟨n, hn⟩ : ∃ n, (five s.data.toList).length = n := ⟨_, rfl⟩
  rw [hn] at hl5 hc ⊢
  by_cases h5 : 5 ≤ (spl s.data.toList).length
  · have he : n = 5 := hl5.2.2 h5
    obtain ⟨q0, q1, q2, q3, q4, r, hq⟩ := spl_five h5
    have hres := insRes_long hq
    rw [HR.out] at hres
    obtain ⟨l0, l1, l2, l3, l4⟩ := pieces_le hq
    have hrow := HROW.out
    rw [five_long hq] at hrow
    obtain ⟨A, hA⟩ : ∃ A, parI q1 = A := ⟨_, rfl⟩
    obtain ⟨Bb, hBb⟩ : ∃ A, parI q2 = A := ⟨_, rfl⟩
    obtain ⟨L, hL⟩ : ∃ A, parI q3 = A := ⟨_, rfl⟩
    obtain ⟨T, hT⟩ : ∃ A, unqT 34 (jn (q4 :: r)) = A := ⟨_, rfl⟩
    rw [hA, hBb, hL, hT] at hres
    have hPA := implParseInt_any ⟨q1.toArray⟩
    have hPB := implParseInt_any ⟨q2.toArray⟩
    have hPL := implParseInt_any ⟨q3.toArray⟩
    have hPT := implUnquote_any ⟨(jn (q4 :: r)).toArray⟩
    simp only [show ∀ l : List UInt8, (⟨l.toArray⟩ : ByteArray).data.toList = l from fun _ => rfl, hA, hBb, hL, hT] at hPA hPB hPL hPT
    have eA := fun (x : Int) (e : A = some x) => parI_bound (hA.trans e)
    have eB := fun (x : Int) (e : Bb = some x) => parI_bound (hBb.trans e)
    have eL := fun (x : Int) (e : L = some x) => parI_bound (hL.trans e)
    have eT := fun (x : List UInt8) (e : T = some x) => unqT_len (hT.trans e)
    have HFACT := Lib.hid (And.intro hPA (And.intro hPB (And.intro hPL (And.intro hPT (And.intro eA (And.intro eB (And.intro eL eT)))))))
    have HRES := Lib.hid hres
    have HROW3 := Lib.hid hrow
    have HLE := Lib.hid (And.intro l0 (And.intro l1 (And.intro l2 (And.intro l3 l4))))
    have hpl := places q0
    have HB2 := Lib.hid hb2
    have HL5 := Lib.hid hres2
    clear hres hrow l0 l1 l2 l3 l4 hA hBb hL hT hPA hPB hPL hPT eA eB eL eT hq h5 hl5 hb2 hres2 hl12 HROW HR
    subst he
    go_wp2_with fail
    obtain ⟨w3, hw3⟩ : ∃ w3, w3 = w2.alloc (insObj 0 0 0 0 ⟨#[]⟩) := ⟨_, rfl⟩
    rw [show w2.alloc (.cells #[.int .i64 0, .int .i64 0, .int .i64 0, .int .i64 0, .string ⟨#[]⟩] 23) = w3 from hw3.symm]
    have hl23 : Later w2 w3 := by rw [hw3]; exact (Later.refl _).alloc _
    have hblk3 : w3.heap[w2.heap.size]? = some (insObj 0 0 0 0 ⟨#[]⟩) := by rw [hw3]; exact heap_alloc_new w2 _
    have hsz3 : w2.heap.size < w3.heap.size := by rw [hw3]; simp
    obtain ⟨B, hB⟩ : ∃ B, w2.heap.size = B := ⟨_, rfl⟩
    rw [hB] at hblk3 hsz3 ⊢
    have hBw : w.heap.size < B := by omega
    refine (instrNames_row w3 (HT2.out.below hl23)).mono ?_
    rintro e w4 ⟨rfl, hw4⟩
    have hl34 : Later w3 w4 := by rw [hw4]; exact (Later.refl _).alloc _
    have hnm : StrRow w4 w3.heap.size names := by rw [hw4]; exact row_new w3 names
    obtain ⟨N, hN⟩ : ∃ N, w3.heap.size = N := ⟨_, rfl⟩
    rw [hN] at hnm hsz3 ⊢
    have hst : PiSt w B G N [q0, q1, q2, q3, jn (q4 :: r)] 0 0 0 0 ⟨#[]⟩ w4 :=
      ⟨(Below.block (hl23.trans hl34) _ (Array.getElem?_eq_some_iff.1 HL5.out).1).trans HL5.out, (Below.block hl34 _ (Array.getElem?_eq_some_iff.1 hblk3).1).trans hblk3, HROW3.out.later (hl23.trans hl34), hnm, HB2.out.trans (Below.mono (hl23.trans hl34) HB2.out.size), hBw, by omega, by omega⟩
    have HST := Lib.hid hst
    clear hst hnm hl34 hw4 hN hblk3 hl23 hw3 hB HB2 HL5 HROW3 HT2
    go_wp2_with fail
    go_loopw [25] (fun i wr => ∃ (k : Nat), i = .int .i64 k ∧ k ≤ 30 ∧ Hid (PiSt w B G N [q0, q1, q2, q3, jn (q4 :: r)] (placeIn names q0 k : Nat) 0 0 0 ⟨#[]⟩ wr)) (fun i _ => 30 - (intOf i).toNat)
    case atStart => exact ⟨0, rfl, Nat.zero_le _, Lib.hid (by rw [placeIn_zero]; exact HST.out)⟩
    case round =>
      obtain ⟨k, rfl, hk, HSK⟩ := hrel
      by_cases hlt : k < 30
      · have t1 : decide ((k : Int) < 30) = true := decide_eq_true (by omega)
        have hnk : k < names.length := hlt
        have e0 := HSK.out.nm.2 k hnk
        have e1 := HSK.out.parts.2 0 (by simp)
        rw [show [q0, q1, q2, q3, jn (q4 :: r)][0] = q0 from rfl] at e1
        obtain ⟨y, hy⟩ : ∃ y : ByteArray, (⟨names[k].toArray⟩ : ByteArray) = y := ⟨_, rfl⟩
        rw [hy] at e0
        have hyl : names[k] = y.data.toList := by rw [← hy]
        obtain ⟨z, hz⟩ : ∃ z : ByteArray, (⟨q0.toArray⟩ : ByteArray) = z := ⟨_, rfl⟩
        rw [hz] at e1
        have hzl : q0 = z.data.toList := by rw [← hz]
        have HY := Lib.hid hyl
        have HZ := Lib.hid hzl
        have HK := Lib.hid hnk
        clear hy hz hyl hzl
        by_cases he : y = z
        · subst he
          have hhit := placeIn_hit names_nodup HK.out (HY.out.trans HZ.out.symm)
          have v2 : (y.toList == y.toList) = true := by simp
          have HST2 := Lib.hid (HSK.out.set0 ((k : Int) + 1))
          obtain ⟨c0, c1, c2, c3, c4⟩ := ins_cells HSK.out.blk
          obtain ⟨f0, f1, f2, f3, f4⟩ := ins_open HSK.out.blk
          have HH := Lib.hid hhit
          clear hhit HSK
          go_wp2_with fail
          go_roundw
          case rel => exact ⟨k + 1, by go_num, by omega, Lib.hid (by rw [HH.out]; exact_mod_cast HST2.out)⟩
          case measure => simp [intOf]; omega
        · have v1 : (y.toList == z.toList) = false := by rw [beq_eq_false_iff_ne]; exact fun h => he (toList_inj h)
          have hmiss := placeIn_miss (w := q0) HK.out (fun e => he (str_ext (by rw [← HY.out, e, HZ.out])))
          have HH := Lib.hid hmiss
          clear hmiss he
          go_wp2_with fail
          go_roundw
          case rel => exact ⟨k + 1, by go_num, by omega, Lib.hid (by rw [HH.out]; exact HSK.out)⟩
          case measure => simp [intOf]; omega
      · have t1 : decide ((k : Int) < 30) = false := decide_eq_false (by omega)
        obtain rfl : k = 30 := by omega
        have hpl2 : placeIn names q0 30 = placeOf names q0 := placeIn_all names q0
        have HOP := Lib.hid hpl2
        simp only [hpl2] at HSK
        clear hpl2 hlt hk t1 HST
        obtain ⟨OP, hOP⟩ : ∃ OP, placeOf names q0 = OP := ⟨_, rfl⟩
        rw [hOP] at HSK HRES hpl
        obtain ⟨m0, m1, m2, m3, m4⟩ := HLE.out
        have e1 := HSK.out.parts.2 1 (by simp)
        have e2 := HSK.out.parts.2 2 (by simp)
        have e3 := HSK.out.parts.2 3 (by simp)
        have e4 := HSK.out.parts.2 4 (by simp)
        simp only [List.getElem_cons_succ, List.getElem_cons_zero] at e1 e2 e3 e4
        obtain ⟨hPA, hPB, hPL, hPT, eA, eB, eL, eT⟩ := HFACT.out
        rw [numOut_eq] at hPA hPB hPL
        rw [strOut_eq] at hPT
        have bA := getD_bound eA
        have bB := getD_bound eB
        have bL := getD_bound eL
        have bT : (⟨(T.getD []).toArray⟩ : ByteArray).size ≤ 1048576 := getD_size fun x h => by
          have := eT x h
          have hm : (jn (q4 :: r)).length ≤ s.size := m4
          omega
        have HNO := Lib.hid (fun h => HRES.out.trans (resOf_no (s := s) (op := OP) (A := A) (B := Bb) (L := L) (T := T) h))
        have HYES := Lib.hid (fun h1 h2 h3 h4 h5 h6 => HRES.out.trans (resOf_yes (s := s) (op := OP) (A := A) (B := Bb) (L := L) (T := T) h1 h2 h3 h4 h5 h6))
        have hz1 : (⟨q1.toArray⟩ : ByteArray).size ≤ 1048576 := Nat.le_trans m1 hs
        have hz2 : (⟨q2.toArray⟩ : ByteArray).size ≤ 1048576 := Nat.le_trans m2 hs
        have hz3 : (⟨q3.toArray⟩ : ByteArray).size ≤ 1048576 := Nat.le_trans m3 hs
        have hz4 : (⟨(jn (q4 :: r)).toArray⟩ : ByteArray).size ≤ 1048576 := Nat.le_trans m4 hs
        generalize A.getD 0 = av at *
        generalize Bb.getD 0 = bv at *
        generalize L.getD 0 = lv at *
        generalize (⟨(T.getD []).toArray⟩ : ByteArray) = tv at *
        generalize A.isSome = ak at *
        generalize Bb.isSome = bk at *
        generalize L.isSome = lk at *
        generalize T.isSome = tk at *
        generalize (⟨q1.toArray⟩ : ByteArray) = Q1 at *
        generalize (⟨q2.toArray⟩ : ByteArray) = Q2 at *
        generalize (⟨q3.toArray⟩ : ByteArray) = Q3 at *
        generalize (⟨(jn (q4 :: r)).toArray⟩ : ByteArray) = Q4 at *
        have HPA := Lib.hid (hPA wr hz1)
        have HPB := Lib.hid (hPB wr hz2)
        have HPL := Lib.hid (hPL wr hz3)
        have HPT := Lib.hid (hPT wr hz4)
        have HBD := Lib.hid (And.intro bA (And.intro bB bL))
        clear hPA hPB hPL hPT eA eB eL eT bA bB bL m0 m1 m2 m3 m4 hz1 hz2 hz3 hz4 HFACT HRES HLE hOP HOP
        go_wp2_with fail
        refine HPA.out.mono ?_
        rintro e x ⟨rfl, hx⟩
        obtain rfl := hx.symm
        go_wp2_with fail
        refine HPB.out.mono ?_
        rintro e x ⟨rfl, hx⟩
        obtain rfl := hx.symm
        go_wp2_with fail
        refine HPL.out.mono ?_
        rintro e x ⟨rfl, hx⟩
        obtain rfl := hx.symm
        go_wp2_with fail
        refine HPT.out.mono ?_
        rintro e w5 ⟨rfl, hb5⟩
        have hst5 := HSK.out.later hb5
        obtain ⟨c0, c1, c2, c3, c4⟩ := ins_cells hst5.blk
        obtain ⟨f0, f1, f2, f3, f4⟩ := ins_open hst5.blk
        obtain ⟨r0, r1, r2, r3, r4⟩ := ins_cells hst5.res
        obtain ⟨g0, g1, g2, g3, g4⟩ := ins_open hst5.res
        have hne : w.heap.size ≠ B := by omega
        have HX := Lib.hid ((((hst5.set1 av).set2 bv).set3 lv).set4 tv)
        clear hst5 HSK e1 e2 e3 e4 HPA HPB HPL HPT hb5
        cases ak
        · skip
          go_wp2_with fail
          refine bodyPost_ret (v := insOut 0 0 0 0 ⟨#[]⟩ false) (by simp [results, Tryd.results6, go_sem, r0, r1, r2, r3, r4, g0, g1, g2, g3, g4, hne, insOut]) rfl ⟨?_, below_set5 HX.out.bel (Nat.le_refl _) _ _ _ _ _⟩
          exact congrArg Ending.returned (HNO.out (by simp)).symm
        cases bk
        · skip
          go_wp2_with fail
          refine bodyPost_ret (v := insOut 0 0 0 0 ⟨#[]⟩ false) (by simp [results, Tryd.results6, go_sem, r0, r1, r2, r3, r4, g0, g1, g2, g3, g4, hne, insOut]) rfl ⟨?_, below_set5 HX.out.bel (Nat.le_refl _) _ _ _ _ _⟩
          exact congrArg Ending.returned (HNO.out (by simp)).symm
        cases lk
        · skip
          go_wp2_with fail
          refine bodyPost_ret (v := insOut 0 0 0 0 ⟨#[]⟩ false) (by simp [results, Tryd.results6, go_sem, r0, r1, r2, r3, r4, g0, g1, g2, g3, g4, hne, insOut]) rfl ⟨?_, below_set5 HX.out.bel (Nat.le_refl _) _ _ _ _ _⟩
          exact congrArg Ending.returned (HNO.out (by simp)).symm
        cases tk
        · skip
          go_wp2_with fail
          refine bodyPost_ret (v := insOut 0 0 0 0 ⟨#[]⟩ false) (by simp [results, Tryd.results6, go_sem, r0, r1, r2, r3, r4, g0, g1, g2, g3, g4, hne, insOut]) rfl ⟨?_, below_set5 HX.out.bel (Nat.le_refl _) _ _ _ _ _⟩
          exact congrArg Ending.returned (HNO.out (by simp)).symm
        by_cases h0 : OP = 0
        · subst h0
          have t0 : ((0 : Nat) : Int) == 0 := by decide
          go_wp2_with fail
          refine bodyPost_ret (v := insOut 0 0 0 0 ⟨#[]⟩ false) (by simp [results, Tryd.results6, go_sem, r0, r1, r2, r3, r4, g0, g1, g2, g3, g4, hne, insOut]) rfl ⟨?_, below_set5 HX.out.bel (Nat.le_refl _) _ _ _ _ _⟩
          exact congrArg Ending.returned (HNO.out (by simp)).symm
        · have t0 : (((OP : Nat) : Int) == 0) = false := by rw [beq_eq_false_iff_ne]; omega
          have HFI := Lib.hid (implFormatInstr_in OP av bv lv tv _ bT (by omega) (by omega) HBD.out.1 HBD.out.2.1 HBD.out.2.2 (HT.out.below HX.out.bel))
          obtain ⟨IT, hIT⟩ : ∃ IT, instrText OP av bv lv tv = IT := ⟨_, rfl⟩
          rw [hIT] at HFI HNO HYES
          go_wp2_with fail
          refine HFI.out.mono ?_
          rintro e w6 ⟨rfl, hb6⟩
          have hst6 := HX.out.later hb6
          obtain ⟨d0, d1, d2, d3, d4⟩ := ins_cells hst6.blk
          obtain ⟨k0, k1, k2, k3, k4⟩ := ins_cells hst6.res
          obtain ⟨j0, j1, j2, j3, j4⟩ := ins_open hst6.res
          have HX6 := Lib.hid hst6
          clear hst6 hb6 c0 c1 c2 c3 c4 f0 f1 f2 f3 f4 r0 r1 r2 r3 r4 g0 g1 g2 g3 g4
          by_cases hit : IT = s
          · subst hit
            have v1 : (IT.toList == IT.toList) = true := by simp
            go_wp2_with fail
            refine bodyPost_ret (v := insOut OP av bv lv tv true) (by simp [results, Tryd.results6, go_sem, d0, d1, d2, d3, d4, k0, k1, k2, k3, k4, j0, j1, j2, j3, j4, hne, insOut]) rfl ⟨?_, below_set5 HX6.out.bel (Nat.le_refl _) _ _ _ _ _⟩
            exact congrArg Ending.returned (HYES.out (by simp) (by simp) (by simp) (by simp) h0 (by simp)).symm
          · have v1 : (IT.toList == s.toList) = false := by rw [beq_eq_false_iff_ne]; exact fun h => hit (toList_inj h)
            go_wp2_with fail
            refine bodyPost_ret (v := insOut 0 0 0 0 ⟨#[]⟩ false) (by simp [results, Tryd.results6, go_sem, k0, k1, k2, k3, k4, j0, j1, j2, j3, j4, hne, insOut]) rfl ⟨?_, below_set5 HX6.out.bel (Nat.le_refl _) _ _ _ _ _⟩
            exact congrArg Ending.returned (HNO.out (by simp [hit])).symm
  · have hne : n ≠ 5 := fun e => h5 (hl5.2.1 e)
    have t1 : ((n : Int) != 5) = true := by simp; omega
    have hR0 : R = insOut 0 0 0 0 ⟨#[]⟩ false := by rw [← HR.out, insRes_short (by omega)]
    obtain ⟨p0, p1, p2, p3, p4⟩ := ins_cells hres2
    obtain ⟨f0, f1, f2, f3, f4⟩ := ins_open hres2
    have HB2 := Lib.hid hb2
    clear hl5 h5 hres2 hl12 hb2 HR
    go_wp2_with fail
    refine bodyPost_ret (v := insOut 0 0 0 0 ⟨#[]⟩ false) (by simp [results, Tryd.results6, go_sem, p0, p1, p2, p3, p4, f0, f1, f2, f3, f4, insOut]) rfl ⟨?_, below_set5 HB2.out (Nat.le_refl _) _ _ _ _ _⟩
    rw [hR0]
end Go.Proofs.YtopaeiogbijppaaDoor
