/- Part of the walks of both matchers and of the laws' helpers. -/
import Derived.Test.YtndefbecoahfhaaZC6
import Derived.Laws.IdiomStrings

/- markText, markPatternS, markPattern: they write into patterns' own cells alone. -/
namespace Go.Proofs.Ytndefbecoahfhaa
open Go.RowKit

theorem one_conv (x : Int) (h0 : 0 ≤ x) (h1 : x < 256) (w : World) : ∃ s : ByteArray, s.size = 1 ∧ (convert 22 9 (.slice (some ⟨w.heap.size, 0, none⟩) 1 1)).run Try.prog (w.alloc (.cells #[.int .u8 x] 5)) = .ok (.string s) (w.alloc (.cells #[.int .u8 x] 5)) := by
  have hx : (((UInt8.ofNat x.toNat).toNat : Nat) : Int) = x := by
    rw [UInt8.toNat_ofNat', Nat.mod_eq_of_lt (by omega)]; omega
  refine ⟨⟨[UInt8.ofNat x.toNat].toArray⟩, rfl, ?_⟩
  exact run_convert_bytes_back (w.alloc (.cells #[.int .u8 x] 5)) 22 9 5 ⟨w.heap.size, 0, none⟩ 1 [UInt8.ofNat x.toNat] Try.underlying22 Try.underlying5 Try.underlying9 (fun j hj => by
    obtain rfl : j = 0 := by simp at hj; omega
    simp [Addr.add]
    omega)

set_option maxRecDepth 100000 in
set_option maxHeartbeats 1000000 in
theorem markText_any (k : Int) (w : World) (hk : 1 ≤ k) (hk1 : k ≤ 1099511627776) :
    Calls Try.prog 45 #[.int .i64 k] w fun e w' => (∃ t, e = .returned (.string t)) ∧ Below w.heap.size w w' := by
  have t1 : decide (k ≤ 0) = false := by simp; omega
  go_enter Try.func45, Try.ntmps45
  go_wp2_with fail
  go_loopw [0, 3] (fun kv out wr => ∃ (z : Int) (t : ByteArray), kv = .int .i64 z ∧ out = .string t ∧ 0 ≤ z ∧ (t.size : Int) + z ≤ k ∧ Below w.heap.size w wr) (fun kv _ _ => (intOf kv).toNat)
  case atStart => exact ⟨k, ⟨#[]⟩, rfl, rfl, by omega, by show ((0 : Nat) : Int) + k ≤ k; omega, Below.refl _ _⟩
  case round =>
    obtain ⟨z, t, rfl, rfl, hz, ht, hbel⟩ := hrel
    have hsz := hbel.size
    by_cases hlt : 0 < z
    · obtain ⟨s, hs, hcv⟩ := one_conv (48 + z % 10) (by omega) (by omega) wr
      have HS := Lib.hid hs
      have hcat : ¬ (9223372036854775807 : Int) < (s.size : Int) + (t.size : Int) := by omega
      clear hs
      go_wp2_with fail
      go_roundw
      case rel => exact ⟨z / 10, s ++ t, rfl, rfl, by omega, by rw [ByteArray.size_append, HS.out]; omega, hbel.alloc hsz _⟩
      case measure => simp [intOf]; omega
    · have hcat : ¬ (9223372036854775807 : Int) < 1 + (t.size : Int) := by omega
      go_wp2_with fail
      go_ret
      exact ⟨⟨_, rfl⟩, hbel⟩

/-! ### Marked patterns -/
structure Marked (base top : Nat) (w x : World) : Prop where
  below : Below base w x
  keep : ∀ T, TP ≠ T → KeepT T w x
  pats : ∀ (g : Nat) (cur : Array Value), w.heap[g]? = some (.cells cur TP (0, 0)) → ∃ cur' : Array Value, x.heap[g]? = some (.cells cur' TP (0, 0)) ∧ cur'.size = cur.size ∧ ∀ i : Nat, cur'[i * 6 + 5]? = cur[i * 6 + 5]?
  size : w.heap.size ≤ x.heap.size
  rest : ∀ b, top ≤ b → b < w.heap.size → x.heap[b]? = w.heap[b]?
theorem Marked.refl (base top : Nat) (w : World) : Marked base top w w := ⟨Below.refl _ _, fun _ _ => KeepT.refl _ _, fun _ cur h => ⟨cur, h, rfl, fun _ => rfl⟩, Nat.le_refl _, fun _ _ _ => rfl⟩
theorem Marked.trans {base top : Nat} {a b c : World} (h : Marked base top a b) (k : Marked base top b c) : Marked base top a c :=
  ⟨h.below.trans k.below, fun T hT => (h.keep T hT).trans (k.keep T hT), fun g cur hg => by
    obtain ⟨c1, e1, s1, f1⟩ := h.pats g cur hg
    obtain ⟨c2, e2, s2, f2⟩ := k.pats g c1 e1
    exact ⟨c2, e2, by omega, fun i => (f2 i).trans (f1 i)⟩, Nat.le_trans h.size k.size, fun b ht hb => (k.rest b ht (Nat.lt_of_lt_of_le hb h.size)).trans (h.rest b ht hb)⟩
theorem Marked.later {base top : Nat} {w x : World} (hl : Later w x) (hb : base ≤ w.heap.size) : Marked base top w x :=
  ⟨Below.mono hl hb, fun _ _ => KeepT.later hl, fun _ cur hg => ⟨cur, hl.has hg, rfl, fun _ => rfl⟩, hl.size, fun b _ hb => hl.block b hb⟩
theorem Marked.set {base top : Nat} {w : World} {g o : Nat} {cur : Array Value} (hg : w.heap[g]? = some (.cells cur TP (0, 0))) (hb : base ≤ g) (ht : g < top) (ho : o % 6 ≠ 5) (u : Value) : Marked base top w (w.setCell ⟨g, o, none⟩ u) :=
  ⟨(Below.refl _ _).setCell hb u, fun _ hT => KeepT.set (a := ⟨g, o, none⟩) hg hT u, fun g' cur' hg' => by
    by_cases e : g' = g
    · subst e
      rw [hg] at hg'
      cases hg'
      exact ⟨_, heap_set_own hg u, by simp, fun i => by rw [Array.getElem?_setIfInBounds_ne (by omega)]⟩
    · exact ⟨cur', heap_set_other hg' e, rfl, fun _ => rfl⟩, by simp, fun b hb _ => Below.heap_setCell _ _ _ _ (by show b ≠ g; omega)⟩

mutual
/-- The value kv is a slice of as many patterns as p has kids, from base on. -/
def SKids (base top : Nat) (w : World) : Pat → Value → Prop
  | .mk _ _ _ _ _ kids, kv => ∃ A c, kv = .slice A kids.length c ∧ kids.length ≤ c ∧ SRow base top w A 0 kids
def SRow (base top : Nat) (w : World) (A : Option Addr) : Nat → List Pat → Prop
  | _, [] => True
  | j, p :: ps => (∃ (g : Nat) (kv : Value) (cur : Array Value), A = some ⟨g, 0, none⟩ ∧ base ≤ g ∧ g < top ∧ w.heap[g]? = some (.cells cur TP (0, 0)) ∧ j * 6 + 5 < cur.size ∧ cur[j * 6 + 5]? = some kv ∧ SKids base top w p kv) ∧ SRow base top w A (j + 1) ps
end
mutual
theorem SKids.of {base : Nat} {w : World} : ∀ (p : Pat) (kv : Value), KidsB base w p kv → SKids base w.heap.size w p kv
  | .mk _ _ _ _ _ kids, kv, h => by
    simp only [KidsB] at h
    simp only [SKids]
    obtain ⟨A, c, e, hc, hr⟩ := h
    exact ⟨A, c, e, hc, SRow.of A 0 kids hr⟩
theorem SRow.of {base : Nat} {w : World} (A : Option Addr) : ∀ (j : Nat) (ps : List Pat), RowB base w A j ps → SRow base w.heap.size w A j ps
  | _, [], _ => by simp only [SRow]
  | j, p :: ps, h => by
    simp only [RowB] at h
    simp only [SRow]
    obtain ⟨⟨g, kv, cur, e, hb, hg, he, hk⟩, hr⟩ := h
    have h5 := (cell_of_row _ _ _ _ _ _ hg).symm.trans he.2.2.2.2.2
    exact ⟨⟨g, kv, cur, e, hb, has_lt hg, hg, (Array.getElem?_eq_some_iff.1 h5).1, h5, SKids.of p kv hk⟩, SRow.of A (j + 1) ps hr⟩
end
mutual
theorem SKids.marked {base top base' top' : Nat} {w x : World} (hm : Marked base' top' w x) : ∀ (p : Pat) (kv : Value), SKids base top w p kv → SKids base top x p kv
  | .mk _ _ _ _ _ kids, kv, h => by
    simp only [SKids] at h ⊢
    obtain ⟨A, c, e, hc, hr⟩ := h
    exact ⟨A, c, e, hc, SRow.marked hm A 0 kids hr⟩
theorem SRow.marked {base top base' top' : Nat} {w x : World} (hm : Marked base' top' w x) (A : Option Addr) : ∀ (j : Nat) (ps : List Pat), SRow base top w A j ps → SRow base top x A j ps
  | _, [], _ => by simp only [SRow]
  | j, p :: ps, h => by
    simp only [SRow] at h ⊢
    obtain ⟨⟨g, kv, cur, e, hb, ht, hg, hs, h5, hk⟩, hr⟩ := h
    obtain ⟨c', e', s', f'⟩ := hm.pats g cur hg
    exact ⟨⟨g, kv, c', e, hb, ht, e', by omega, (f' j).trans h5, SKids.marked hm p kv hk⟩, SRow.marked hm A (j + 1) ps hr⟩
end
theorem SRow.at_ {base top : Nat} {w : World} {A : Option Addr} : ∀ (ps : List Pat) (j i : Nat) (hi : i < ps.length), SRow base top w A j ps → ∃ (g : Nat) (kv : Value) (cur : Array Value), A = some ⟨g, 0, none⟩ ∧ base ≤ g ∧ g < top ∧ w.heap[g]? = some (.cells cur TP (0, 0)) ∧ (j + i) * 6 + 5 < cur.size ∧ cur[(j + i) * 6 + 5]? = some kv ∧ SKids base top w ps[i] kv
  | [], _, i, hi, _ => by simp at hi
  | p :: ps, j, 0, _, h => by
    simp only [SRow] at h
    exact h.1
  | p :: ps, j, i + 1, hi, h => by
    simp only [SRow] at h
    have := SRow.at_ ps (j + 1) i (by simpa using hi) h.2
    rw [show j + 1 + i = j + (i + 1) by omega] at this
    simpa using this
theorem SKids.form {base top : Nat} {w : World} {p : Pat} {kv : Value} (h : SKids base top w p kv) : ∃ A c, kv = .slice A p.kids.length c ∧ p.kids.length ≤ c ∧ SRow base top w A 0 p.kids := by
  obtain ⟨op, text, num, lo, hi, kids⟩ := p
  simp only [SKids] at h
  exact h

set_option maxRecDepth 100000 in
set_option maxHeartbeats 1000000 in
theorem markS_any (base top : Nat) (k : Nat) : ∀ (ps : List Pat) (A : Option Addr) (c : Nat) (w : World) (z : Int), countAll ps ≤ k → k ≤ 2097152 → 1 ≤ z → z + 5 * countAll ps ≤ 1000000000 → base ≤ w.heap.size → SRow base top w A 0 ps →
    Calls Try.prog 21 #[.slice A ps.length c, .int .i64 z] w fun e w' => e = .returned (.int .i64 (z + 5 * countAll ps)) ∧ Marked base top w w' := by
  induction k with
  | zero =>
    intro ps A c w z hc _ _ _ _ _
    have h0 := countAll_len ps
    obtain rfl : ps = [] := List.eq_nil_of_length_eq_zero (by omega)
    go_enter Try.func21, Try.ntmps21
    go_wp2_with fail
    refine wp_loop_rounds 1 ?_
    rw [rounds_succ]
    go_wp2_with fail
    go_ret
    exact ⟨by simp [countAll], Marked.refl _ _ _⟩
  | succ k ih =>
    intro ps A c w z hcnt hk hz hzb hbase hrow
    have hlen : ps.length ≤ 2097152 := by have h2 := countAll_len ps; omega
    have hlen1 : (ps.length : Int) ≤ 2097152 := by omega
    have IH := Lib.hid ih
    have HR := Lib.hid hrow
    have HC := Lib.hid hcnt
    have HZB := Lib.hid hzb
    clear ih hrow hcnt hzb
    go_enter Try.func21, Try.ntmps21
    go_wp2_with fail
    go_loopw [1, 5] (fun kv i wr => ∃ j : Nat, j ≤ ps.length ∧ i = .int .i64 j ∧ kv = .int .i64 (z + 5 * countAll (ps.take j)) ∧ Marked base top w wr) (fun _ i _ => ps.length - (intOf i).toNat)
    case atStart => exact ⟨0, Nat.zero_le _, rfl, by simp [countAll], Marked.refl _ _ _⟩
    case round =>
      obtain ⟨j, hj, rfl, rfl, hm⟩ := hrel
      have HM := Lib.hid hm
      clear hm
      have hle := countAll_take_le ps j
      obtain ⟨y, hy⟩ : ∃ y : Int, z + 5 * countAll (ps.take j) = y := ⟨_, rfl⟩
      have hy1 : 1 ≤ y := by omega
      have hy2 : y ≤ 1000000000 := by have := HZB.out; omega
      rw [hy]
      have HY := Lib.hid hy
      clear hy hle
      by_cases hlt : j < ps.length
      · have hlt' : (j : Int) < ps.length := by omega
        have hr1 := SRow.marked HM.out A 0 ps HR.out
        obtain ⟨g, kv, cur, rfl, hbg, htg, hg, hs5, h5, hkid⟩ := SRow.at_ ps 0 j hlt hr1
        simp only [Nat.zero_add] at hs5 h5
        have cell_ : ∀ o, o < 6 → ∃ u, wr.cell? ⟨g, j * 6 + o, none⟩ = some u := fun o ho => by
          rw [cell_of_row _ _ _ _ _ _ hg]
          exact ⟨_, Array.getElem?_eq_getElem (by omega)⟩
        obtain ⟨u0, c0⟩ := cell_ 0 (by omega)
        simp only [Nat.add_zero] at c0
        have f0 := frozen_of_row wr g (j * 6) _ _ hg
        have HM1 := Lib.hid (Marked.set (o := j * 6) hg hbg htg (by omega) (.int .i64 y))
        have hbw := Nat.le_trans hbase HM.out.size
        have HG := Lib.hid hg
        have HK := Lib.hid hkid
        have HS5 := Lib.hid hs5
        have H5 := Lib.hid h5
        clear hr1 cell_ hkid hg hs5 h5
        have e1 : y + 1 + 1 = y + 2 := by omega
        have e2 : y + 2 + 1 = y + 3 := by omega
        have e3 : y + 3 + 1 = y + 4 := by omega
        have e4 : y + 4 + 1 = y + 5 := by omega
        go_wp2_with fail
        clear c0 f0
        refine (markText_any (y + 1) _ (by omega) (by omega)).mono ?_
        rintro e w2 ⟨⟨t, rfl⟩, hb2⟩
        have HM2 := Lib.hid (HM1.out.trans (Marked.later hb2 (by simpa using hbw)))
        clear hb2
        obtain ⟨cur2, hg2, hs2, h52⟩ := HM2.out.pats g cur HG.out
        have hsz2 : j * 6 + 5 < cur2.size := by have := HS5.out; omega
        have cell_ : ∀ o, o < 6 → ∃ u, w2.cell? ⟨g, j * 6 + o, none⟩ = some u := fun o ho => by
          rw [cell_of_row _ _ _ _ _ _ hg2]
          exact ⟨_, Array.getElem?_eq_getElem (by omega)⟩
        obtain ⟨u1, c1⟩ := cell_ 1 (by omega)
        obtain ⟨u2, c2⟩ := cell_ 2 (by omega)
        obtain ⟨u3, c3⟩ := cell_ 3 (by omega)
        obtain ⟨u4, c4⟩ := cell_ 4 (by omega)
        obtain ⟨kA, kc, rfl, _, hrk⟩ := HK.out.form
        have c5 : w2.cell? ⟨g, j * 6 + 5, none⟩ = some (.slice kA ps[j].kids.length kc) := (cell_of_row _ _ _ _ _ _ hg2).trans ((h52 j).trans H5.out)
        have f1 := frozen_of_row w2 g (j * 6 + 1) _ _ hg2
        have f2 := frozen_of_row w2 g (j * 6 + 2) _ _ hg2
        have f3 := frozen_of_row w2 g (j * 6 + 3) _ _ hg2
        have f4 := frozen_of_row w2 g (j * 6 + 4) _ _ hg2
        have s1 := Marked.set (base := base) (o := j * 6 + 1) hg2 hbg htg (by omega) (.string t)
        obtain ⟨d1, hd1, _, _⟩ := s1.pats g cur2 hg2
        have s2 := Marked.set (base := base) (o := j * 6 + 2) hd1 hbg htg (by omega) (.int .i64 (y + 2))
        obtain ⟨d2, hd2, _, _⟩ := s2.pats g d1 hd1
        have s3 := Marked.set (base := base) (o := j * 6 + 3) hd2 hbg htg (by omega) (.int .i64 (y + 3))
        obtain ⟨d3, hd3, _, _⟩ := s3.pats g d2 hd2
        have s4 := Marked.set (base := base) (o := j * 6 + 4) hd3 hbg htg (by omega) (.int .i64 (y + 4))
        have HM3 := Lib.hid (HM2.out.trans (((s1.trans s2).trans s3).trans s4))
        have HRK := Lib.hid (SRow.marked HM3.out kA 0 _ hrk)
        have HCK := Lib.hid (count_eq ps[j])
        have HCT := Lib.hid (countAll_take_succ ps j hlt)
        have HCL := Lib.hid (countAll_take_le ps (j + 1))
        clear cell_ hg2 hs2 h52 hsz2 hrk s1 s2 s3 s4 hd1 hd2 hd3
        go_wp2_with fail
        clear c1 c2 c3 c4 c5 f1 f2 f3 f4
        refine (IH.out ps[j].kids kA kc _ (y + 5) (by have := HCK.out; have := HCT.out; have := HCL.out; have := HC.out; omega) (by omega) (by omega) (by have := HCK.out; have := HCT.out; have := HCL.out; have := HZB.out; have := HY.out; omega) (Nat.le_trans hbw HM3.out.size) HRK.out).mono ?_
        rintro e w5 ⟨rfl, hm5⟩
        have HM5 := Lib.hid ((HM.out.trans HM3.out).trans hm5)
        clear hm5
        go_wp2_with fail
        go_roundw
        case rel => exact ⟨j + 1, by omega, by go_num, by have := HCK.out; have := HCT.out; have := HY.out; congr 1; omega, HM5.out⟩
        case measure => simp [intOf]; omega
      · obtain rfl : j = ps.length := by omega
        go_wp2_with fail
        go_ret
        refine ⟨ret_int ?_, HM.out⟩
        have := HY.out
        rw [List.take_length] at this
        exact this.symm

set_option maxRecDepth 100000 in
set_option maxHeartbeats 1000000 in
theorem mark_any (base top : Nat) (p : Pat) (kv : Value) (w : World) (z : Int) (hc : count p ≤ 2097152) (hz : 1 ≤ z) (hzb : z + 5 * count p ≤ 1000000000) (hbase : base ≤ w.heap.size) (hk : SKids base top w p kv) :
    Calls Try.prog 22 #[p.v kv, .int .i64 z] w fun e w' => e = .returned (.int .i64 (z + 5 * countAll p.kids)) ∧ Marked base top w w' := by
  obtain ⟨A, c, rfl, _, hrow⟩ := hk.form
  have HE := Lib.hid (count_eq p)
  have HR := Lib.hid hrow
  have HC := Lib.hid hc
  clear hk hrow hc
  go_enter Try.func22, Try.ntmps22
  go_wp2_with fail
  have HML := Lib.hid (Marked.later (base := base) (top := top) ((Later.refl w).alloc (Obj.cells #[.int .i64 p.op, .string p.text, .int .i64 p.num, .int .i64 p.lo, .int .i64 p.hi, .slice A p.kids.length c] TP)) hbase)
  refine (markS_any base top (countAll p.kids) p.kids A c _ z (Nat.le_refl _) (by have := HE.out; have := HC.out; omega) hz (by have := HE.out; omega) (Nat.le_trans hbase HML.out.size) (SRow.marked HML.out A 0 _ HR.out)).mono ?_
  rintro e w2 ⟨rfl, hm⟩
  have HM := Lib.hid (HML.out.trans hm)
  clear hm
  go_wp2_with fail
  go_ret
  exact ⟨rfl, HM.out⟩

end Go.Proofs.Ytndefbecoahfhaa

/- impl's MatchPattern. Printed by gen_mp.py. -/
namespace Go.Proofs.Ytndefbecoahfhaa
open Go.RowKit

set_option maxRecDepth 100000 in
set_option maxHeartbeats 4000000 in
theorem matchPattern_play (defs : List Pat) (dA : Option Addr) (dc : Nat) (p : Pat) (kv : Value) (s : ByteArray) (fr fuel : Nat) (w : World) (hs : Smalls defs) (hp : Small p) (hd : RowIn w dA 0 defs) (hin : KidsIn w p kv) (hvd : validD defs p = true)
    (hss : s.size ≤ 120) (hfr : fr ≤ s.size) (hfu : fuel ≤ 4000) :
    Calls Try.prog 11 #[.slice dA defs.length dc, p.v kv, .string s, .int .i64 fr, .int .i64 fuel] w (MatchIs w (play defs s fuel 0 [⟨0, p, 0⟩] (.start fr)) (matchFrom (play defs s fuel 0 [⟨0, p, 0⟩] (.start fr)) fr)) := by
  obtain ⟨kA, kc, rfl, _, _⟩ := hin.form
  obtain ⟨hdok, hpv⟩ := validD_defs hvd hs
  have hlen := hdok.len
  have HD := Lib.hid hdok
  have HV := Lib.hid (ok_start hpv hp hfr)
  have HROW := Lib.hid hd
  have HIN := Lib.hid hin
  have HS := Lib.hid hs
  have HP := Lib.hid hp
  have HVD := Lib.hid hvd
  obtain ⟨RES, hR⟩ : ∃ R, play defs s fuel 0 [⟨0, p, 0⟩] (.start fr) = R := ⟨_, rfl⟩
  rw [hR]
  have HRES := Lib.hid hR
  clear hR hdok hpv hd hin hs hp hvd
  have i1 : (s.size : Int) ≤ 120 := by omega
  have i2 : (fr : Int) ≤ s.size := by omega
  have i3 : (fuel : Int) ≤ 4000 := by omega
  have t1 : decide ((120 : Int) < s.size) = false := by simp; omega
  have t2 : decide ((fr : Int) < 0) = false := by simp
  have t3 : decide (s.size < fr) = false := by simp; omega
  have t4 : decide ((fuel : Int) < 0) = false := by simp
  have t5 : decide ((4000 : Int) < fuel) = false := by simp; omega
  go_enter Try.func11, Try.ntmps11
  go_wp2_with fail
  have HLA := Lib.hid (((Later.refl w).alloc (Obj.cells #[.int .i64 p.op, .string p.text, .int .i64 p.num, .int .i64 p.lo, .int .i64 p.hi, .slice kA p.kids.length kc] TP)).alloc (Obj.cells zeroM TR))
  refine (validDefinitions_is true defs dA dc p _ _ HS.out HP.out (RowIn.later HLA.out _ _ _ HROW.out) (KidsIn.later HLA.out _ _ HIN.out) (by omega) HVD.out).mono ?_
  rintro e w2 ⟨rfl, hb2⟩
  have HL2 := Lib.hid (HLA.out.trans hb2)
  have HP2 := Lib.hid (Later.has hb2 (((Later.refl _).alloc _).has (heap_alloc_new w _)))
  have HR2 := Lib.hid (Later.has hb2 (heap_alloc_new _ _))
  simp only [World.size_alloc] at HR2
  have HIN2 := Lib.hid (KidsIn.later HL2.out _ _ HIN.out)
  have HROW2 := Lib.hid (RowIn.later HL2.out _ _ _ HROW.out)
  clear hb2 HLA
  obtain ⟨p0, p1, p2, p3, p4, p5⟩ := cells_p HP2.out
  have hz1 := has_lt HP2.out
  have hz2 := has_lt HR2.out
  go_wp2_with fail
  clear p0 p1 p2 p3 p4 p5
  obtain ⟨M, hM⟩ : ∃ M, w2.heap.size = M := ⟨_, rfl⟩
  obtain ⟨RB, hRBe⟩ : ∃ RB, w.heap.size + 1 = RB := ⟨_, rfl⟩
  have hwz : w.heap.size ≤ RB := by omega
  rw [hRBe] at HR2 hz2
  rw [hM, hRBe]
  have HME := Lib.hid hM
  clear hM hRBe hz1
  go_loopg [12] fuel (fun k gv wr => LoopRel w2 defs dA dc s M fuel RES k gv wr)
  case atStart =>
    obtain rfl := HME.out
    exact ⟨0, [⟨0, p, 0⟩], .start fr, .slice none 0 0, .slice none 0 0, .slice none 0 0, [], by omega, ⟨_, _, _, rfl, by rw [show w2.heap.size + 1 = (w2.alloc _).heap.size by simp]; exact heap_alloc_new _ _, HIN2.out, rfl⟩, implAt_start (Later.refl w2) _, HV.out, HRES.out⟩
  case round =>
    obtain ⟨n, gs, m, cv, ev, hv, hs, hnk, hg, hI, hok, hpl⟩ := hrel
    have hRB := (hI.below.block _ hz2).trans HR2.out
    obtain ⟨cA, cc, rfl, _, _⟩ := hI.caps.form
    obtain ⟨eA, ec, rfl, _, _⟩ := hI.evs.form
    obtain ⟨hA, hc, rfl, _, _⟩ := hI.chs.form
    have hRM : ¬ RB = M := ne_of_type hRB hI.blk (by decide)
    have hMR : ¬ M = RB := fun e => hRM e.symm
    have HI := Lib.hid hI
    have HB := Lib.hid hRB
    have HPL := Lib.hid hpl
    have HK := Lib.hid hok
    clear hI hRB hpl hok
    cases gs with
    | nil =>
      simp only [GoalsAt] at hg
      subst hg
      rw [play_nil] at HPL
      go_wp2_with fail
      -- region 23: 22 operations, the last [21]
      refine wpU_begin [21] [] (by kernel_rfl) (fun w3 hw3 => ?_)
      have hl3 := drew_later hw3
      have HI3 := Lib.hid (HI.out.later hl3)
      have HB3 := Lib.hid (hl3.has HB.out)
      clear hw3 hl3
      refine wpU_take 0 (some 180) (v := ?_) rfl rfl (by kernel_rfl) (fun _ _ _ h => h) rfl (fun x hx => ?_) ?_
      rotate_left 1
      · go_simp; first | done | with_reducible rfl | rw [if_neg (by omega)] | rw [if_pos (by omega)]
      simp only [Act.put, List.setIfInBounds_toArray, List.set_cons_zero, List.set_cons_succ]
      refine wpU_take 1 (some 181) (v := ?_) rfl rfl (by kernel_rfl) (fun _ _ _ h => h) rfl (fun x hx => ?_) ?_
      rotate_left 1
      · go_simp; first | done | with_reducible rfl | rw [if_neg (by omega)] | rw [if_pos (by omega)]
      simp only [Act.put, List.setIfInBounds_toArray, List.set_cons_zero, List.set_cons_succ]
      refine wpU_take 2 (some 182) (v := ?_) rfl rfl (by kernel_rfl) (fun _ _ _ h => h) rfl (fun x hx => ?_) ?_
      rotate_left 1
      · go_simp; first | done | with_reducible rfl | rw [if_neg (by omega)] | rw [if_pos (by omega)]
      simp only [Act.put, List.setIfInBounds_toArray, List.set_cons_zero, List.set_cons_succ]
      refine wpU_take 3 (some 183) (v := ?_) rfl rfl (by kernel_rfl) (fun _ _ _ h => h) rfl (fun x hx => ?_) ?_
      rotate_left 1
      · go_simp; first | done | with_reducible rfl | rw [if_neg (by omega)] | rw [if_pos (by omega)]
      simp only [Act.put, List.setIfInBounds_toArray, List.set_cons_zero, List.set_cons_succ]
      refine wpU_take 4 (some 184) (v := ?_) rfl rfl (by kernel_rfl) (fun _ _ _ h => h) rfl (fun x hx => ?_) ?_
      rotate_left 1
      · obtain ⟨m0, m1, m2, m8, m9, m10, m11⟩ := cells_m (hx.has HI3.out.blk); go_simp; first | done | with_reducible rfl | rw [if_neg (by omega)] | rw [if_pos (by omega)]
      simp only [Act.put, List.setIfInBounds_toArray, List.set_cons_zero, List.set_cons_succ]
      refine wpU_take 5 (some 185) (v := ?_) rfl rfl (by kernel_rfl) (fun _ _ _ h => h) rfl (fun x hx => ?_) ?_
      rotate_left 1
      · go_simp; first | done | with_reducible rfl | rw [if_neg (by omega)] | rw [if_pos (by omega)]
      simp only [Act.put, List.setIfInBounds_toArray, List.set_cons_zero, List.set_cons_succ]
      refine wpU_take 6 (some 186) (v := ?_) rfl rfl (by kernel_rfl) (fun _ _ _ h => h) rfl (fun x hx => ?_) ?_
      rotate_left 1
      · go_simp; first | done | with_reducible rfl | rw [if_neg (by omega)] | rw [if_pos (by omega)]
      simp only [Act.put, List.setIfInBounds_toArray, List.set_cons_zero, List.set_cons_succ]
      refine wpU_take 7 (some 187) (v := ?_) rfl rfl (by kernel_rfl) (fun _ _ _ h => h) rfl (fun x hx => ?_) ?_
      rotate_left 1
      · go_simp; first | done | with_reducible rfl | rw [if_neg (by omega)] | rw [if_pos (by omega)]
      simp only [Act.put, List.setIfInBounds_toArray, List.set_cons_zero, List.set_cons_succ]
      refine wpU_take 8 (some 188) (v := ?_) rfl rfl (by kernel_rfl) (fun _ _ _ h => h) rfl (fun x hx => ?_) ?_
      rotate_left 1
      · go_simp; first | done | with_reducible rfl | rw [if_neg (by omega)] | rw [if_pos (by omega)]
      simp only [Act.put, List.setIfInBounds_toArray, List.set_cons_zero, List.set_cons_succ]
      refine wpU_take 9 (some 189) (v := ?_) rfl rfl (by kernel_rfl) (fun _ _ _ h => h) rfl (fun x hx => ?_) ?_
      rotate_left 1
      · obtain ⟨m0, m1, m2, m8, m9, m10, m11⟩ := cells_m (hx.has HI3.out.blk); go_simp; first | done | with_reducible rfl | rw [if_neg (by omega)] | rw [if_pos (by omega)]
      simp only [Act.put, List.setIfInBounds_toArray, List.set_cons_zero, List.set_cons_succ]
      refine wpU_take 10 (some 190) (v := ?_) rfl rfl (by kernel_rfl) (fun _ _ _ h => h) rfl (fun x hx => ?_) ?_
      rotate_left 1
      · go_simp; first | done | with_reducible rfl | rw [if_neg (by omega)] | rw [if_pos (by omega)]
      simp only [Act.put, List.setIfInBounds_toArray, List.set_cons_zero, List.set_cons_succ]
      refine wpU_take 11 (some 191) (v := ?_) rfl rfl (by kernel_rfl) (fun _ _ _ h => h) rfl (fun x hx => ?_) ?_
      rotate_left 1
      · go_simp; first | done | with_reducible rfl | rw [if_neg (by omega)] | rw [if_pos (by omega)]
      simp only [Act.put, List.setIfInBounds_toArray, List.set_cons_zero, List.set_cons_succ]
      refine wpU_take 12 (some 192) (v := ?_) rfl rfl (by kernel_rfl) (fun _ _ _ h => h) rfl (fun x hx => ?_) ?_
      rotate_left 1
      · go_simp; first | done | with_reducible rfl | rw [if_neg (by omega)] | rw [if_pos (by omega)]
      simp only [Act.put, List.setIfInBounds_toArray, List.set_cons_zero, List.set_cons_succ]
      refine wpU_take 13 (some 193) (v := ?_) rfl rfl (by kernel_rfl) (fun _ _ _ h => h) rfl (fun x hx => ?_) ?_
      rotate_left 1
      · go_simp; first | done | with_reducible rfl | rw [if_neg (by omega)] | rw [if_pos (by omega)]
      simp only [Act.put, List.setIfInBounds_toArray, List.set_cons_zero, List.set_cons_succ]
      refine wpU_take 14 (some 194) (v := ?_) rfl rfl (by kernel_rfl) (fun _ _ _ h => h) rfl (fun x hx => ?_) ?_
      rotate_left 1
      · obtain ⟨m0, m1, m2, m8, m9, m10, m11⟩ := cells_m (hx.has HI3.out.blk); go_simp; first | done | with_reducible rfl | rw [if_neg (by omega)] | rw [if_pos (by omega)]
      simp only [Act.put, List.setIfInBounds_toArray, List.set_cons_zero, List.set_cons_succ]
      refine wpU_take 15 (some 195) (v := ?_) rfl rfl (by kernel_rfl) (fun _ _ _ h => h) rfl (fun x hx => ?_) ?_
      rotate_left 1
      · go_simp; first | done | with_reducible rfl | rw [if_neg (by omega)] | rw [if_pos (by omega)]
      simp only [Act.put, List.setIfInBounds_toArray, List.set_cons_zero, List.set_cons_succ]
      refine wpU_take 16 (some 196) (v := ?_) rfl rfl (by kernel_rfl) (fun _ _ _ h => h) rfl (fun x hx => ?_) ?_
      rotate_left 1
      · go_simp; first | done | with_reducible rfl | rw [if_neg (by omega)] | rw [if_pos (by omega)]
      simp only [Act.put, List.setIfInBounds_toArray, List.set_cons_zero, List.set_cons_succ]
      refine wpU_take 17 (some 197) (v := ?_) rfl rfl (by kernel_rfl) (fun _ _ _ h => h) rfl (fun x hx => ?_) ?_
      rotate_left 1
      · go_simp; first | done | with_reducible rfl | rw [if_neg (by omega)] | rw [if_pos (by omega)]
      simp only [Act.put, List.setIfInBounds_toArray, List.set_cons_zero, List.set_cons_succ]
      refine wpU_take 18 (some 198) (v := ?_) rfl rfl (by kernel_rfl) (fun _ _ _ h => h) rfl (fun x hx => ?_) ?_
      rotate_left 1
      · go_simp; first | done | with_reducible rfl | rw [if_neg (by omega)] | rw [if_pos (by omega)]
      simp only [Act.put, List.setIfInBounds_toArray, List.set_cons_zero, List.set_cons_succ]
      refine wpU_take 19 (some 199) (v := ?_) rfl rfl (by kernel_rfl) (fun _ _ _ h => h) rfl (fun x hx => ?_) ?_
      rotate_left 1
      · obtain ⟨m0, m1, m2, m8, m9, m10, m11⟩ := cells_m (hx.has HI3.out.blk); go_simp; first | done | with_reducible rfl | rw [if_neg (by omega)] | rw [if_pos (by omega)]
      simp only [Act.put, List.setIfInBounds_toArray, List.set_cons_zero, List.set_cons_succ]
      refine wpU_take 20 (some 200) (v := ?_) rfl rfl (by kernel_rfl) (fun _ _ _ h => h) rfl (fun x hx => ?_) ?_
      rotate_left 1
      · go_simp; first | done | with_reducible rfl | rw [if_neg (by omega)] | rw [if_pos (by omega)]
      simp only [Act.put, List.setIfInBounds_toArray, List.set_cons_zero, List.set_cons_succ]
      refine wpU_last [_] (by kernel_rfl) rfl rfl ?_
      simp only [List.getElem_toArray, List.getElem_cons_succ, List.getElem_cons_zero]
      obtain ⟨r0, r1, r2, r3, r4, r5, r6, r7⟩ := cells_r HB3.out
      obtain ⟨f0, f1, f2, f3, f4, f5, f6, f7⟩ := frozen_r HB3.out
      go_wp2_with fail
      refine bodyPost_ret (v := matchV ⟨true, false, false, m.at_, n, m.caps, m.events⟩ fr (.slice cA m.caps.length cc) (.slice eA m.events.length ec)) (by simp [results, Try.results11, go_sem, r0, r1, r2, r3, r4, r5, r6, r7]) rfl ?_
      rw [← HPL.out]
      exact matchIs_mk (r := ⟨true, false, false, m.at_, n, m.caps, m.events⟩) (fr := fr) HL2.out HI3.out.caps HI3.out.evs HI3.out.apart HI3.out.below HB3.out hwz (((((((((OnlyAt.refl _ _).set _ _).set _ _).set _ _).set _ _).set _ _).set _ _).set _ _).set _ _)
    | cons g gs =>
      obtain ⟨b, rfl⟩ := hg.ptr_cons
      have HG := Lib.hid hg
      clear hg
      by_cases hk0 : gk = 0
      · subst hk0
        obtain rfl : n = fuel := by omega
        rw [play_zero] at HPL
        obtain ⟨m0, m1, m2, m8, m9, m10, m11⟩ := cells_m HI.out.blk
        go_wp2_with fail
        clear m0 m1 m2 m8 m9 m10 m11
        -- region 7: 12 operations, the last [11]
        refine wpU_begin [11] [] (by kernel_rfl) (fun w3 hw3 => ?_)
        have hl3 := drew_later hw3
        have HI3 := Lib.hid (HI.out.later hl3)
        have HB3 := Lib.hid (hl3.has HB.out)
        clear hw3 hl3
        refine wpU_take 0 (some 62) (v := ?_) rfl rfl (by kernel_rfl) (fun _ _ _ h => h) rfl (fun x hx => ?_) ?_
        rotate_left 1
        · go_simp; first | done | with_reducible rfl | rw [if_neg (by omega)] | rw [if_pos (by omega)]
        simp only [Act.put, List.setIfInBounds_toArray, List.set_cons_zero, List.set_cons_succ]
        refine wpU_take 1 (some 63) (v := ?_) rfl rfl (by kernel_rfl) (fun _ _ _ h => h) rfl (fun x hx => ?_) ?_
        rotate_left 1
        · go_simp; first | done | with_reducible rfl | rw [if_neg (by omega)] | rw [if_pos (by omega)]
        simp only [Act.put, List.setIfInBounds_toArray, List.set_cons_zero, List.set_cons_succ]
        refine wpU_take 2 (some 64) (v := ?_) rfl rfl (by kernel_rfl) (fun _ _ _ h => h) rfl (fun x hx => ?_) ?_
        rotate_left 1
        · go_simp; first | done | with_reducible rfl | rw [if_neg (by omega)] | rw [if_pos (by omega)]
        simp only [Act.put, List.setIfInBounds_toArray, List.set_cons_zero, List.set_cons_succ]
        refine wpU_take 3 (some 65) (v := ?_) rfl rfl (by kernel_rfl) (fun _ _ _ h => h) rfl (fun x hx => ?_) ?_
        rotate_left 1
        · go_simp; first | done | with_reducible rfl | rw [if_neg (by omega)] | rw [if_pos (by omega)]
        simp only [Act.put, List.setIfInBounds_toArray, List.set_cons_zero, List.set_cons_succ]
        refine wpU_take 4 (some 66) (v := ?_) rfl rfl (by kernel_rfl) (fun _ _ _ h => h) rfl (fun x hx => ?_) ?_
        rotate_left 1
        · obtain ⟨m0, m1, m2, m8, m9, m10, m11⟩ := cells_m (hx.has HI3.out.blk); go_simp; first | done | with_reducible rfl | rw [if_neg (by omega)] | rw [if_pos (by omega)]
        simp only [Act.put, List.setIfInBounds_toArray, List.set_cons_zero, List.set_cons_succ]
        refine wpU_take 5 (some 67) (v := ?_) rfl rfl (by kernel_rfl) (fun _ _ _ h => h) rfl (fun x hx => ?_) ?_
        rotate_left 1
        · go_simp; first | done | with_reducible rfl | rw [if_neg (by omega)] | rw [if_pos (by omega)]
        simp only [Act.put, List.setIfInBounds_toArray, List.set_cons_zero, List.set_cons_succ]
        refine wpU_take 6 (some 68) (v := ?_) rfl rfl (by kernel_rfl) (fun _ _ _ h => h) rfl (fun x hx => ?_) ?_
        rotate_left 1
        · go_simp; first | done | with_reducible rfl | rw [if_neg (by omega)] | rw [if_pos (by omega)]
        simp only [Act.put, List.setIfInBounds_toArray, List.set_cons_zero, List.set_cons_succ]
        refine wpU_take 7 (some 69) (v := ?_) rfl rfl (by kernel_rfl) (fun _ _ _ h => h) rfl (fun x hx => ?_) ?_
        rotate_left 1
        · go_simp; first | done | with_reducible rfl | rw [if_neg (by omega)] | rw [if_pos (by omega)]
        simp only [Act.put, List.setIfInBounds_toArray, List.set_cons_zero, List.set_cons_succ]
        refine wpU_take 8 (some 70) (v := ?_) rfl rfl (by kernel_rfl) (fun _ _ _ h => h) rfl (fun x hx => ?_) ?_
        rotate_left 1
        · go_simp; first | done | with_reducible rfl | rw [if_neg (by omega)] | rw [if_pos (by omega)]
        simp only [Act.put, List.setIfInBounds_toArray, List.set_cons_zero, List.set_cons_succ]
        refine wpU_take 9 (some 71) (v := ?_) rfl rfl (by kernel_rfl) (fun _ _ _ h => h) rfl (fun x hx => ?_) ?_
        rotate_left 1
        · obtain ⟨m0, m1, m2, m8, m9, m10, m11⟩ := cells_m (hx.has HI3.out.blk); go_simp; first | done | with_reducible rfl | rw [if_neg (by omega)] | rw [if_pos (by omega)]
        simp only [Act.put, List.setIfInBounds_toArray, List.set_cons_zero, List.set_cons_succ]
        refine wpU_take 10 (some 72) (v := ?_) rfl rfl (by kernel_rfl) (fun _ _ _ h => h) rfl (fun x hx => ?_) ?_
        rotate_left 1
        · go_simp; first | done | with_reducible rfl | rw [if_neg (by omega)] | rw [if_pos (by omega)]
        simp only [Act.put, List.setIfInBounds_toArray, List.set_cons_zero, List.set_cons_succ]
        refine wpU_last [_] (by kernel_rfl) rfl rfl ?_
        simp only [List.getElem_toArray, List.getElem_cons_succ, List.getElem_cons_zero]
        obtain ⟨r0, r1, r2, r3, r4, r5, r6, r7⟩ := cells_r HB3.out
        obtain ⟨f0, f1, f2, f3, f4, f5, f6, f7⟩ := frozen_r HB3.out
        go_wp2_with fail
        refine bodyPost_ret (v := matchV ⟨false, false, true, 0, n, [], m.events⟩ 0 (.slice none 0 0) (.slice eA m.events.length ec)) (by simp [results, Try.results11, go_sem, r0, r1, r2, r3, r4, r5, r6, r7]) rfl ?_
        rw [← HPL.out]
        exact matchIs_mk (r := ⟨false, false, true, 0, n, [], m.events⟩) (fr := 0) HL2.out (HasRow.nil _ _ _ _) HI3.out.evs (.inl rfl) HI3.out.below HB3.out hwz (((((((((OnlyAt.refl _ _).set _ _).set _ _).set _ _).set _ _).set _ _).set _ _).set _ _).set _ _)
      · obtain ⟨k, rfl⟩ : ∃ k, gk = k + 1 := ⟨gk - 1, by omega⟩
        have hn1 : (n : Int) + 1 ≤ 4001 := by omega
        have hnf : ¬ n = fuel := by omega
        have hnf2 : (n == fuel) = false := by simpa using hnf
        have hnf3 : ((n : Int) == (fuel : Int)) = false := by simp; omega
        obtain ⟨m0, m1, m2, m8, m9, m10, m11⟩ := cells_m HI.out.blk
        have f8 := frozen_of_row wr M 8 _ _ HI.out.blk
        go_wp2_with fail
        clear m0 m1 m2 m8 m9 m10 m11 f8
        refine (execute_any (HI.out.tick ((n : Int) + 1) (by simp)) (HG.out.keep (HI.out.keepSet 8 _)) HK.out (by omega) HD.out HROW2.out hss).mono ?_
        intro e w4 hdid
        cases hst : step defs s g gs m with
        | go gs' m' =>
          rw [hst] at hdid
          obtain ⟨gv4, cv4, ev4, hv4, hs4, rfl, hG4, hI4⟩ := hdid
          obtain ⟨p4, rfl⟩ := hG4.ptr
          have HG4 := Lib.hid hG4
          have HI4 := Lib.hid hI4
          have HST := Lib.hid hst
          rw [play_go hst] at HPL
          clear hG4 hI4 hst
          go_wp2_with fail
          go_roundg k
          case measure => omega
          case rel => exact ⟨n + 1, gs', m', cv4, ev4, hv4, hs4, by omega, HG4.out, HI4.out, step_ok HD.out hss HK.out HST.out, HPL.out⟩
        | stop =>
          rw [hst] at hdid
          obtain ⟨cv4, ev4, hv4, hs4, rfl, hI4⟩ := hdid
          obtain ⟨cA4, cc4, rfl, _, _⟩ := hI4.caps.form
          obtain ⟨eA4, ec4, rfl, _, _⟩ := hI4.evs.form
          have HB4 := Lib.hid ((hI4.below.block _ hz2).trans HR2.out)
          have HI4 := Lib.hid hI4
          rw [play_stop hst] at HPL
          clear hI4 hst
          go_wp2_with fail
          -- region 11: 12 operations, the last [11]
          refine wpU_begin [11] [] (by kernel_rfl) (fun w5 hw5 => ?_)
          have hl5 := drew_later hw5
          have HI5 := Lib.hid (HI4.out.later hl5)
          have HB5 := Lib.hid (hl5.has HB4.out)
          clear hw5 hl5
          refine wpU_take 0 (some 90) (v := ?_) rfl rfl (by kernel_rfl) (fun _ _ _ h => h) rfl (fun x hx => ?_) ?_
          rotate_left 1
          · go_simp; first | done | with_reducible rfl | rw [if_neg (by omega)] | rw [if_pos (by omega)]
          simp only [Act.put, List.setIfInBounds_toArray, List.set_cons_zero, List.set_cons_succ]
          refine wpU_take 1 (some 91) (v := ?_) rfl rfl (by kernel_rfl) (fun _ _ _ h => h) rfl (fun x hx => ?_) ?_
          rotate_left 1
          · go_simp; first | done | with_reducible rfl | rw [if_neg (by omega)] | rw [if_pos (by omega)]
          simp only [Act.put, List.setIfInBounds_toArray, List.set_cons_zero, List.set_cons_succ]
          refine wpU_take 2 (some 92) (v := ?_) rfl rfl (by kernel_rfl) (fun _ _ _ h => h) rfl (fun x hx => ?_) ?_
          rotate_left 1
          · go_simp; first | done | with_reducible rfl | rw [if_neg (by omega)] | rw [if_pos (by omega)]
          simp only [Act.put, List.setIfInBounds_toArray, List.set_cons_zero, List.set_cons_succ]
          refine wpU_take 3 (some 93) (v := ?_) rfl rfl (by kernel_rfl) (fun _ _ _ h => h) rfl (fun x hx => ?_) ?_
          rotate_left 1
          · go_simp; first | done | with_reducible rfl | rw [if_neg (by omega)] | rw [if_pos (by omega)]
          simp only [Act.put, List.setIfInBounds_toArray, List.set_cons_zero, List.set_cons_succ]
          refine wpU_take 4 (some 94) (v := ?_) rfl rfl (by kernel_rfl) (fun _ _ _ h => h) rfl (fun x hx => ?_) ?_
          rotate_left 1
          · obtain ⟨m0, m1, m2, m8, m9, m10, m11⟩ := cells_m (hx.has HI5.out.blk); go_simp; first | done | with_reducible rfl | rw [if_neg (by omega)] | rw [if_pos (by omega)]
          simp only [Act.put, List.setIfInBounds_toArray, List.set_cons_zero, List.set_cons_succ]
          refine wpU_take 5 (some 95) (v := ?_) rfl rfl (by kernel_rfl) (fun _ _ _ h => h) rfl (fun x hx => ?_) ?_
          rotate_left 1
          · go_simp; first | done | with_reducible rfl | rw [if_neg (by omega)] | rw [if_pos (by omega)]
          simp only [Act.put, List.setIfInBounds_toArray, List.set_cons_zero, List.set_cons_succ]
          refine wpU_take 6 (some 96) (v := ?_) rfl rfl (by kernel_rfl) (fun _ _ _ h => h) rfl (fun x hx => ?_) ?_
          rotate_left 1
          · go_simp; first | done | with_reducible rfl | rw [if_neg (by omega)] | rw [if_pos (by omega)]
          simp only [Act.put, List.setIfInBounds_toArray, List.set_cons_zero, List.set_cons_succ]
          refine wpU_take 7 (some 97) (v := ?_) rfl rfl (by kernel_rfl) (fun _ _ _ h => h) rfl (fun x hx => ?_) ?_
          rotate_left 1
          · go_simp; first | done | with_reducible rfl | rw [if_neg (by omega)] | rw [if_pos (by omega)]
          simp only [Act.put, List.setIfInBounds_toArray, List.set_cons_zero, List.set_cons_succ]
          refine wpU_take 8 (some 98) (v := ?_) rfl rfl (by kernel_rfl) (fun _ _ _ h => h) rfl (fun x hx => ?_) ?_
          rotate_left 1
          · go_simp; first | done | with_reducible rfl | rw [if_neg (by omega)] | rw [if_pos (by omega)]
          simp only [Act.put, List.setIfInBounds_toArray, List.set_cons_zero, List.set_cons_succ]
          refine wpU_take 9 (some 99) (v := ?_) rfl rfl (by kernel_rfl) (fun _ _ _ h => h) rfl (fun x hx => ?_) ?_
          rotate_left 1
          · obtain ⟨m0, m1, m2, m8, m9, m10, m11⟩ := cells_m (hx.has HI5.out.blk); go_simp; first | done | with_reducible rfl | rw [if_neg (by omega)] | rw [if_pos (by omega)]
          simp only [Act.put, List.setIfInBounds_toArray, List.set_cons_zero, List.set_cons_succ]
          refine wpU_take 10 (some 100) (v := ?_) rfl rfl (by kernel_rfl) (fun _ _ _ h => h) rfl (fun x hx => ?_) ?_
          rotate_left 1
          · go_simp; first | done | with_reducible rfl | rw [if_neg (by omega)] | rw [if_pos (by omega)]
          simp only [Act.put, List.setIfInBounds_toArray, List.set_cons_zero, List.set_cons_succ]
          refine wpU_last [_] (by kernel_rfl) rfl rfl ?_
          simp only [List.getElem_toArray, List.getElem_cons_succ, List.getElem_cons_zero]
          obtain ⟨r0, r1, r2, r3, r4, r5, r6, r7⟩ := cells_r HB5.out
          obtain ⟨f0, f1, f2, f3, f4, f5, f6, f7⟩ := frozen_r HB5.out
          go_wp2_with fail
          refine bodyPost_ret (v := matchV ⟨false, true, false, 0, n + 1, [], m.events⟩ 0 (.slice none 0 0) (.slice eA4 m.events.length ec4)) (by simp [results, Try.results11, go_sem, r0, r1, r2, r3, r4, r5, r6, r7]) rfl ?_
          rw [← HPL.out]
          exact matchIs_mk (r := ⟨false, true, false, 0, n + 1, [], m.events⟩) (fr := 0) HL2.out (HasRow.nil _ _ _ _) HI5.out.evs (.inl rfl) HI5.out.below HB5.out hwz (((((((((OnlyAt.refl _ _).set _ _).set _ _).set _ _).set _ _).set _ _).set _ _).set _ _).set _ _)
        | fail =>
          rw [hst] at hdid
          obtain ⟨p4, cv4, ev4, hv4, hs4, rfl, hI4⟩ := hdid
          obtain ⟨cA4, cc4, rfl, _, _⟩ := hI4.caps.form
          obtain ⟨eA4, ec4, rfl, _, _⟩ := hI4.evs.form
          have HB4 := Lib.hid ((hI4.below.block _ hz2).trans HR2.out)
          have HI4 := Lib.hid hI4
          have HST := Lib.hid hst
          clear hst
          rcases List.eq_nil_or_concat m.choices with hcs | ⟨cs, c, hcs⟩
          · have hl0 : m.choices.length = 0 := by rw [hcs]; rfl
            obtain ⟨hA4, hc4, rfl, _, _⟩ := hI4.chs.form
            rw [play_none HST.out hcs] at HPL
            clear hI4 hcs
            obtain ⟨m0, m1, m2, m8, m9, m10, m11⟩ := cells_m HI4.out.blk
            go_wp2_with fail
            clear m0 m1 m2 m8 m9 m10 m11
            -- region 15: 12 operations, the last [11]
            refine wpU_begin [11] [] (by kernel_rfl) (fun w5 hw5 => ?_)
            have hl5 := drew_later hw5
            have HI5 := Lib.hid (HI4.out.later hl5)
            have HB5 := Lib.hid (hl5.has HB4.out)
            clear hw5 hl5
            refine wpU_take 0 (some 109) (v := ?_) rfl rfl (by kernel_rfl) (fun _ _ _ h => h) rfl (fun x hx => ?_) ?_
            rotate_left 1
            · go_simp; first | done | with_reducible rfl | rw [if_neg (by omega)] | rw [if_pos (by omega)]
            simp only [Act.put, List.setIfInBounds_toArray, List.set_cons_zero, List.set_cons_succ]
            refine wpU_take 1 (some 110) (v := ?_) rfl rfl (by kernel_rfl) (fun _ _ _ h => h) rfl (fun x hx => ?_) ?_
            rotate_left 1
            · go_simp; first | done | with_reducible rfl | rw [if_neg (by omega)] | rw [if_pos (by omega)]
            simp only [Act.put, List.setIfInBounds_toArray, List.set_cons_zero, List.set_cons_succ]
            refine wpU_take 2 (some 111) (v := ?_) rfl rfl (by kernel_rfl) (fun _ _ _ h => h) rfl (fun x hx => ?_) ?_
            rotate_left 1
            · go_simp; first | done | with_reducible rfl | rw [if_neg (by omega)] | rw [if_pos (by omega)]
            simp only [Act.put, List.setIfInBounds_toArray, List.set_cons_zero, List.set_cons_succ]
            refine wpU_take 3 (some 112) (v := ?_) rfl rfl (by kernel_rfl) (fun _ _ _ h => h) rfl (fun x hx => ?_) ?_
            rotate_left 1
            · go_simp; first | done | with_reducible rfl | rw [if_neg (by omega)] | rw [if_pos (by omega)]
            simp only [Act.put, List.setIfInBounds_toArray, List.set_cons_zero, List.set_cons_succ]
            refine wpU_take 4 (some 113) (v := ?_) rfl rfl (by kernel_rfl) (fun _ _ _ h => h) rfl (fun x hx => ?_) ?_
            rotate_left 1
            · obtain ⟨m0, m1, m2, m8, m9, m10, m11⟩ := cells_m (hx.has HI5.out.blk); go_simp; first | done | with_reducible rfl | rw [if_neg (by omega)] | rw [if_pos (by omega)]
            simp only [Act.put, List.setIfInBounds_toArray, List.set_cons_zero, List.set_cons_succ]
            refine wpU_take 5 (some 114) (v := ?_) rfl rfl (by kernel_rfl) (fun _ _ _ h => h) rfl (fun x hx => ?_) ?_
            rotate_left 1
            · go_simp; first | done | with_reducible rfl | rw [if_neg (by omega)] | rw [if_pos (by omega)]
            simp only [Act.put, List.setIfInBounds_toArray, List.set_cons_zero, List.set_cons_succ]
            refine wpU_take 6 (some 115) (v := ?_) rfl rfl (by kernel_rfl) (fun _ _ _ h => h) rfl (fun x hx => ?_) ?_
            rotate_left 1
            · go_simp; first | done | with_reducible rfl | rw [if_neg (by omega)] | rw [if_pos (by omega)]
            simp only [Act.put, List.setIfInBounds_toArray, List.set_cons_zero, List.set_cons_succ]
            refine wpU_take 7 (some 116) (v := ?_) rfl rfl (by kernel_rfl) (fun _ _ _ h => h) rfl (fun x hx => ?_) ?_
            rotate_left 1
            · go_simp; first | done | with_reducible rfl | rw [if_neg (by omega)] | rw [if_pos (by omega)]
            simp only [Act.put, List.setIfInBounds_toArray, List.set_cons_zero, List.set_cons_succ]
            refine wpU_take 8 (some 117) (v := ?_) rfl rfl (by kernel_rfl) (fun _ _ _ h => h) rfl (fun x hx => ?_) ?_
            rotate_left 1
            · go_simp; first | done | with_reducible rfl | rw [if_neg (by omega)] | rw [if_pos (by omega)]
            simp only [Act.put, List.setIfInBounds_toArray, List.set_cons_zero, List.set_cons_succ]
            refine wpU_take 9 (some 118) (v := ?_) rfl rfl (by kernel_rfl) (fun _ _ _ h => h) rfl (fun x hx => ?_) ?_
            rotate_left 1
            · obtain ⟨m0, m1, m2, m8, m9, m10, m11⟩ := cells_m (hx.has HI5.out.blk); go_simp; first | done | with_reducible rfl | rw [if_neg (by omega)] | rw [if_pos (by omega)]
            simp only [Act.put, List.setIfInBounds_toArray, List.set_cons_zero, List.set_cons_succ]
            refine wpU_take 10 (some 119) (v := ?_) rfl rfl (by kernel_rfl) (fun _ _ _ h => h) rfl (fun x hx => ?_) ?_
            rotate_left 1
            · go_simp; first | done | with_reducible rfl | rw [if_neg (by omega)] | rw [if_pos (by omega)]
            simp only [Act.put, List.setIfInBounds_toArray, List.set_cons_zero, List.set_cons_succ]
            refine wpU_last [_] (by kernel_rfl) rfl rfl ?_
            simp only [List.getElem_toArray, List.getElem_cons_succ, List.getElem_cons_zero]
            obtain ⟨r0, r1, r2, r3, r4, r5, r6, r7⟩ := cells_r HB5.out
            obtain ⟨f0, f1, f2, f3, f4, f5, f6, f7⟩ := frozen_r HB5.out
            go_wp2_with fail
            refine bodyPost_ret (v := matchV ⟨false, false, false, 0, n + 1, [], m.events⟩ 0 (.slice none 0 0) (.slice eA4 m.events.length ec4)) (by simp [results, Try.results11, go_sem, r0, r1, r2, r3, r4, r5, r6, r7]) rfl ?_
            rw [← HPL.out]
            exact matchIs_mk (r := ⟨false, false, false, 0, n + 1, [], m.events⟩) (fr := 0) HL2.out (HasRow.nil _ _ _ _) HI5.out.evs (.inl rfl) HI5.out.below HB5.out hwz (((((((((OnlyAt.refl _ _).set _ _).set _ _).set _ _).set _ _).set _ _).set _ _).set _ _).set _ _)
          · rw [List.concat_eq_append] at hcs
            have hl1 : m.choices.length = cs.length + 1 := by rw [hcs]; simp
            have hbig : cs.length + 1 ≤ 4000 := by have := HK.out.nch; omega
            obtain ⟨g4, hc4, hv, _, hcc, hcm⟩ := hI4.chs.block_ (by omega)
            rw [hl1] at hv
            subst hv
            have HCS := Lib.hid hcs
            have HI4 := Lib.hid hI4
            obtain ⟨a4, b4, hab, hch4, hla, _⟩ := hI4.pop hcs
            subst hab
            rw [play_last HST.out hcs] at HPL
            have hncap : c.ncap ≤ m.caps.length := HK.out.choices.le c (by rw [hcs]; simp)
            have hmc := HK.out.ncap
            have HLA := Lib.hid hla
            rw [hl1] at hcc
            have hsub : IntKind.i64.wrap (cs.length : Int) = (cs.length : Int) := IntWalk.i64_in _ (by omega)
            have hq : ((cs.length : Int) + 1 == 0) = false := by simp; omega
            clear hI4 hcs hla hl1
            obtain ⟨m0, m1, m2, m8, m9, m10, m11⟩ := cells_m HI4.out.blk
            go_wp2_with fail
            clear m0 m1 m2 m8 m9 m10 m11
            rcases hch4 with ⟨hst4, rfl⟩ | ⟨hst4, gv4, rfl, hG4⟩
            · rw [if_pos hst4] at HPL
              -- region 16: 14 operations, the last [13]
              refine wpU_begin [13] [] (by kernel_rfl) (fun w5 hw5 => ?_)
              have hl5 := drew_later hw5
              have HI5 := Lib.hid (HI4.out.later hl5)
              have HB5 := Lib.hid (hl5.has HB4.out)
              clear hw5 hl5
              refine wpU_take 0 (some 120) (v := ?_) rfl rfl (by kernel_rfl) (fun _ _ _ h => h) rfl (fun x hx => ?_) ?_
              rotate_left 1
              · go_simp; first | done | with_reducible rfl | rw [if_neg (by omega)] | rw [if_pos (by omega)]
              simp only [Act.put, List.setIfInBounds_toArray, List.set_cons_zero, List.set_cons_succ]
              refine wpU_take 1 (some 121) (v := ?_) rfl rfl (by kernel_rfl) (fun _ _ _ h => h) rfl (fun x hx => ?_) ?_
              rotate_left 1
              · go_simp; first | done | with_reducible rfl | rw [if_neg (by omega)] | rw [if_pos (by omega)]
              simp only [Act.put, List.setIfInBounds_toArray, List.set_cons_zero, List.set_cons_succ]
              refine wpU_take 2 (some 122) (v := ?_) rfl rfl (by kernel_rfl) (fun _ _ _ h => h) rfl (fun x hx => ?_) ?_
              rotate_left 1
              · go_simp; first | done | with_reducible rfl | rw [if_neg (by omega)] | rw [if_pos (by omega)]
              simp only [Act.put, List.setIfInBounds_toArray, List.set_cons_zero, List.set_cons_succ]
              refine wpU_take 3 (some 123) (v := ?_) rfl rfl (by kernel_rfl) (fun _ _ _ h => h) rfl (fun x hx => ?_) ?_
              rotate_left 1
              · obtain ⟨m0, m1, m2, m8, m9, m10, m11⟩ := cells_m (hx.has HI5.out.blk); obtain ⟨c0, c1, c2, c3⟩ := top_cells HI5.out HLA.out hx; go_simp; first | done | with_reducible rfl | rw [if_neg (by omega)] | rw [if_pos (by omega)]
              simp only [Act.put, List.setIfInBounds_toArray, List.set_cons_zero, List.set_cons_succ]
              refine wpU_take 4 (some 124) (v := ?_) rfl rfl (by kernel_rfl) (fun _ _ _ h => h) rfl (fun x hx => ?_) ?_
              rotate_left 1
              · go_simp; first | done | with_reducible rfl | rw [if_neg (by omega)] | rw [if_pos (by omega)]
              simp only [Act.put, List.setIfInBounds_toArray, List.set_cons_zero, List.set_cons_succ]
              refine wpU_take 5 (some 125) (v := ?_) rfl rfl (by kernel_rfl) (fun _ _ _ h => h) rfl (fun x hx => ?_) ?_
              rotate_left 1
              · go_simp; first | done | with_reducible rfl | rw [if_neg (by omega)] | rw [if_pos (by omega)]
              simp only [Act.put, List.setIfInBounds_toArray, List.set_cons_zero, List.set_cons_succ]
              refine wpU_take 6 (some 126) (v := ?_) rfl rfl (by kernel_rfl) (fun _ _ _ h => h) rfl (fun x hx => ?_) ?_
              rotate_left 1
              · go_simp; first | done | with_reducible rfl | rw [if_neg (by omega)] | rw [if_pos (by omega)]
              simp only [Act.put, List.setIfInBounds_toArray, List.set_cons_zero, List.set_cons_succ]
              refine wpU_take 7 (some 127) (v := ?_) rfl rfl (by kernel_rfl) (fun _ _ _ h => h) rfl (fun x hx => ?_) ?_
              rotate_left 1
              · obtain ⟨m0, m1, m2, m8, m9, m10, m11⟩ := cells_m (hx.has HI5.out.blk); obtain ⟨c0, c1, c2, c3⟩ := top_cells HI5.out HLA.out hx; go_simp; first | done | with_reducible rfl | rw [if_neg (by omega)] | rw [if_pos (by omega)]
              simp only [Act.put, List.setIfInBounds_toArray, List.set_cons_zero, List.set_cons_succ]
              refine wpU_take 8 (some 128) (v := ?_) rfl rfl (by kernel_rfl) (fun _ _ _ h => h) rfl (fun x hx => ?_) ?_
              rotate_left 1
              · go_simp; first | done | with_reducible rfl | rw [if_neg (by omega)] | rw [if_pos (by omega)]
              simp only [Act.put, List.setIfInBounds_toArray, List.set_cons_zero, List.set_cons_succ]
              refine wpU_take 9 (some 129) (v := ?_) rfl rfl (by kernel_rfl) (fun _ _ _ h => h) rfl (fun x hx => ?_) ?_
              rotate_left 1
              · go_simp; first | done | with_reducible rfl | rw [if_neg (by omega)] | rw [if_pos (by omega)]
              simp only [Act.put, List.setIfInBounds_toArray, List.set_cons_zero, List.set_cons_succ]
              refine wpU_take 10 (some 130) (v := ?_) rfl rfl (by kernel_rfl) (fun _ _ _ h => h) rfl (fun x hx => ?_) ?_
              rotate_left 1
              · go_simp; first | done | with_reducible rfl | rw [if_neg (by omega)] | rw [if_pos (by omega)]
              simp only [Act.put, List.setIfInBounds_toArray, List.set_cons_zero, List.set_cons_succ]
              refine wpU_take 11 (some 131) (v := ?_) rfl rfl (by kernel_rfl) (fun _ _ _ h => h) rfl (fun x hx => ?_) ?_
              rotate_left 1
              · obtain ⟨m0, m1, m2, m8, m9, m10, m11⟩ := cells_m (hx.has HI5.out.blk); obtain ⟨c0, c1, c2, c3⟩ := top_cells HI5.out HLA.out hx; go_simp; first | done | with_reducible rfl | rw [if_neg (by omega)] | rw [if_pos (by omega)]
              simp only [Act.put, List.setIfInBounds_toArray, List.set_cons_zero, List.set_cons_succ]
              refine wpU_step 12 (by kernel_rfl) rfl rfl ?_  -- alloc 
              go_wp2_with fail
              refine ⟨(Later.refl _).alloc _, ?_⟩
              refine wpU_last [_] (by kernel_rfl) rfl rfl ?_
              simp only [List.getElem_toArray, List.getElem_cons_succ, List.getElem_cons_zero]
              go_wp2_with fail
              -- region 17: 15 operations, the last [14]
              refine wpU_begin [14] [] (by kernel_rfl) (fun w7 hw7 => ?_)
              obtain ⟨hl7, hC7⟩ := drew_alloc hw7
              have HI7 := Lib.hid (HI5.out.later hl7)
              have HC7 := Lib.hid hC7
              have HB7 := Lib.hid (hl7.has HB5.out)
              clear hw7 hl7 hC7
              refine wpU_take 0 (some 132) (v := ?_) rfl rfl (by kernel_rfl) (fun _ _ _ h => h) rfl (fun x hx => ?_) ?_
              rotate_left 1
              · go_simp; first | done | with_reducible rfl | rw [if_neg (by omega)] | rw [if_pos (by omega)]
              simp only [Act.put, List.setIfInBounds_toArray, List.set_cons_zero, List.set_cons_succ]
              refine wpU_take 1 (some 133) (v := ?_) rfl rfl (by kernel_rfl) (fun _ _ _ h => h) rfl (fun x hx => ?_) ?_
              rotate_left 1
              · go_simp; first | done | with_reducible rfl | rw [if_neg (by omega)] | rw [if_pos (by omega)]
              simp only [Act.put, List.setIfInBounds_toArray, List.set_cons_zero, List.set_cons_succ]
              refine wpU_take 2 (some 134) (v := ?_) rfl rfl (by kernel_rfl) (fun _ _ _ h => h) rfl (fun x hx => ?_) ?_
              rotate_left 1
              · go_simp; first | done | with_reducible rfl | rw [if_neg (by omega)] | rw [if_pos (by omega)]
              simp only [Act.put, List.setIfInBounds_toArray, List.set_cons_zero, List.set_cons_succ]
              refine wpU_take 3 (some 135) (v := ?_) rfl rfl (by kernel_rfl) (fun _ _ _ h => h) rfl (fun x hx => ?_) ?_
              rotate_left 1
              · go_simp; first | done | with_reducible rfl | rw [if_neg (by omega)] | rw [if_pos (by omega)]
              simp only [Act.put, List.setIfInBounds_toArray, List.set_cons_zero, List.set_cons_succ]
              refine wpU_take 4 (some 136) (v := ?_) rfl rfl (by kernel_rfl) (fun _ _ _ h => h) rfl (fun x hx => ?_) ?_
              rotate_left 1
              · obtain ⟨m0, m1, m2, m8, m9, m10, m11⟩ := cells_m (hx.has HI7.out.blk); go_simp; first | done | with_reducible rfl | rw [if_neg (by omega)] | rw [if_pos (by omega)]
              simp only [Act.put, List.setIfInBounds_toArray, List.set_cons_zero, List.set_cons_succ]
              refine wpU_take 5 (some 137) (v := ?_) rfl rfl (by kernel_rfl) (fun _ _ _ h => h) rfl (fun x hx => ?_) ?_
              rotate_left 1
              · go_simp; first | done | with_reducible rfl | rw [if_neg (by omega)] | rw [if_pos (by omega)]
              simp only [Act.put, List.setIfInBounds_toArray, List.set_cons_zero, List.set_cons_succ]
              refine wpU_take 6 (some 138) (v := ?_) rfl rfl (by kernel_rfl) (fun _ _ _ h => h) rfl (fun x hx => ?_) ?_
              rotate_left 1
              · go_simp; first | done | with_reducible rfl | rw [if_neg (by omega)] | rw [if_pos (by omega)]
              simp only [Act.put, List.setIfInBounds_toArray, List.set_cons_zero, List.set_cons_succ]
              refine wpU_take 7 (some 139) (v := ?_) rfl rfl (by kernel_rfl) (fun _ _ _ h => h) rfl (fun x hx => ?_) ?_
              rotate_left 1
              · go_simp; first | done | with_reducible rfl | rw [if_neg (by omega)] | rw [if_pos (by omega)]
              simp only [Act.put, List.setIfInBounds_toArray, List.set_cons_zero, List.set_cons_succ]
              refine wpU_take 8 (some 140) (v := ?_) rfl rfl (by kernel_rfl) (fun _ _ _ h => h) rfl (fun x hx => ?_) ?_
              rotate_left 1
              · obtain ⟨m0, m1, m2, m8, m9, m10, m11⟩ := cells_m (hx.has HI7.out.blk); go_simp; first | done | with_reducible rfl | rw [if_neg (by omega)] | rw [if_pos (by omega)]
              simp only [Act.put, List.setIfInBounds_toArray, List.set_cons_zero, List.set_cons_succ]
              refine wpU_take 9 (some 141) (v := ?_) rfl rfl (by kernel_rfl) (fun _ _ _ h => h) rfl (fun x hx => ?_) ?_
              rotate_left 1
              · go_simp; first | done | with_reducible rfl | rw [if_neg (by omega)] | rw [if_pos (by omega)]
              simp only [Act.put, List.setIfInBounds_toArray, List.set_cons_zero, List.set_cons_succ]
              refine wpU_take 10 (some 142) (v := ?_) rfl rfl (by kernel_rfl) (fun _ _ _ h => h) rfl (fun x hx => ?_) ?_
              rotate_left 1
              · go_simp; first | done | with_reducible rfl | rw [if_neg (by omega)] | rw [if_pos (by omega)]
              simp only [Act.put, List.setIfInBounds_toArray, List.set_cons_zero, List.set_cons_succ]
              refine wpU_take 11 (some 143) (v := ?_) rfl rfl (by kernel_rfl) (fun _ _ _ h => h) rfl (fun x hx => ?_) ?_
              rotate_left 1
              · go_simp; first | done | with_reducible rfl | rw [if_neg (by omega)] | rw [if_pos (by omega)]
              simp only [Act.put, List.setIfInBounds_toArray, List.set_cons_zero, List.set_cons_succ]
              refine wpU_take 12 (some 144) (v := ?_) rfl rfl (by kernel_rfl) (fun _ _ _ h => h) rfl (fun x hx => ?_) ?_
              rotate_left 1
              · go_simp; first | done | with_reducible rfl | rw [if_neg (by omega)] | rw [if_pos (by omega)]
              simp only [Act.put, List.setIfInBounds_toArray, List.set_cons_zero, List.set_cons_succ]
              refine wpU_take 13 (some 145) (v := ?_) rfl rfl (by kernel_rfl) (fun _ _ _ h => h) rfl (fun x hx => ?_) ?_
              rotate_left 1
              · go_simp; first | done | with_reducible rfl | rw [if_neg (by omega)] | rw [if_pos (by omega)]
              simp only [Act.put, List.setIfInBounds_toArray, List.set_cons_zero, List.set_cons_succ]
              refine wpU_last [_] (by kernel_rfl) rfl rfl ?_
              simp only [List.getElem_toArray, List.getElem_cons_succ, List.getElem_cons_zero]
              obtain ⟨a8, b8, hab, _, _, hI8⟩ := HI7.out.pop HCS.out
              have HI8 := Lib.hid hI8
              have hCM : ¬ w5.heap.size = M := ne_of_type HC7.out HI7.out.blk (by decide)
              have hMC : ¬ M = w5.heap.size := fun e => hCM e.symm
              clear hab hI8
              obtain ⟨m0, m1, m2, m8, m9, m10, m11⟩ := cells_m HI7.out.blk
              obtain ⟨c0, c1, c2, c3⟩ := cells_c HC7.out
              have f11 := frozen_of_row w7 M 11 _ _ HI7.out.blk
              go_wp2_with fail
              clear m0 m1 m2 m8 m9 m10 m11 c0 c1 c2 c3 f11
              -- region 19: 12 operations, the last [11]
              refine wpU_begin [11] [] (by kernel_rfl) (fun w9 hw9 => ?_)
              have HI9 := Lib.hid (HI8.out.later (drew_later hw9))
              have HB9 := Lib.hid ((drew_later hw9).has (heap_set_other HB7.out hRM))
              clear hw9
              refine wpU_take 0 (some 148) (v := ?_) rfl rfl (by kernel_rfl) (fun _ _ _ h => h) rfl (fun x hx => ?_) ?_
              rotate_left 1
              · go_simp; first | done | with_reducible rfl | rw [if_neg (by omega)] | rw [if_pos (by omega)]
              simp only [Act.put, List.setIfInBounds_toArray, List.set_cons_zero, List.set_cons_succ]
              refine wpU_take 1 (some 149) (v := ?_) rfl rfl (by kernel_rfl) (fun _ _ _ h => h) rfl (fun x hx => ?_) ?_
              rotate_left 1
              · go_simp; first | done | with_reducible rfl | rw [if_neg (by omega)] | rw [if_pos (by omega)]
              simp only [Act.put, List.setIfInBounds_toArray, List.set_cons_zero, List.set_cons_succ]
              refine wpU_take 2 (some 150) (v := ?_) rfl rfl (by kernel_rfl) (fun _ _ _ h => h) rfl (fun x hx => ?_) ?_
              rotate_left 1
              · go_simp; first | done | with_reducible rfl | rw [if_neg (by omega)] | rw [if_pos (by omega)]
              simp only [Act.put, List.setIfInBounds_toArray, List.set_cons_zero, List.set_cons_succ]
              refine wpU_take 3 (some 151) (v := ?_) rfl rfl (by kernel_rfl) (fun _ _ _ h => h) rfl (fun x hx => ?_) ?_
              rotate_left 1
              · go_simp; first | done | with_reducible rfl | rw [if_neg (by omega)] | rw [if_pos (by omega)]
              simp only [Act.put, List.setIfInBounds_toArray, List.set_cons_zero, List.set_cons_succ]
              refine wpU_take 4 (some 152) (v := ?_) rfl rfl (by kernel_rfl) (fun _ _ _ h => h) rfl (fun x hx => ?_) ?_
              rotate_left 1
              · obtain ⟨m0, m1, m2, m8, m9, m10, m11⟩ := cells_m (hx.has HI9.out.blk); go_simp; first | done | with_reducible rfl | rw [if_neg (by omega)] | rw [if_pos (by omega)]
              simp only [Act.put, List.setIfInBounds_toArray, List.set_cons_zero, List.set_cons_succ]
              refine wpU_take 5 (some 153) (v := ?_) rfl rfl (by kernel_rfl) (fun _ _ _ h => h) rfl (fun x hx => ?_) ?_
              rotate_left 1
              · go_simp; first | done | with_reducible rfl | rw [if_neg (by omega)] | rw [if_pos (by omega)]
              simp only [Act.put, List.setIfInBounds_toArray, List.set_cons_zero, List.set_cons_succ]
              refine wpU_take 6 (some 154) (v := ?_) rfl rfl (by kernel_rfl) (fun _ _ _ h => h) rfl (fun x hx => ?_) ?_
              rotate_left 1
              · go_simp; first | done | with_reducible rfl | rw [if_neg (by omega)] | rw [if_pos (by omega)]
              simp only [Act.put, List.setIfInBounds_toArray, List.set_cons_zero, List.set_cons_succ]
              refine wpU_take 7 (some 155) (v := ?_) rfl rfl (by kernel_rfl) (fun _ _ _ h => h) rfl (fun x hx => ?_) ?_
              rotate_left 1
              · go_simp; first | done | with_reducible rfl | rw [if_neg (by omega)] | rw [if_pos (by omega)]
              simp only [Act.put, List.setIfInBounds_toArray, List.set_cons_zero, List.set_cons_succ]
              refine wpU_take 8 (some 156) (v := ?_) rfl rfl (by kernel_rfl) (fun _ _ _ h => h) rfl (fun x hx => ?_) ?_
              rotate_left 1
              · go_simp; first | done | with_reducible rfl | rw [if_neg (by omega)] | rw [if_pos (by omega)]
              simp only [Act.put, List.setIfInBounds_toArray, List.set_cons_zero, List.set_cons_succ]
              refine wpU_take 9 (some 157) (v := ?_) rfl rfl (by kernel_rfl) (fun _ _ _ h => h) rfl (fun x hx => ?_) ?_
              rotate_left 1
              · obtain ⟨m0, m1, m2, m8, m9, m10, m11⟩ := cells_m (hx.has HI9.out.blk); go_simp; first | done | with_reducible rfl | rw [if_neg (by omega)] | rw [if_pos (by omega)]
              simp only [Act.put, List.setIfInBounds_toArray, List.set_cons_zero, List.set_cons_succ]
              refine wpU_take 10 (some 158) (v := ?_) rfl rfl (by kernel_rfl) (fun _ _ _ h => h) rfl (fun x hx => ?_) ?_
              rotate_left 1
              · go_simp; first | done | with_reducible rfl | rw [if_neg (by omega)] | rw [if_pos (by omega)]
              simp only [Act.put, List.setIfInBounds_toArray, List.set_cons_zero, List.set_cons_succ]
              refine wpU_last [_] (by kernel_rfl) rfl rfl ?_
              simp only [List.getElem_toArray, List.getElem_cons_succ, List.getElem_cons_zero]
              obtain ⟨r0, r1, r2, r3, r4, r5, r6, r7⟩ := cells_r HB9.out
              obtain ⟨f0, f1, f2, f3, f4, f5, f6, f7⟩ := frozen_r HB9.out
              go_wp2_with fail
              refine bodyPost_ret (v := matchV ⟨false, true, false, 0, n + 1, [], m.events⟩ 0 (.slice none 0 0) (.slice eA4 m.events.length ec4)) (by simp [results, Try.results11, go_sem, r0, r1, r2, r3, r4, r5, r6, r7]) rfl ?_
              rw [← HPL.out]
              exact matchIs_mk (r := ⟨false, true, false, 0, n + 1, [], m.events⟩) (fr := 0) HL2.out (HasRow.nil _ _ _ _) HI9.out.evs (.inl rfl) HI9.out.below HB9.out hwz (((((((((OnlyAt.refl _ _).set _ _).set _ _).set _ _).set _ _).set _ _).set _ _).set _ _).set _ _)
            · rw [if_neg (by simp [hst4])] at HPL
              obtain ⟨pp, rfl⟩ := hG4.ptr
              have HG4 := Lib.hid hG4
              clear hG4
              rcases HI4.out.caps.2 with ⟨hcv, hB⟩ | ⟨g9, cap9, cur9, hcv, _, _, hcl, _, _⟩
              · obtain ⟨hA, _, hC⟩ : cA4 = none ∧ m.caps.length = 0 ∧ cc4 = 0 := by simpa using hcv
                subst hA hC
                rw [hB] at HI4
                have hnc0 : c.ncap = 0 := by omega
                clear hcv
                -- region 16: 14 operations, the last [13]
                refine wpU_begin [13] [] (by kernel_rfl) (fun w5 hw5 => ?_)
                have hl5 := drew_later hw5
                have HI5 := Lib.hid (HI4.out.later hl5)
                have HB5 := Lib.hid (hl5.has HB4.out)
                have HG5 := Lib.hid (HG4.out.later hl5)
                clear hw5 hl5
                refine wpU_take 0 (some 120) (v := ?_) rfl rfl (by kernel_rfl) (fun _ _ _ h => h) rfl (fun x hx => ?_) ?_
                rotate_left 1
                · go_simp; first | done | with_reducible rfl | rw [if_neg (by omega)] | rw [if_pos (by omega)]
                simp only [Act.put, List.setIfInBounds_toArray, List.set_cons_zero, List.set_cons_succ]
                refine wpU_take 1 (some 121) (v := ?_) rfl rfl (by kernel_rfl) (fun _ _ _ h => h) rfl (fun x hx => ?_) ?_
                rotate_left 1
                · go_simp; first | done | with_reducible rfl | rw [if_neg (by omega)] | rw [if_pos (by omega)]
                simp only [Act.put, List.setIfInBounds_toArray, List.set_cons_zero, List.set_cons_succ]
                refine wpU_take 2 (some 122) (v := ?_) rfl rfl (by kernel_rfl) (fun _ _ _ h => h) rfl (fun x hx => ?_) ?_
                rotate_left 1
                · go_simp; first | done | with_reducible rfl | rw [if_neg (by omega)] | rw [if_pos (by omega)]
                simp only [Act.put, List.setIfInBounds_toArray, List.set_cons_zero, List.set_cons_succ]
                refine wpU_take 3 (some 123) (v := ?_) rfl rfl (by kernel_rfl) (fun _ _ _ h => h) rfl (fun x hx => ?_) ?_
                rotate_left 1
                · obtain ⟨m0, m1, m2, m8, m9, m10, m11⟩ := cells_m (hx.has HI5.out.blk); obtain ⟨c0, c1, c2, c3⟩ := top_cells HI5.out HLA.out hx; go_simp; first | done | with_reducible rfl | rw [if_neg (by omega)] | rw [if_pos (by omega)]
                simp only [Act.put, List.setIfInBounds_toArray, List.set_cons_zero, List.set_cons_succ]
                refine wpU_take 4 (some 124) (v := ?_) rfl rfl (by kernel_rfl) (fun _ _ _ h => h) rfl (fun x hx => ?_) ?_
                rotate_left 1
                · go_simp; first | done | with_reducible rfl | rw [if_neg (by omega)] | rw [if_pos (by omega)]
                simp only [Act.put, List.setIfInBounds_toArray, List.set_cons_zero, List.set_cons_succ]
                refine wpU_take 5 (some 125) (v := ?_) rfl rfl (by kernel_rfl) (fun _ _ _ h => h) rfl (fun x hx => ?_) ?_
                rotate_left 1
                · go_simp; first | done | with_reducible rfl | rw [if_neg (by omega)] | rw [if_pos (by omega)]
                simp only [Act.put, List.setIfInBounds_toArray, List.set_cons_zero, List.set_cons_succ]
                refine wpU_take 6 (some 126) (v := ?_) rfl rfl (by kernel_rfl) (fun _ _ _ h => h) rfl (fun x hx => ?_) ?_
                rotate_left 1
                · go_simp; first | done | with_reducible rfl | rw [if_neg (by omega)] | rw [if_pos (by omega)]
                simp only [Act.put, List.setIfInBounds_toArray, List.set_cons_zero, List.set_cons_succ]
                refine wpU_take 7 (some 127) (v := ?_) rfl rfl (by kernel_rfl) (fun _ _ _ h => h) rfl (fun x hx => ?_) ?_
                rotate_left 1
                · obtain ⟨m0, m1, m2, m8, m9, m10, m11⟩ := cells_m (hx.has HI5.out.blk); obtain ⟨c0, c1, c2, c3⟩ := top_cells HI5.out HLA.out hx; go_simp; first | done | with_reducible rfl | rw [if_neg (by omega)] | rw [if_pos (by omega)]
                simp only [Act.put, List.setIfInBounds_toArray, List.set_cons_zero, List.set_cons_succ]
                refine wpU_take 8 (some 128) (v := ?_) rfl rfl (by kernel_rfl) (fun _ _ _ h => h) rfl (fun x hx => ?_) ?_
                rotate_left 1
                · go_simp; first | done | with_reducible rfl | rw [if_neg (by omega)] | rw [if_pos (by omega)]
                simp only [Act.put, List.setIfInBounds_toArray, List.set_cons_zero, List.set_cons_succ]
                refine wpU_take 9 (some 129) (v := ?_) rfl rfl (by kernel_rfl) (fun _ _ _ h => h) rfl (fun x hx => ?_) ?_
                rotate_left 1
                · go_simp; first | done | with_reducible rfl | rw [if_neg (by omega)] | rw [if_pos (by omega)]
                simp only [Act.put, List.setIfInBounds_toArray, List.set_cons_zero, List.set_cons_succ]
                refine wpU_take 10 (some 130) (v := ?_) rfl rfl (by kernel_rfl) (fun _ _ _ h => h) rfl (fun x hx => ?_) ?_
                rotate_left 1
                · go_simp; first | done | with_reducible rfl | rw [if_neg (by omega)] | rw [if_pos (by omega)]
                simp only [Act.put, List.setIfInBounds_toArray, List.set_cons_zero, List.set_cons_succ]
                refine wpU_take 11 (some 131) (v := ?_) rfl rfl (by kernel_rfl) (fun _ _ _ h => h) rfl (fun x hx => ?_) ?_
                rotate_left 1
                · obtain ⟨m0, m1, m2, m8, m9, m10, m11⟩ := cells_m (hx.has HI5.out.blk); obtain ⟨c0, c1, c2, c3⟩ := top_cells HI5.out HLA.out hx; go_simp; first | done | with_reducible rfl | rw [if_neg (by omega)] | rw [if_pos (by omega)]
                simp only [Act.put, List.setIfInBounds_toArray, List.set_cons_zero, List.set_cons_succ]
                refine wpU_step 12 (by kernel_rfl) rfl rfl ?_  -- alloc 
                go_wp2_with fail
                refine ⟨(Later.refl _).alloc _, ?_⟩
                refine wpU_last [_] (by kernel_rfl) rfl rfl ?_
                simp only [List.getElem_toArray, List.getElem_cons_succ, List.getElem_cons_zero]
                go_wp2_with fail
                -- region 17: 15 operations, the last [14]
                refine wpU_begin [14] [] (by kernel_rfl) (fun w7 hw7 => ?_)
                obtain ⟨hl7, hC7⟩ := drew_alloc hw7
                have HI7 := Lib.hid (HI5.out.later hl7)
                have HC7 := Lib.hid hC7
                have HB7 := Lib.hid (hl7.has HB5.out)
                have HG7 := Lib.hid (HG5.out.later hl7)
                clear hw7 hl7 hC7
                refine wpU_take 0 (some 132) (v := ?_) rfl rfl (by kernel_rfl) (fun _ _ _ h => h) rfl (fun x hx => ?_) ?_
                rotate_left 1
                · go_simp; first | done | with_reducible rfl | rw [if_neg (by omega)] | rw [if_pos (by omega)]
                simp only [Act.put, List.setIfInBounds_toArray, List.set_cons_zero, List.set_cons_succ]
                refine wpU_take 1 (some 133) (v := ?_) rfl rfl (by kernel_rfl) (fun _ _ _ h => h) rfl (fun x hx => ?_) ?_
                rotate_left 1
                · go_simp; first | done | with_reducible rfl | rw [if_neg (by omega)] | rw [if_pos (by omega)]
                simp only [Act.put, List.setIfInBounds_toArray, List.set_cons_zero, List.set_cons_succ]
                refine wpU_take 2 (some 134) (v := ?_) rfl rfl (by kernel_rfl) (fun _ _ _ h => h) rfl (fun x hx => ?_) ?_
                rotate_left 1
                · go_simp; first | done | with_reducible rfl | rw [if_neg (by omega)] | rw [if_pos (by omega)]
                simp only [Act.put, List.setIfInBounds_toArray, List.set_cons_zero, List.set_cons_succ]
                refine wpU_take 3 (some 135) (v := ?_) rfl rfl (by kernel_rfl) (fun _ _ _ h => h) rfl (fun x hx => ?_) ?_
                rotate_left 1
                · go_simp; first | done | with_reducible rfl | rw [if_neg (by omega)] | rw [if_pos (by omega)]
                simp only [Act.put, List.setIfInBounds_toArray, List.set_cons_zero, List.set_cons_succ]
                refine wpU_take 4 (some 136) (v := ?_) rfl rfl (by kernel_rfl) (fun _ _ _ h => h) rfl (fun x hx => ?_) ?_
                rotate_left 1
                · obtain ⟨m0, m1, m2, m8, m9, m10, m11⟩ := cells_m (hx.has HI7.out.blk); go_simp; first | done | with_reducible rfl | rw [if_neg (by omega)] | rw [if_pos (by omega)]
                simp only [Act.put, List.setIfInBounds_toArray, List.set_cons_zero, List.set_cons_succ]
                refine wpU_take 5 (some 137) (v := ?_) rfl rfl (by kernel_rfl) (fun _ _ _ h => h) rfl (fun x hx => ?_) ?_
                rotate_left 1
                · go_simp; first | done | with_reducible rfl | rw [if_neg (by omega)] | rw [if_pos (by omega)]
                simp only [Act.put, List.setIfInBounds_toArray, List.set_cons_zero, List.set_cons_succ]
                refine wpU_take 6 (some 138) (v := ?_) rfl rfl (by kernel_rfl) (fun _ _ _ h => h) rfl (fun x hx => ?_) ?_
                rotate_left 1
                · go_simp; first | done | with_reducible rfl | rw [if_neg (by omega)] | rw [if_pos (by omega)]
                simp only [Act.put, List.setIfInBounds_toArray, List.set_cons_zero, List.set_cons_succ]
                refine wpU_take 7 (some 139) (v := ?_) rfl rfl (by kernel_rfl) (fun _ _ _ h => h) rfl (fun x hx => ?_) ?_
                rotate_left 1
                · go_simp; first | done | with_reducible rfl | rw [if_neg (by omega)] | rw [if_pos (by omega)]
                simp only [Act.put, List.setIfInBounds_toArray, List.set_cons_zero, List.set_cons_succ]
                refine wpU_take 8 (some 140) (v := ?_) rfl rfl (by kernel_rfl) (fun _ _ _ h => h) rfl (fun x hx => ?_) ?_
                rotate_left 1
                · obtain ⟨m0, m1, m2, m8, m9, m10, m11⟩ := cells_m (hx.has HI7.out.blk); go_simp; first | done | with_reducible rfl | rw [if_neg (by omega)] | rw [if_pos (by omega)]
                simp only [Act.put, List.setIfInBounds_toArray, List.set_cons_zero, List.set_cons_succ]
                refine wpU_take 9 (some 141) (v := ?_) rfl rfl (by kernel_rfl) (fun _ _ _ h => h) rfl (fun x hx => ?_) ?_
                rotate_left 1
                · go_simp; first | done | with_reducible rfl | rw [if_neg (by omega)] | rw [if_pos (by omega)]
                simp only [Act.put, List.setIfInBounds_toArray, List.set_cons_zero, List.set_cons_succ]
                refine wpU_take 10 (some 142) (v := ?_) rfl rfl (by kernel_rfl) (fun _ _ _ h => h) rfl (fun x hx => ?_) ?_
                rotate_left 1
                · go_simp; first | done | with_reducible rfl | rw [if_neg (by omega)] | rw [if_pos (by omega)]
                simp only [Act.put, List.setIfInBounds_toArray, List.set_cons_zero, List.set_cons_succ]
                refine wpU_take 11 (some 143) (v := ?_) rfl rfl (by kernel_rfl) (fun _ _ _ h => h) rfl (fun x hx => ?_) ?_
                rotate_left 1
                · go_simp; first | done | with_reducible rfl | rw [if_neg (by omega)] | rw [if_pos (by omega)]
                simp only [Act.put, List.setIfInBounds_toArray, List.set_cons_zero, List.set_cons_succ]
                refine wpU_take 12 (some 144) (v := ?_) rfl rfl (by kernel_rfl) (fun _ _ _ h => h) rfl (fun x hx => ?_) ?_
                rotate_left 1
                · go_simp; first | done | with_reducible rfl | rw [if_neg (by omega)] | rw [if_pos (by omega)]
                simp only [Act.put, List.setIfInBounds_toArray, List.set_cons_zero, List.set_cons_succ]
                refine wpU_take 13 (some 145) (v := ?_) rfl rfl (by kernel_rfl) (fun _ _ _ h => h) rfl (fun x hx => ?_) ?_
                rotate_left 1
                · go_simp; first | done | with_reducible rfl | rw [if_neg (by omega)] | rw [if_pos (by omega)]
                simp only [Act.put, List.setIfInBounds_toArray, List.set_cons_zero, List.set_cons_succ]
                refine wpU_last [_] (by kernel_rfl) rfl rfl ?_
                simp only [List.getElem_toArray, List.getElem_cons_succ, List.getElem_cons_zero]
                obtain ⟨a8, b8, hab, _, _, hI8⟩ := HI7.out.pop HCS.out
                have HI8 := Lib.hid hI8
                have hCM : ¬ w5.heap.size = M := ne_of_type HC7.out HI7.out.blk (by decide)
                have hMC : ¬ M = w5.heap.size := fun e => hCM e.symm
                clear hab hI8
                obtain ⟨m0, m1, m2, m8, m9, m10, m11⟩ := cells_m HI7.out.blk
                obtain ⟨c0, c1, c2, c3⟩ := cells_c HC7.out
                have f11 := frozen_of_row w7 M 11 _ _ HI7.out.blk
                have f2 := frozen_of_row w7 M 2 _ _ HI7.out.blk
                go_wp2_with fail
                clear m0 m1 m2 m8 m9 m10 m11 c0 c1 c2 c3 f11 f2
                -- region 22: 15 operations, the last [14]
                refine wpU_begin [14] [] (by kernel_rfl) (fun w9 hw9 => ?_)
                have HI9 := Lib.hid ((HI8.out.setAt c.at_).later (drew_later hw9))
                have HC9 := Lib.hid ((drew_later hw9).has (heap_set_other (k := 2) (heap_set_other (k := 11) HC7.out hCM) hCM))
                have HG9 := Lib.hid (((HG7.out.keep (HI7.out.keepSet 11 _) _ _).keep (HI8.out.keepSet 2 _) _ _).later (drew_later hw9))
                clear hw9
                refine wpU_take 0 (some 166) (v := ?_) rfl rfl (by kernel_rfl) (fun _ _ _ h => h) rfl (fun x hx => ?_) ?_
                rotate_left 1
                · go_simp; first | done | with_reducible rfl | rw [if_neg (by omega)] | rw [if_pos (by omega)]
                simp only [Act.put, List.setIfInBounds_toArray, List.set_cons_zero, List.set_cons_succ]
                refine wpU_take 1 (some 167) (v := ?_) rfl rfl (by kernel_rfl) (fun _ _ _ h => h) rfl (fun x hx => ?_) ?_
                rotate_left 1
                · go_simp; first | done | with_reducible rfl | rw [if_neg (by omega)] | rw [if_pos (by omega)]
                simp only [Act.put, List.setIfInBounds_toArray, List.set_cons_zero, List.set_cons_succ]
                refine wpU_take 2 (some 168) (v := ?_) rfl rfl (by kernel_rfl) (fun _ _ _ h => h) rfl (fun x hx => ?_) ?_
                rotate_left 1
                · go_simp; first | done | with_reducible rfl | rw [if_neg (by omega)] | rw [if_pos (by omega)]
                simp only [Act.put, List.setIfInBounds_toArray, List.set_cons_zero, List.set_cons_succ]
                refine wpU_take 3 (some 169) (v := ?_) rfl rfl (by kernel_rfl) (fun _ _ _ h => h) rfl (fun x hx => ?_) ?_
                rotate_left 1
                · go_simp; first | done | with_reducible rfl | rw [if_neg (by omega)] | rw [if_pos (by omega)]
                simp only [Act.put, List.setIfInBounds_toArray, List.set_cons_zero, List.set_cons_succ]
                refine wpU_take 4 (some 170) (v := ?_) rfl rfl (by kernel_rfl) (fun _ _ _ h => h) rfl (fun x hx => ?_) ?_
                rotate_left 1
                · go_simp; first | done | with_reducible rfl | rw [if_neg (by omega)] | rw [if_pos (by omega)]
                simp only [Act.put, List.setIfInBounds_toArray, List.set_cons_zero, List.set_cons_succ]
                refine wpU_take 5 (some 171) (v := ?_) rfl rfl (by kernel_rfl) (fun _ _ _ h => h) rfl (fun x hx => ?_) ?_
                rotate_left 1
                · obtain ⟨m0, m1, m2, m8, m9, m10, m11⟩ := cells_m (hx.has HI9.out.blk); obtain ⟨c0, c1, c2, c3⟩ := cells_c (hx.has HC9.out); go_simp; first | done | with_reducible rfl | rw [if_neg (by omega)] | rw [if_pos (by omega)]
                simp only [Act.put, List.setIfInBounds_toArray, List.set_cons_zero, List.set_cons_succ]
                refine wpU_take 6 (some 172) (v := ?_) rfl rfl (by kernel_rfl) (fun _ _ _ h => h) rfl (fun x hx => ?_) ?_
                rotate_left 1
                · go_simp; first | done | with_reducible rfl | rw [if_neg (by omega)] | rw [if_pos (by omega)]
                simp only [Act.put, List.setIfInBounds_toArray, List.set_cons_zero, List.set_cons_succ]
                refine wpU_take 7 (some 173) (v := ?_) rfl rfl (by kernel_rfl) (fun _ _ _ h => h) rfl (fun x hx => ?_) ?_
                rotate_left 1
                · obtain ⟨m0, m1, m2, m8, m9, m10, m11⟩ := cells_m (hx.has HI9.out.blk); obtain ⟨c0, c1, c2, c3⟩ := cells_c (hx.has HC9.out); go_simp; first | done | with_reducible rfl | rw [if_neg (by omega)] | rw [if_pos (by omega)]
                simp only [Act.put, List.setIfInBounds_toArray, List.set_cons_zero, List.set_cons_succ]
                refine wpU_take 8 (some 174) (v := ?_) rfl rfl (by kernel_rfl) (fun _ _ _ h => h) rfl (fun x hx => ?_) ?_
                rotate_left 1
                · go_simp; first | done | with_reducible rfl | rw [if_neg (by omega)] | rw [if_pos (by omega)]
                simp only [Act.put, List.setIfInBounds_toArray, List.set_cons_zero, List.set_cons_succ]
                refine wpU_take 9 (some 175) (v := ?_) rfl rfl (by kernel_rfl) (fun _ _ _ h => h) rfl (fun x hx => ?_) ?_
                rotate_left 1
                · obtain ⟨m0, m1, m2, m8, m9, m10, m11⟩ := cells_m (hx.has HI9.out.blk); obtain ⟨c0, c1, c2, c3⟩ := cells_c (hx.has HC9.out); go_simp; first | done | with_reducible rfl | rw [if_neg (by omega)] | rw [if_pos (by omega)]
                simp only [Act.put, List.setIfInBounds_toArray, List.set_cons_zero, List.set_cons_succ]
                refine wpU_take 10 (some 176) (v := ?_) rfl rfl (by kernel_rfl) (fun _ _ _ h => h) rfl (fun x hx => ?_) ?_
                rotate_left 1
                · go_simp; first | done | with_reducible rfl | rw [if_neg (by omega)] | rw [if_pos (by omega)]
                simp only [Act.put, List.setIfInBounds_toArray, List.set_cons_zero, List.set_cons_succ]
                refine wpU_take 11 (some 177) (v := ?_) rfl rfl (by kernel_rfl) (fun _ _ _ h => h) rfl (fun x hx => ?_) ?_
                rotate_left 1
                · go_simp; first | done | with_reducible rfl | rw [if_neg (by omega)] | rw [if_pos (by omega)]
                simp only [Act.put, List.setIfInBounds_toArray, List.set_cons_zero, List.set_cons_succ]
                refine wpU_take 12 (some 178) (v := ?_) rfl rfl (by kernel_rfl) (fun _ _ _ h => h) rfl (fun x hx => ?_) ?_
                rotate_left 1
                · go_simp; first | done | with_reducible rfl | rw [if_neg (by omega)] | rw [if_pos (by omega)]
                simp only [Act.put, List.setIfInBounds_toArray, List.set_cons_zero, List.set_cons_succ]
                refine wpU_take 13 (some 179) (v := ?_) rfl rfl (by kernel_rfl) (fun _ _ _ h => h) rfl (fun x hx => ?_) ?_
                rotate_left 1
                · go_simp; first | done | with_reducible rfl | rw [if_neg (by omega)] | rw [if_pos (by omega)]
                simp only [Act.put, List.setIfInBounds_toArray, List.set_cons_zero, List.set_cons_succ]
                refine wpU_last [_] (by kernel_rfl) rfl rfl ?_
                simp only [List.getElem_toArray, List.getElem_cons_succ, List.getElem_cons_zero]
                have f9 := frozen_of_row w9 M 9 _ _ HI9.out.blk
                obtain ⟨m0, m1, m2, m8, m9, m10, m11⟩ := cells_m HI9.out.blk
                have HI10 := Lib.hid (HI9.out.cut_nil (k := c.ncap) hB hnc0)
                go_wp2_with fail
                go_roundg k
                case measure => omega
                case rel => exact ⟨n + 1, c.goals, ⟨c.at_, m.caps.take c.ncap, m.events, cs⟩, _, _, _, _, by omega, HG9.out.keep (HI9.out.keepSet 9 _) _ _, HI10.out, HK.out.pop HCS.out, HPL.out⟩
              · obtain ⟨hA, hC⟩ : cA4 = some ⟨g9, 0, none⟩ ∧ cc4 = cap9 := by simpa using hcv
                subst hA hC
                have hx1 : c.ncap ≤ cc4 := by omega
                clear hcv
                -- region 16: 14 operations, the last [13]
                refine wpU_begin [13] [] (by kernel_rfl) (fun w5 hw5 => ?_)
                have hl5 := drew_later hw5
                have HI5 := Lib.hid (HI4.out.later hl5)
                have HB5 := Lib.hid (hl5.has HB4.out)
                have HG5 := Lib.hid (HG4.out.later hl5)
                clear hw5 hl5
                refine wpU_take 0 (some 120) (v := ?_) rfl rfl (by kernel_rfl) (fun _ _ _ h => h) rfl (fun x hx => ?_) ?_
                rotate_left 1
                · go_simp; first | done | with_reducible rfl | rw [if_neg (by omega)] | rw [if_pos (by omega)]
                simp only [Act.put, List.setIfInBounds_toArray, List.set_cons_zero, List.set_cons_succ]
                refine wpU_take 1 (some 121) (v := ?_) rfl rfl (by kernel_rfl) (fun _ _ _ h => h) rfl (fun x hx => ?_) ?_
                rotate_left 1
                · go_simp; first | done | with_reducible rfl | rw [if_neg (by omega)] | rw [if_pos (by omega)]
                simp only [Act.put, List.setIfInBounds_toArray, List.set_cons_zero, List.set_cons_succ]
                refine wpU_take 2 (some 122) (v := ?_) rfl rfl (by kernel_rfl) (fun _ _ _ h => h) rfl (fun x hx => ?_) ?_
                rotate_left 1
                · go_simp; first | done | with_reducible rfl | rw [if_neg (by omega)] | rw [if_pos (by omega)]
                simp only [Act.put, List.setIfInBounds_toArray, List.set_cons_zero, List.set_cons_succ]
                refine wpU_take 3 (some 123) (v := ?_) rfl rfl (by kernel_rfl) (fun _ _ _ h => h) rfl (fun x hx => ?_) ?_
                rotate_left 1
                · obtain ⟨m0, m1, m2, m8, m9, m10, m11⟩ := cells_m (hx.has HI5.out.blk); obtain ⟨c0, c1, c2, c3⟩ := top_cells HI5.out HLA.out hx; go_simp; first | done | with_reducible rfl | rw [if_neg (by omega)] | rw [if_pos (by omega)]
                simp only [Act.put, List.setIfInBounds_toArray, List.set_cons_zero, List.set_cons_succ]
                refine wpU_take 4 (some 124) (v := ?_) rfl rfl (by kernel_rfl) (fun _ _ _ h => h) rfl (fun x hx => ?_) ?_
                rotate_left 1
                · go_simp; first | done | with_reducible rfl | rw [if_neg (by omega)] | rw [if_pos (by omega)]
                simp only [Act.put, List.setIfInBounds_toArray, List.set_cons_zero, List.set_cons_succ]
                refine wpU_take 5 (some 125) (v := ?_) rfl rfl (by kernel_rfl) (fun _ _ _ h => h) rfl (fun x hx => ?_) ?_
                rotate_left 1
                · go_simp; first | done | with_reducible rfl | rw [if_neg (by omega)] | rw [if_pos (by omega)]
                simp only [Act.put, List.setIfInBounds_toArray, List.set_cons_zero, List.set_cons_succ]
                refine wpU_take 6 (some 126) (v := ?_) rfl rfl (by kernel_rfl) (fun _ _ _ h => h) rfl (fun x hx => ?_) ?_
                rotate_left 1
                · go_simp; first | done | with_reducible rfl | rw [if_neg (by omega)] | rw [if_pos (by omega)]
                simp only [Act.put, List.setIfInBounds_toArray, List.set_cons_zero, List.set_cons_succ]
                refine wpU_take 7 (some 127) (v := ?_) rfl rfl (by kernel_rfl) (fun _ _ _ h => h) rfl (fun x hx => ?_) ?_
                rotate_left 1
                · obtain ⟨m0, m1, m2, m8, m9, m10, m11⟩ := cells_m (hx.has HI5.out.blk); obtain ⟨c0, c1, c2, c3⟩ := top_cells HI5.out HLA.out hx; go_simp; first | done | with_reducible rfl | rw [if_neg (by omega)] | rw [if_pos (by omega)]
                simp only [Act.put, List.setIfInBounds_toArray, List.set_cons_zero, List.set_cons_succ]
                refine wpU_take 8 (some 128) (v := ?_) rfl rfl (by kernel_rfl) (fun _ _ _ h => h) rfl (fun x hx => ?_) ?_
                rotate_left 1
                · go_simp; first | done | with_reducible rfl | rw [if_neg (by omega)] | rw [if_pos (by omega)]
                simp only [Act.put, List.setIfInBounds_toArray, List.set_cons_zero, List.set_cons_succ]
                refine wpU_take 9 (some 129) (v := ?_) rfl rfl (by kernel_rfl) (fun _ _ _ h => h) rfl (fun x hx => ?_) ?_
                rotate_left 1
                · go_simp; first | done | with_reducible rfl | rw [if_neg (by omega)] | rw [if_pos (by omega)]
                simp only [Act.put, List.setIfInBounds_toArray, List.set_cons_zero, List.set_cons_succ]
                refine wpU_take 10 (some 130) (v := ?_) rfl rfl (by kernel_rfl) (fun _ _ _ h => h) rfl (fun x hx => ?_) ?_
                rotate_left 1
                · go_simp; first | done | with_reducible rfl | rw [if_neg (by omega)] | rw [if_pos (by omega)]
                simp only [Act.put, List.setIfInBounds_toArray, List.set_cons_zero, List.set_cons_succ]
                refine wpU_take 11 (some 131) (v := ?_) rfl rfl (by kernel_rfl) (fun _ _ _ h => h) rfl (fun x hx => ?_) ?_
                rotate_left 1
                · obtain ⟨m0, m1, m2, m8, m9, m10, m11⟩ := cells_m (hx.has HI5.out.blk); obtain ⟨c0, c1, c2, c3⟩ := top_cells HI5.out HLA.out hx; go_simp; first | done | with_reducible rfl | rw [if_neg (by omega)] | rw [if_pos (by omega)]
                simp only [Act.put, List.setIfInBounds_toArray, List.set_cons_zero, List.set_cons_succ]
                refine wpU_step 12 (by kernel_rfl) rfl rfl ?_  -- alloc 
                go_wp2_with fail
                refine ⟨(Later.refl _).alloc _, ?_⟩
                refine wpU_last [_] (by kernel_rfl) rfl rfl ?_
                simp only [List.getElem_toArray, List.getElem_cons_succ, List.getElem_cons_zero]
                go_wp2_with fail
                -- region 17: 15 operations, the last [14]
                refine wpU_begin [14] [] (by kernel_rfl) (fun w7 hw7 => ?_)
                obtain ⟨hl7, hC7⟩ := drew_alloc hw7
                have HI7 := Lib.hid (HI5.out.later hl7)
                have HC7 := Lib.hid hC7
                have HB7 := Lib.hid (hl7.has HB5.out)
                have HG7 := Lib.hid (HG5.out.later hl7)
                clear hw7 hl7 hC7
                refine wpU_take 0 (some 132) (v := ?_) rfl rfl (by kernel_rfl) (fun _ _ _ h => h) rfl (fun x hx => ?_) ?_
                rotate_left 1
                · go_simp; first | done | with_reducible rfl | rw [if_neg (by omega)] | rw [if_pos (by omega)]
                simp only [Act.put, List.setIfInBounds_toArray, List.set_cons_zero, List.set_cons_succ]
                refine wpU_take 1 (some 133) (v := ?_) rfl rfl (by kernel_rfl) (fun _ _ _ h => h) rfl (fun x hx => ?_) ?_
                rotate_left 1
                · go_simp; first | done | with_reducible rfl | rw [if_neg (by omega)] | rw [if_pos (by omega)]
                simp only [Act.put, List.setIfInBounds_toArray, List.set_cons_zero, List.set_cons_succ]
                refine wpU_take 2 (some 134) (v := ?_) rfl rfl (by kernel_rfl) (fun _ _ _ h => h) rfl (fun x hx => ?_) ?_
                rotate_left 1
                · go_simp; first | done | with_reducible rfl | rw [if_neg (by omega)] | rw [if_pos (by omega)]
                simp only [Act.put, List.setIfInBounds_toArray, List.set_cons_zero, List.set_cons_succ]
                refine wpU_take 3 (some 135) (v := ?_) rfl rfl (by kernel_rfl) (fun _ _ _ h => h) rfl (fun x hx => ?_) ?_
                rotate_left 1
                · go_simp; first | done | with_reducible rfl | rw [if_neg (by omega)] | rw [if_pos (by omega)]
                simp only [Act.put, List.setIfInBounds_toArray, List.set_cons_zero, List.set_cons_succ]
                refine wpU_take 4 (some 136) (v := ?_) rfl rfl (by kernel_rfl) (fun _ _ _ h => h) rfl (fun x hx => ?_) ?_
                rotate_left 1
                · obtain ⟨m0, m1, m2, m8, m9, m10, m11⟩ := cells_m (hx.has HI7.out.blk); go_simp; first | done | with_reducible rfl | rw [if_neg (by omega)] | rw [if_pos (by omega)]
                simp only [Act.put, List.setIfInBounds_toArray, List.set_cons_zero, List.set_cons_succ]
                refine wpU_take 5 (some 137) (v := ?_) rfl rfl (by kernel_rfl) (fun _ _ _ h => h) rfl (fun x hx => ?_) ?_
                rotate_left 1
                · go_simp; first | done | with_reducible rfl | rw [if_neg (by omega)] | rw [if_pos (by omega)]
                simp only [Act.put, List.setIfInBounds_toArray, List.set_cons_zero, List.set_cons_succ]
                refine wpU_take 6 (some 138) (v := ?_) rfl rfl (by kernel_rfl) (fun _ _ _ h => h) rfl (fun x hx => ?_) ?_
                rotate_left 1
                · go_simp; first | done | with_reducible rfl | rw [if_neg (by omega)] | rw [if_pos (by omega)]
                simp only [Act.put, List.setIfInBounds_toArray, List.set_cons_zero, List.set_cons_succ]
                refine wpU_take 7 (some 139) (v := ?_) rfl rfl (by kernel_rfl) (fun _ _ _ h => h) rfl (fun x hx => ?_) ?_
                rotate_left 1
                · go_simp; first | done | with_reducible rfl | rw [if_neg (by omega)] | rw [if_pos (by omega)]
                simp only [Act.put, List.setIfInBounds_toArray, List.set_cons_zero, List.set_cons_succ]
                refine wpU_take 8 (some 140) (v := ?_) rfl rfl (by kernel_rfl) (fun _ _ _ h => h) rfl (fun x hx => ?_) ?_
                rotate_left 1
                · obtain ⟨m0, m1, m2, m8, m9, m10, m11⟩ := cells_m (hx.has HI7.out.blk); go_simp; first | done | with_reducible rfl | rw [if_neg (by omega)] | rw [if_pos (by omega)]
                simp only [Act.put, List.setIfInBounds_toArray, List.set_cons_zero, List.set_cons_succ]
                refine wpU_take 9 (some 141) (v := ?_) rfl rfl (by kernel_rfl) (fun _ _ _ h => h) rfl (fun x hx => ?_) ?_
                rotate_left 1
                · go_simp; first | done | with_reducible rfl | rw [if_neg (by omega)] | rw [if_pos (by omega)]
                simp only [Act.put, List.setIfInBounds_toArray, List.set_cons_zero, List.set_cons_succ]
                refine wpU_take 10 (some 142) (v := ?_) rfl rfl (by kernel_rfl) (fun _ _ _ h => h) rfl (fun x hx => ?_) ?_
                rotate_left 1
                · go_simp; first | done | with_reducible rfl | rw [if_neg (by omega)] | rw [if_pos (by omega)]
                simp only [Act.put, List.setIfInBounds_toArray, List.set_cons_zero, List.set_cons_succ]
                refine wpU_take 11 (some 143) (v := ?_) rfl rfl (by kernel_rfl) (fun _ _ _ h => h) rfl (fun x hx => ?_) ?_
                rotate_left 1
                · go_simp; first | done | with_reducible rfl | rw [if_neg (by omega)] | rw [if_pos (by omega)]
                simp only [Act.put, List.setIfInBounds_toArray, List.set_cons_zero, List.set_cons_succ]
                refine wpU_take 12 (some 144) (v := ?_) rfl rfl (by kernel_rfl) (fun _ _ _ h => h) rfl (fun x hx => ?_) ?_
                rotate_left 1
                · go_simp; first | done | with_reducible rfl | rw [if_neg (by omega)] | rw [if_pos (by omega)]
                simp only [Act.put, List.setIfInBounds_toArray, List.set_cons_zero, List.set_cons_succ]
                refine wpU_take 13 (some 145) (v := ?_) rfl rfl (by kernel_rfl) (fun _ _ _ h => h) rfl (fun x hx => ?_) ?_
                rotate_left 1
                · go_simp; first | done | with_reducible rfl | rw [if_neg (by omega)] | rw [if_pos (by omega)]
                simp only [Act.put, List.setIfInBounds_toArray, List.set_cons_zero, List.set_cons_succ]
                refine wpU_last [_] (by kernel_rfl) rfl rfl ?_
                simp only [List.getElem_toArray, List.getElem_cons_succ, List.getElem_cons_zero]
                obtain ⟨a8, b8, hab, _, _, hI8⟩ := HI7.out.pop HCS.out
                have HI8 := Lib.hid hI8
                have hCM : ¬ w5.heap.size = M := ne_of_type HC7.out HI7.out.blk (by decide)
                have hMC : ¬ M = w5.heap.size := fun e => hCM e.symm
                clear hab hI8
                obtain ⟨m0, m1, m2, m8, m9, m10, m11⟩ := cells_m HI7.out.blk
                obtain ⟨c0, c1, c2, c3⟩ := cells_c HC7.out
                have f11 := frozen_of_row w7 M 11 _ _ HI7.out.blk
                have f2 := frozen_of_row w7 M 2 _ _ HI7.out.blk
                go_wp2_with fail
                clear m0 m1 m2 m8 m9 m10 m11 c0 c1 c2 c3 f11 f2
                -- region 22: 15 operations, the last [14]
                refine wpU_begin [14] [] (by kernel_rfl) (fun w9 hw9 => ?_)
                have HI9 := Lib.hid ((HI8.out.setAt c.at_).later (drew_later hw9))
                have HC9 := Lib.hid ((drew_later hw9).has (heap_set_other (k := 2) (heap_set_other (k := 11) HC7.out hCM) hCM))
                have HG9 := Lib.hid (((HG7.out.keep (HI7.out.keepSet 11 _) _ _).keep (HI8.out.keepSet 2 _) _ _).later (drew_later hw9))
                clear hw9
                refine wpU_take 0 (some 166) (v := ?_) rfl rfl (by kernel_rfl) (fun _ _ _ h => h) rfl (fun x hx => ?_) ?_
                rotate_left 1
                · go_simp; first | done | with_reducible rfl | rw [if_neg (by omega)] | rw [if_pos (by omega)]
                simp only [Act.put, List.setIfInBounds_toArray, List.set_cons_zero, List.set_cons_succ]
                refine wpU_take 1 (some 167) (v := ?_) rfl rfl (by kernel_rfl) (fun _ _ _ h => h) rfl (fun x hx => ?_) ?_
                rotate_left 1
                · go_simp; first | done | with_reducible rfl | rw [if_neg (by omega)] | rw [if_pos (by omega)]
                simp only [Act.put, List.setIfInBounds_toArray, List.set_cons_zero, List.set_cons_succ]
                refine wpU_take 2 (some 168) (v := ?_) rfl rfl (by kernel_rfl) (fun _ _ _ h => h) rfl (fun x hx => ?_) ?_
                rotate_left 1
                · go_simp; first | done | with_reducible rfl | rw [if_neg (by omega)] | rw [if_pos (by omega)]
                simp only [Act.put, List.setIfInBounds_toArray, List.set_cons_zero, List.set_cons_succ]
                refine wpU_take 3 (some 169) (v := ?_) rfl rfl (by kernel_rfl) (fun _ _ _ h => h) rfl (fun x hx => ?_) ?_
                rotate_left 1
                · go_simp; first | done | with_reducible rfl | rw [if_neg (by omega)] | rw [if_pos (by omega)]
                simp only [Act.put, List.setIfInBounds_toArray, List.set_cons_zero, List.set_cons_succ]
                refine wpU_take 4 (some 170) (v := ?_) rfl rfl (by kernel_rfl) (fun _ _ _ h => h) rfl (fun x hx => ?_) ?_
                rotate_left 1
                · go_simp; first | done | with_reducible rfl | rw [if_neg (by omega)] | rw [if_pos (by omega)]
                simp only [Act.put, List.setIfInBounds_toArray, List.set_cons_zero, List.set_cons_succ]
                refine wpU_take 5 (some 171) (v := ?_) rfl rfl (by kernel_rfl) (fun _ _ _ h => h) rfl (fun x hx => ?_) ?_
                rotate_left 1
                · obtain ⟨m0, m1, m2, m8, m9, m10, m11⟩ := cells_m (hx.has HI9.out.blk); obtain ⟨c0, c1, c2, c3⟩ := cells_c (hx.has HC9.out); go_simp; first | done | with_reducible rfl | rw [if_neg (by omega)] | rw [if_pos (by omega)]
                simp only [Act.put, List.setIfInBounds_toArray, List.set_cons_zero, List.set_cons_succ]
                refine wpU_take 6 (some 172) (v := ?_) rfl rfl (by kernel_rfl) (fun _ _ _ h => h) rfl (fun x hx => ?_) ?_
                rotate_left 1
                · go_simp; first | done | with_reducible rfl | rw [if_neg (by omega)] | rw [if_pos (by omega)]
                simp only [Act.put, List.setIfInBounds_toArray, List.set_cons_zero, List.set_cons_succ]
                refine wpU_take 7 (some 173) (v := ?_) rfl rfl (by kernel_rfl) (fun _ _ _ h => h) rfl (fun x hx => ?_) ?_
                rotate_left 1
                · obtain ⟨m0, m1, m2, m8, m9, m10, m11⟩ := cells_m (hx.has HI9.out.blk); obtain ⟨c0, c1, c2, c3⟩ := cells_c (hx.has HC9.out); go_simp; first | done | with_reducible rfl | rw [if_neg (by omega)] | rw [if_pos (by omega)]
                simp only [Act.put, List.setIfInBounds_toArray, List.set_cons_zero, List.set_cons_succ]
                refine wpU_take 8 (some 174) (v := ?_) rfl rfl (by kernel_rfl) (fun _ _ _ h => h) rfl (fun x hx => ?_) ?_
                rotate_left 1
                · go_simp; first | done | with_reducible rfl | rw [if_neg (by omega)] | rw [if_pos (by omega)]
                simp only [Act.put, List.setIfInBounds_toArray, List.set_cons_zero, List.set_cons_succ]
                refine wpU_take 9 (some 175) (v := ?_) rfl rfl (by kernel_rfl) (fun _ _ _ h => h) rfl (fun x hx => ?_) ?_
                rotate_left 1
                · obtain ⟨m0, m1, m2, m8, m9, m10, m11⟩ := cells_m (hx.has HI9.out.blk); obtain ⟨c0, c1, c2, c3⟩ := cells_c (hx.has HC9.out); go_simp; first | done | with_reducible rfl | rw [if_neg (by omega)] | rw [if_pos (by omega)]
                simp only [Act.put, List.setIfInBounds_toArray, List.set_cons_zero, List.set_cons_succ]
                refine wpU_take 10 (some 176) (v := ?_) rfl rfl (by kernel_rfl) (fun _ _ _ h => h) rfl (fun x hx => ?_) ?_
                rotate_left 1
                · go_simp; first | done | with_reducible rfl | rw [if_neg (by omega)] | rw [if_pos (by omega)]
                simp only [Act.put, List.setIfInBounds_toArray, List.set_cons_zero, List.set_cons_succ]
                refine wpU_take 11 (some 177) (v := ?_) rfl rfl (by kernel_rfl) (fun _ _ _ h => h) rfl (fun x hx => ?_) ?_
                rotate_left 1
                · go_simp; first | done | with_reducible rfl | rw [if_neg (by omega)] | rw [if_pos (by omega)]
                simp only [Act.put, List.setIfInBounds_toArray, List.set_cons_zero, List.set_cons_succ]
                refine wpU_take 12 (some 178) (v := ?_) rfl rfl (by kernel_rfl) (fun _ _ _ h => h) rfl (fun x hx => ?_) ?_
                rotate_left 1
                · go_simp; first | done | with_reducible rfl | rw [if_neg (by omega)] | rw [if_pos (by omega)]
                simp only [Act.put, List.setIfInBounds_toArray, List.set_cons_zero, List.set_cons_succ]
                refine wpU_take 13 (some 179) (v := ?_) rfl rfl (by kernel_rfl) (fun _ _ _ h => h) rfl (fun x hx => ?_) ?_
                rotate_left 1
                · go_simp; first | done | with_reducible rfl | rw [if_neg (by omega)] | rw [if_pos (by omega)]
                simp only [Act.put, List.setIfInBounds_toArray, List.set_cons_zero, List.set_cons_succ]
                refine wpU_last [_] (by kernel_rfl) rfl rfl ?_
                simp only [List.getElem_toArray, List.getElem_cons_succ, List.getElem_cons_zero]
                have f9 := frozen_of_row w9 M 9 _ _ HI9.out.blk
                obtain ⟨m0, m1, m2, m8, m9, m10, m11⟩ := cells_m HI9.out.blk
                have HI10 := Lib.hid (HI9.out.cut (k := c.ncap) hncap)
                go_wp2_with fail
                go_roundg k
                case measure => omega
                case rel => exact ⟨n + 1, c.goals, ⟨c.at_, m.caps.take c.ncap, m.events, cs⟩, _, _, _, _, by omega, HG9.out.keep (HI9.out.keepSet 9 _) _ _, HI10.out, HK.out.pop HCS.out, HPL.out⟩

end Go.Proofs.Ytndefbecoahfhaa

/- spec's l20Push and l20Later. Printed by gen_spush.py. -/
namespace Go.Proofs.Ytndefbecoahfhaa
open Go.RowKit

set_option maxRecDepth 100000 in
set_option maxHeartbeats 1000000 in
theorem push_any {w0 w : World} {F : List (Nat × Obj)} {M : Nat} {m : Mst} {gl : List SG} {gi ai : Int} {gv hv cv ev : Value} {hs : List Value} (h : SpecAt w0 w F M m gl gi ai gv hv cv ev hs) (kind : Nat) (p : Pat) (kA : Option Addr) (kc : Nat) (next fr : Int) (hk : KidsIn w0 p (.slice kA p.kids.length kc)) (hn : gl.length ≤ 100000) :
    Calls Try.prog 70 #[.pointer (some ⟨M, 0, none⟩), .agg #[.int .i64 kind, .int .i64 p.op, .string p.text, .int .i64 p.num, .int .i64 p.lo, .int .i64 p.hi, .slice kA p.kids.length kc, .int .i64 next, .int .i64 fr]] w
      fun e w' => e = .returned (.int .i64 gl.length) ∧ ∃ gv', SpecAt w0 w' F M m (gl ++ [⟨kind, p, .slice kA p.kids.length kc, next, fr⟩]) gi ai gv' hv cv ev hs := by
  have hblk := h.blk
  obtain ⟨gA, gc, rfl, _, _⟩ := h.goals.form
  obtain ⟨hA, hc, rfl, _, _⟩ := h.chs.form
  obtain ⟨cA, cc, rfl, _, _⟩ := h.caps.form
  obtain ⟨eA, ec, rfl, _, _⟩ := h.evs.form
  have HI := Lib.hid h
  have HK := Lib.hid hk
  clear h hk
  go_enter Try.func70, Try.ntmps70
  go_wp2_with fail
  -- region 1: 11 operations, the last [7, 8, 9, 10]
  refine wpU_begin [7, 8, 9, 10] [0] (by kernel_rfl) (fun w3 hw3 => ?_)
  obtain ⟨hl3, hq3⟩ := drew_alloc hw3
  have HI3 := Lib.hid (HI.out.later hl3)
  have HQ3 := Lib.hid hq3
  clear hw3 hl3 hq3 hblk
  refine wpU_pure 0 (some 5) (v := ?_) rfl rfl (by kernel_rfl) (fun _ _ _ h => h) rfl (fun x => ?_) ?_
  rotate_left 1
  · go_simp; first | done | with_reducible rfl | rw [if_neg (by omega)] | rw [if_pos (by omega)]
  simp only [Act.put, List.setIfInBounds_toArray, List.set_cons_zero, List.set_cons_succ]
  refine wpU_take 1 (some 6) (v := ?_) rfl rfl (by kernel_rfl) (fun _ _ _ h => h) rfl (fun x hx => ?_) ?_
  rotate_left 1
  · go_simp; first | done | with_reducible rfl | rw [if_neg (by omega)] | rw [if_pos (by omega)]
  simp only [Act.put, List.setIfInBounds_toArray, List.set_cons_zero, List.set_cons_succ]
  refine wpU_take 2 (some 7) (v := ?_) rfl rfl (by kernel_rfl) (fun _ _ _ h => h) rfl (fun x hx => ?_) ?_
  rotate_left 1
  · go_simp; first | done | with_reducible rfl | rw [if_neg (by omega)] | rw [if_pos (by omega)]
  simp only [Act.put, List.setIfInBounds_toArray, List.set_cons_zero, List.set_cons_succ]
  refine wpU_take 3 (some 8) (v := ?_) rfl rfl (by kernel_rfl) (fun _ _ _ h => h) rfl (fun x hx => ?_) ?_
  rotate_left 1
  · go_simp; first | done | with_reducible rfl | rw [if_neg (by omega)] | rw [if_pos (by omega)]
  simp only [Act.put, List.setIfInBounds_toArray, List.set_cons_zero, List.set_cons_succ]
  refine wpU_take 4 (some 9) (v := ?_) rfl rfl (by kernel_rfl) (fun _ _ _ h => h) rfl (fun x hx => ?_) ?_
  rotate_left 1
  · obtain ⟨s0, s1, s2, s3, s4, s5⟩ := cells_s (hx.has HI3.out.blk); obtain ⟨q0, q1, q2, q3, q4, q5, q6, q7, q8⟩ := cells_q (hx.has HQ3.out); go_simp; first | done | with_reducible rfl | rw [if_neg (by omega)] | rw [if_pos (by omega)]
  simp only [Act.put, List.setIfInBounds_toArray, List.set_cons_zero, List.set_cons_succ]
  refine wpU_take 5 (some 10) (v := ?_) rfl rfl (by kernel_rfl) (fun _ _ _ h => h) rfl (fun x hx => ?_) ?_
  rotate_left 1
  · obtain ⟨s0, s1, s2, s3, s4, s5⟩ := cells_s (hx.has HI3.out.blk); obtain ⟨q0, q1, q2, q3, q4, q5, q6, q7, q8⟩ := cells_q (hx.has HQ3.out); go_simp; first | done | with_reducible rfl | rw [if_neg (by omega)] | rw [if_pos (by omega)]
  simp only [Act.put, List.setIfInBounds_toArray, List.set_cons_zero, List.set_cons_succ]
  refine wpU_step 6 (by kernel_rfl) rfl rfl ?_  -- buildSlice 
  go_wp2_with fail
  refine ⟨(Later.refl _).alloc _, ?_⟩
  refine wpU_last [_, _, _, _] (by kernel_rfl) rfl rfl ?_
  simp only [List.getElem_toArray, List.getElem_cons_succ, List.getElem_cons_zero]
  obtain ⟨i, hi, hz0, hz1, hz2⟩ := info_parts infoQ
  refine wpList_append_has _ rfl _ _ _ rfl w0.heap.size TQ i _ 9 96 Try.underlying111 hi hz0 hz1 hz2 rfl _ gl.length (sgCells gl) rfl ((HI3.out.later ((Later.refl _).alloc _)).goals) _ 1 1 (SG.cells ⟨kind, p, .slice kA p.kids.length kc, next, fr⟩) rfl rfl ?_ ?_ (by omega) ?_ ?_ ?_ ?_
  · exact cells_nine _ _ _ _ _ _ _ _ _ _ _
  · intro u hu
    simp only [List.mem_cons, List.not_mem_nil, or_false] at hu
    rcases hu with rfl | rfl | rfl | rfl | rfl | rfl | rfl | rfl | rfl <;> rfl
  · simp only [maxLen]; omega
  · omega
  · exact (HI3.out.later ((Later.refl w3).alloc _)).below.size
  · intro v' w' hrow hgrow hblock
    obtain ⟨vA, vc, rfl, _, _⟩ := hrow.form
    obtain ⟨hM', hI'⟩ := (HI3.out.later ((Later.refl w3).alloc _)).grownG hrow hgrow hblock HK.out
    have HI' := Lib.hid hI'
    obtain ⟨s0, s1, s2, s3, s4, s5⟩ := cells_s hM'
    have f0 := frozen_of_row w' M 0 _ _ hM'
    have hlen : ((gl.length : Int) + 1) ≤ 100001 := by omega
    clear hM' hI' hrow hgrow hblock
    go_wp2_with fail
    go_ret
    exact ⟨by first | rfl | simp, _, HI'.out⟩

set_option maxRecDepth 100000 in
set_option maxHeartbeats 1000000 in
theorem later_any {w0 w : World} {F : List (Nat × Obj)} {M : Nat} {m : Mst} {gl : List SG} {gi ai : Int} {gv hv cv ev : Value} {hs : List Value} (h : SpecAt w0 w F M m gl gi ai gv hv cv ev hs) (c : Choice) (i at_ : Int) (hat : at_ = (c.at_ : Int)) (hnc : c.ncap = m.caps.length) (hi : (c.stop = true ∧ i = -2) ∨ (c.stop = false ∧ Chain gl i c.goals)) (hn : m.choices.length ≤ 100000) :
    Calls Try.prog 94 #[.pointer (some ⟨M, 0, none⟩), .int .i64 i, .int .i64 at_] w
      fun e w' => e = .returned (.tuple #[]) ∧ ∃ hv' hs', SpecAt w0 w' F M { m with choices := m.choices ++ [c] } gl gi ai gv hv' cv ev hs' := by
  have hblk := h.blk
  obtain ⟨gA, gc, rfl, _, _⟩ := h.goals.form
  obtain ⟨hA, hc, rfl, _, _⟩ := h.chs.form
  obtain ⟨cA, cc, rfl, _, _⟩ := h.caps.form
  obtain ⟨eA, ec, rfl, _, _⟩ := h.evs.form
  have HI := Lib.hid h
  have HC := Lib.hid hi
  have HN := Lib.hid hnc
  subst hat
  clear h hi hnc
  go_enter Try.func94, Try.ntmps94
  -- region 0: 18 operations, the last [14, 15, 16, 17]
  refine wpU_begin [14, 15, 16, 17] [0] (by kernel_rfl) (fun w3 hw3 => ?_)
  have HI3 := Lib.hid (HI.out.later (drew_later hw3))
  clear hw3 hblk
  refine wpU_pure 0 (some 6) (v := ?_) rfl rfl (by kernel_rfl) (fun _ _ _ h => h) rfl (fun x => ?_) ?_
  rotate_left 1
  · go_simp; first | done | with_reducible rfl | rw [if_neg (by omega)] | rw [if_pos (by omega)]
  simp only [Act.put, List.setIfInBounds_toArray, List.set_cons_zero, List.set_cons_succ]
  refine wpU_take 1 (some 7) (v := ?_) rfl rfl (by kernel_rfl) (fun _ _ _ h => h) rfl (fun x hx => ?_) ?_
  rotate_left 1
  · go_simp; first | done | with_reducible rfl | rw [if_neg (by omega)] | rw [if_pos (by omega)]
  simp only [Act.put, List.setIfInBounds_toArray, List.set_cons_zero, List.set_cons_succ]
  refine wpU_take 2 (some 8) (v := ?_) rfl rfl (by kernel_rfl) (fun _ _ _ h => h) rfl (fun x hx => ?_) ?_
  rotate_left 1
  · go_simp; first | done | with_reducible rfl | rw [if_neg (by omega)] | rw [if_pos (by omega)]
  simp only [Act.put, List.setIfInBounds_toArray, List.set_cons_zero, List.set_cons_succ]
  refine wpU_take 3 (some 9) (v := ?_) rfl rfl (by kernel_rfl) (fun _ _ _ h => h) rfl (fun x hx => ?_) ?_
  rotate_left 1
  · go_simp; first | done | with_reducible rfl | rw [if_neg (by omega)] | rw [if_pos (by omega)]
  simp only [Act.put, List.setIfInBounds_toArray, List.set_cons_zero, List.set_cons_succ]
  refine wpU_take 4 (some 10) (v := ?_) rfl rfl (by kernel_rfl) (fun _ _ _ h => h) rfl (fun x hx => ?_) ?_
  rotate_left 1
  · obtain ⟨s0, s1, s2, s3, s4, s5⟩ := cells_s (hx.has HI3.out.blk); go_simp; first | done | with_reducible rfl | rw [if_neg (by omega)] | rw [if_pos (by omega)]
  simp only [Act.put, List.setIfInBounds_toArray, List.set_cons_zero, List.set_cons_succ]
  refine wpU_take 5 (some 11) (v := ?_) rfl rfl (by kernel_rfl) (fun _ _ _ h => h) rfl (fun x hx => ?_) ?_
  rotate_left 1
  · go_simp; first | done | with_reducible rfl | rw [if_neg (by omega)] | rw [if_pos (by omega)]
  simp only [Act.put, List.setIfInBounds_toArray, List.set_cons_zero, List.set_cons_succ]
  refine wpU_take 6 (some 12) (v := ?_) rfl rfl (by kernel_rfl) (fun _ _ _ h => h) rfl (fun x hx => ?_) ?_
  rotate_left 1
  · go_simp; first | done | with_reducible rfl | rw [if_neg (by omega)] | rw [if_pos (by omega)]
  simp only [Act.put, List.setIfInBounds_toArray, List.set_cons_zero, List.set_cons_succ]
  refine wpU_take 7 (some 13) (v := ?_) rfl rfl (by kernel_rfl) (fun _ _ _ h => h) rfl (fun x hx => ?_) ?_
  rotate_left 1
  · go_simp; first | done | with_reducible rfl | rw [if_neg (by omega)] | rw [if_pos (by omega)]
  simp only [Act.put, List.setIfInBounds_toArray, List.set_cons_zero, List.set_cons_succ]
  refine wpU_take 8 (some 14) (v := ?_) rfl rfl (by kernel_rfl) (fun _ _ _ h => h) rfl (fun x hx => ?_) ?_
  rotate_left 1
  · go_simp; first | done | with_reducible rfl | rw [if_neg (by omega)] | rw [if_pos (by omega)]
  simp only [Act.put, List.setIfInBounds_toArray, List.set_cons_zero, List.set_cons_succ]
  refine wpU_take 9 (some 15) (v := ?_) rfl rfl (by kernel_rfl) (fun _ _ _ h => h) rfl (fun x hx => ?_) ?_
  rotate_left 1
  · go_simp; first | done | with_reducible rfl | rw [if_neg (by omega)] | rw [if_pos (by omega)]
  simp only [Act.put, List.setIfInBounds_toArray, List.set_cons_zero, List.set_cons_succ]
  refine wpU_take 10 (some 16) (v := ?_) rfl rfl (by kernel_rfl) (fun _ _ _ h => h) rfl (fun x hx => ?_) ?_
  rotate_left 1
  · obtain ⟨s0, s1, s2, s3, s4, s5⟩ := cells_s (hx.has HI3.out.blk); go_simp; first | done | with_reducible rfl | rw [if_neg (by omega)] | rw [if_pos (by omega)]
  simp only [Act.put, List.setIfInBounds_toArray, List.set_cons_zero, List.set_cons_succ]
  refine wpU_take 11 (some 17) (v := ?_) rfl rfl (by kernel_rfl) (fun _ _ _ h => h) rfl (fun x hx => ?_) ?_
  rotate_left 1
  · go_simp; first | done | with_reducible rfl | rw [if_neg (by omega)] | rw [if_pos (by omega)]
  simp only [Act.put, List.setIfInBounds_toArray, List.set_cons_zero, List.set_cons_succ]
  refine wpU_take 12 (some 18) (v := ?_) rfl rfl (by kernel_rfl) (fun _ _ _ h => h) rfl (fun x hx => ?_) ?_
  rotate_left 1
  · go_simp; first | done | with_reducible rfl | rw [if_neg (by omega)] | rw [if_pos (by omega)]
  simp only [Act.put, List.setIfInBounds_toArray, List.set_cons_zero, List.set_cons_succ]
  refine wpU_step 13 (by kernel_rfl) rfl rfl ?_  -- buildSlice 
  go_wp2_with fail
  refine ⟨(Later.refl _).alloc _, ?_⟩
  refine wpU_last [_, _, _, _] (by kernel_rfl) rfl rfl ?_
  simp only [List.getElem_toArray, List.getElem_cons_succ, List.getElem_cons_zero]
  obtain ⟨i', hi, hz0, hz1, hz2⟩ := info_parts infoD
  refine wpList_append_has _ rfl _ _ _ rfl w0.heap.size TD i' _ 3 24 Try.underlying112 hi hz0 hz1 hz2 rfl _ m.choices.length hs rfl ((HI3.out.later ((Later.refl _).alloc _)).chs) _ 1 1 [.int .i64 i, .int .i64 c.at_, .int .i64 m.caps.length] rfl rfl ?_ ?_ (by omega) ?_ ?_ ?_ ?_
  · exact cells_three _ _ _ _ _
  · intro u hu
    simp only [List.mem_cons, List.not_mem_nil, or_false] at hu
    rcases hu with rfl | rfl | rfl <;> rfl
  · simp only [maxLen]; omega
  · omega
  · exact (HI3.out.later ((Later.refl w3).alloc _)).below.size
  · intro v' w' hrow hgrow hblock
    obtain ⟨vA, vc, rfl, _, _⟩ := hrow.form
    obtain ⟨hM', hI'⟩ := (HI3.out.later ((Later.refl w3).alloc _)).grownH (c := c) hrow hgrow hblock ⟨i, by rw [HN.out], HC.out⟩
    have HI' := Lib.hid hI'
    obtain ⟨s0, s1, s2, s3, s4, s5⟩ := cells_s hM'
    have f1 := frozen_of_row w' M 1 _ _ hM'
    clear hM' hI' hrow hgrow hblock
    go_wp2_with fail
    go_end0
    exact ⟨rfl, _, _, HI'.out⟩

end Go.Proofs.Ytndefbecoahfhaa

/- What spec's l20Step is said with. No walk in sight. -/
namespace Go.Proofs.Ytndefbecoahfhaa
open Go.RowKit

/-- What became of one goal; k: how many goals there were. -/
def SDid (w0 : World) (M : Nat) (m : Mst) (k : Nat) (o : Out) (e : Ending) (w' : World) : Prop :=
  match o with
  | .go gs' m' => ∃ gl gi gv hv cv ev hs, e = .returned (.bool true) ∧ SpecAt w0 w' [] M m' gl gi m'.at_ gv hv cv ev hs ∧ Chain gl gi gs' ∧ gl.length ≤ k + 2
  | .fail => ∃ gl gi ai gv hv cv ev hs, e = .returned (.bool false) ∧ SpecAt w0 w' [] M m gl gi ai gv hv cv ev hs ∧ gl.length ≤ k + 2
  | .stop => ∃ gl gi ai gv hv cv ev hs, e = .returned (.bool false) ∧ SpecAt w0 w' [] M { m with choices := [⟨true, [], m.at_, m.caps.length⟩] } gl gi ai gv hv cv ev hs ∧ gl.length ≤ k + 2

abbrev ogOf (x : SG) : Obj := .cells x.cells.toArray TQ (0, 0)
abbrev opOf (p : Pat) (kv : Value) : Obj := .cells #[.int .i64 p.op, .string p.text, .int .i64 p.num, .int .i64 p.lo, .int .i64 p.hi, kv] TP (0, 0)

section
variable {w0 w : World} {F : List (Nat × Obj)} {M : Nat} {m : Mst} {gl : List SG} {gi ai : Int} {gv hv cv ev : Value} {hs : List Value}
theorem SpecAt.enter (h : SpecAt w0 w F M m gl gi ai gv hv cv ev hs) (o1 o2 : Obj) (nx : Int) : SpecAt w0 (((w.setCell ⟨M, 2, none⟩ (.int .i64 nx)).alloc o1).alloc o2) [(w.heap.size + 1, o2), (w.heap.size, o1)] M m gl nx ai gv hv cv ev hs := by
  have hz : (w.setCell ⟨M, 2, none⟩ (.int .i64 nx)).heap.size = w.heap.size := by simp
  have h1 := (h.fewer (F' := []) (fun x hx => (by cases hx))).setGoal nx
  have h2 := h1.make (b := w.heap.size) ((Later.refl _).alloc o1) (by rw [← hz]; exact heap_alloc_new _ o1) (by omega)
  exact h2.make (b := w.heap.size + 1) ((Later.refl _).alloc o2) (by rw [show w.heap.size + 1 = ((w.setCell ⟨M, 2, none⟩ (.int .i64 nx)).alloc o1).heap.size by simp]; exact heap_alloc_new _ o2) (by simp)
theorem SpecAt.none (h : SpecAt w0 w F M m gl gi ai gv hv cv ev hs) : SpecAt w0 w [] M m gl gi ai gv hv cv ev hs := h.fewer (fun x hx => (by cases hx))

theorem goal_row (h : SpecAt w0 w F M m gl gi ai gv hv cv ev hs) {j : Nat} {x : SG} (hj : gl[j]? = some x) : ∃ g gc, gv = .slice (some ⟨g, 0, none⟩) gl.length gc := by
  have := (List.getElem?_eq_some_iff.1 hj).1
  obtain ⟨g, cap, e, _⟩ := h.goals.block_ (by omega)
  exact ⟨g, cap, e⟩
theorem goal_cells {g gc : Nat} (h : SpecAt w0 w F M m gl gi ai (.slice (some ⟨g, 0, none⟩) gl.length gc) hv cv ev hs) {j : Nat} {x : SG} (hj : gl[j]? = some x) :
    w.cell? ⟨g, j * 9, none⟩ = some (.int .i64 x.kind) ∧ w.cell? ⟨g, j * 9 + 1, none⟩ = some (.int .i64 x.p.op) ∧ w.cell? ⟨g, j * 9 + 2, none⟩ = some (.string x.p.text) ∧ w.cell? ⟨g, j * 9 + 3, none⟩ = some (.int .i64 x.p.num) ∧
      w.cell? ⟨g, j * 9 + 4, none⟩ = some (.int .i64 x.p.lo) ∧ w.cell? ⟨g, j * 9 + 5, none⟩ = some (.int .i64 x.p.hi) ∧ w.cell? ⟨g, j * 9 + 6, none⟩ = some x.kv ∧ w.cell? ⟨g, j * 9 + 7, none⟩ = some (.int .i64 x.next) ∧ w.cell? ⟨g, j * 9 + 8, none⟩ = some (.int .i64 x.fr) := by
  have hc := h.goals.cells (g := g) rfl
  have at_ : ∀ i u, x.cells[i]? = some u → w.cell? ⟨g, j * 9 + i, none⟩ = some u := fun i u hu => hc _ u (sgCells_at gl j x hj i u hu)
  exact ⟨at_ 0 _ rfl, at_ 1 _ rfl, at_ 2 _ rfl, at_ 3 _ rfl, at_ 4 _ rfl, at_ 5 _ rfl, at_ 6 _ rfl, at_ 7 _ rfl, at_ 8 _ rfl⟩

theorem push_at (h : SpecAt w0 w F M m gl gi ai gv hv cv ev hs) (kind : Nat) (p : Pat) (kA : Option Addr) (kc : Nat) (next fr : Int) (hk : KidsIn w0 p (.slice kA p.kids.length kc)) (hn : gl.length ≤ 100000) (z : Int) (hz : z = (kind : Int)) :
    Calls Try.prog 70 #[.pointer (some ⟨M, 0, none⟩), .agg #[.int .i64 z, .int .i64 p.op, .string p.text, .int .i64 p.num, .int .i64 p.lo, .int .i64 p.hi, .slice kA p.kids.length kc, .int .i64 next, .int .i64 fr]] w
      fun e w' => e = .returned (.int .i64 gl.length) ∧ ∃ gv', SpecAt w0 w' F M m (gl ++ [⟨kind, p, .slice kA p.kids.length kc, next, fr⟩]) gi ai gv' hv cv ev hs := by
  subst hz
  exact push_any h kind p kA kc next fr hk hn
end

section
variable {w0 w' : World} {M : Nat} {m m' : Mst} {k : Nat} {gs' : List Goal} {F : List (Nat × Obj)} {gl : List SG} {gi ai : Int} {gv hv cv ev : Value} {hs : List Value}
theorem sdid_go (h : SpecAt w0 w' F M m' gl gi m'.at_ gv hv cv ev hs) (hc : Chain gl gi gs') (hl : gl.length ≤ k + 2) : SDid w0 M m k (.go gs' m') (.returned (.bool true)) w' := ⟨gl, gi, gv, hv, cv, ev, hs, rfl, h.none, hc, hl⟩
theorem sdid_fail (h : SpecAt w0 w' F M m gl gi ai gv hv cv ev hs) (hl : gl.length ≤ k + 2) : SDid w0 M m k .fail (.returned (.bool false)) w' := ⟨gl, gi, ai, gv, hv, cv, ev, hs, rfl, h.none, hl⟩
theorem sdid_stop (h : SpecAt w0 w' F M { m with choices := [⟨true, [], m.at_, m.caps.length⟩] } gl gi ai gv hv cv ev hs) (hl : gl.length ≤ k + 2) : SDid w0 M m k .stop (.returned (.bool false)) w' := ⟨gl, gi, ai, gv, hv, cv, ev, hs, rfl, h.none, hl⟩
end

section
variable {text : ByteArray} {num lo hi : Int} {A : Option Addr} {l c : Nat} {s : ByteArray} {p : Nat} {w : World} {op : Int}
theorem one_some {z : Nat} (h : isSimple op) (hok : okWords op text num) (hs : s.size ≤ 120) (hp : p ≤ s.size) (hz : oneEnd op text num lo hi s p = some z) :
    Calls Try.prog 82 #[patV op text num lo hi (.slice A l c), .string s, .int .i64 p] w fun e w' => e = .returned (.int .i64 z) ∧ Below w.heap.size w w' :=
  (l19One_any text num lo hi A l c s p w op h hok hs hp).mono fun e w' ⟨he, hb⟩ => ⟨by rw [he, hz]; rfl, hb⟩
theorem one_none (h : isSimple op) (hok : okWords op text num) (hs : s.size ≤ 120) (hp : p ≤ s.size) (hz : oneEnd op text num lo hi s p = none) :
    Calls Try.prog 82 #[patV op text num lo hi (.slice A l c), .string s, .int .i64 p] w fun e w' => e = .returned (.int .i64 (-1)) ∧ Below w.heap.size w w' :=
  (l19One_any text num lo hi A l c s p w op h hok hs hp).mono fun e w' ⟨he, hb⟩ => ⟨by rw [he, hz]; rfl, hb⟩
end
end Go.Proofs.Ytndefbecoahfhaa
