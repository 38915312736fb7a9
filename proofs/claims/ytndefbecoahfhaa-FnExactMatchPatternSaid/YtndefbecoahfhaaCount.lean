/- The walks of CountPattern, patternKids, l18Kids and l18Left. -/
import Derived.Test.YtndefbecoahfhaaTree
namespace Go.Proofs.Ytndefbecoahfhaa
open Go.RowKit

theorem rowOf (w : World) (ps : List Pat) {A : Option Addr} (h : RowIn w A 0 ps) {j : Nat} (hj : j < ps.length) : ∃ g kv, A = some ⟨g, 0, none⟩ ∧ g < w.heap.size ∧ ElemAt w g j ps[j] kv ∧ KidsIn w ps[j] kv := by
  have := h.at_ ps 0 j hj
  simpa using this

set_option maxRecDepth 100000 in
set_option maxHeartbeats 1000000 in
theorem count_any (k : Nat) : ∀ (p : Pat) (kv : Value) (w : World), count p ≤ k → k ≤ 1099511627776 → KidsIn w p kv →
    Calls Try.prog 89 #[p.v kv] w fun e w' => e = .returned (.int .i64 (count p)) ∧ Below w.heap.size w w' := by
  induction k with
  | zero => intro p kv w h; have := count_pos p; omega
  | succ k ih =>
    intro p kv w hk hk2 hin
    obtain ⟨A, c, rfl, hc, hrow⟩ := hin.form
    have hlen := countAll_len p.kids
    have hce := count_eq p
    have hn : p.kids.length ≤ 1099511627776 := by omega
    have IH := Lib.hid ih
    have HC := Lib.hid hce
    have HK := Lib.hid hk
    clear ih hce hk hlen
    go_enter Try.func89, Try.ntmps89
    go_wp2_with fail
    go_loopw [3, 9] (fun n i wr => ∃ j : Nat, j ≤ p.kids.length ∧ i = .int .i64 j ∧ n = .int .i64 (1 + countAll (p.kids.take j)) ∧ RowIn wr A 0 p.kids ∧ Below w.heap.size w wr) (fun _ i _ => p.kids.length - (intOf i).toNat)
    case atStart => exact ⟨0, Nat.zero_le _, rfl, by simp [countAll], RowIn.later ((Later.refl w).alloc _) A 0 _ hrow, (Below.refl _ _).alloc (Nat.le_refl _) _⟩
    case round =>
      obtain ⟨j, hj, rfl, rfl, hr, hbel⟩ := hrel
      have hsz := hbel.size
      by_cases hlt : j < p.kids.length
      · obtain ⟨g, kv', rfl, hg, he, hkid⟩ := rowOf wr p.kids hr hlt
        have HT := Lib.hid (countAll_take_succ p.kids j hlt)
        have HL := Lib.hid (countAll_take_le p.kids (j + 1))
        have HKL := Lib.hid (count_kid_lt p j hlt)
        have hb1 : (countAll (p.kids.take j) : Int) ≤ 1099511627776 := by have := HT.out; have := HL.out; have := HK.out; have := HC.out; omega
        have hb2 : (count p.kids[j] : Int) ≤ 1099511627776 := by have := HKL.out; have := HK.out; omega
        obtain ⟨A', c', rfl, _, _⟩ := hkid.form
        obtain ⟨e0, e1, e2, e3, e4, e5⟩ := he
        have hlt' : (j : Int) < p.kids.length := by omega
        have HKid := Lib.hid hkid
        have HR := Lib.hid hr
        clear hkid hr
        go_wp2_with fail
        refine (IH.out p.kids[j] _ _ (by have := HKL.out; have := HK.out; omega) (by omega) (KidsIn.later ((Later.refl wr).alloc _) _ _ HKid.out)).mono ?_
        rintro e w2 ⟨rfl, hb2⟩
        have hb3 : Below w.heap.size w w2 := (hbel.alloc hsz _).trans (Below.mono hb2 (by simp; omega))
        have hr2 := RowIn.later (Later.trans ((Later.refl wr).alloc _) hb2) _ 0 _ HR.out
        have HR2 := Lib.hid hr2
        clear hr2 hb2
        go_wp2_with fail
        go_roundw
        case rel => exact ⟨j + 1, by omega, by go_num, by rw [HT.out]; go_num, HR2.out, hb3⟩
        case measure => simp [intOf]; omega
      · go_wp2_with fail
        go_ret
        refine ⟨ret_int ?_, hbel⟩
        have h1 : p.kids.take j = p.kids := List.take_of_length_le (by omega)
        have := HC.out
        rw [h1]
        omega

end Go.Proofs.Ytndefbecoahfhaa
