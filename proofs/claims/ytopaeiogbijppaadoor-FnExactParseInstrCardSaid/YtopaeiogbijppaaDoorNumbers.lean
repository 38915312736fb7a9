/- The walks of spec's and impl's FormatInt: both return the decimal numeral of every int. -/
import Derived.Test.YtopaeiogbijppaaDoorQuote
import Derived.Test.YtopaeiogbijppaaDoorShelf
namespace Go.Proofs.YtopaeiogbijppaaDoor
open Go.RowKit

/-- 'string([]byte{b})' of a block that was just made. -/
theorem run_string_one (w : World) (x : Int) :
    (convert 77 9 (.slice (some ⟨w.heap.size, 0, none⟩) 1 1)).run Tryd.prog (w.alloc (.cells #[.int .u8 x] 5)) = .ok (.string (strOf [x])) (w.alloc (.cells #[.int .u8 x] 5)) :=
  run_string_own (base := 0) (ns := [x]) rfl ⟨by simp, .inr ⟨w.heap.size, 1, #[.int .u8 x], rfl, Nat.zero_le _, heap_alloc_new w _, Nat.le_refl _, by unfold maxLen; omega, rfl, by simp⟩⟩

theorem strOf_one (x : Int) : strOf [x] = ⟨#[UInt8.ofNat x.toNat]⟩ := rfl

theorem cat_one (x : Int) (s : ByteArray) : (strOf [x] ++ s).data.toList = UInt8.ofNat x.toNat :: s.data.toList := by
  simp [strOf]

theorem num_round {N : Nat} {m x : Int} {s : ByteArray} (hm : m ≠ 0) (h : dg N = dg m.natAbs ++ s.data.toList) (hx : x = 48 + ((m.natAbs % 10 : Nat) : Int)) :
    dg N = dg (m.tdiv 10).natAbs ++ (strOf [x] ++ s).data.toList := by
  rw [cat_one, hx]
  have : (48 + ((m.natAbs % 10 : Nat) : Int)).toNat = 48 + m.natAbs % 10 := by omega
  rw [this]
  exact dg_round N m _ hm h

theorem str_ext {a b : ByteArray} (h : a.data.toList = b.data.toList) : a = b := by
  cases a; cases b; simp at h; simp [h]

set_option maxRecDepth 100000 in
set_option maxHeartbeats 1600000 in
theorem specFormatInt_any (n : Int) (w : World) (h0 : -9223372036854775808 ≤ n) (h1 : n ≤ 9223372036854775807) :
    Calls Tryd.prog 48 #[.int .i64 n] w fun e w' => e = .returned (.string ⟨(Lib.itoa n).toArray⟩) ∧ Below w.heap.size w w' := by
  by_cases hz : n = 0
  · subst hz
    have hr : (⟨(Lib.itoa 0).toArray⟩ : ByteArray) = ⟨#[48]⟩ := by rw [itoa_zero]
    rw [hr]
    go_enter Tryd.func48, Tryd.ntmps48
    go_wp2
    go_ret
    exact ⟨rfl, Below.refl _ _⟩
  · have hzb : (n == 0) = false := by simpa using hz
    have hit := Lib.hid (itoa_of_dg n hz)
    have hlen := dg_len n h0 h1
    have hcv := run_string_one
    clear hz
    rcases Int.lt_or_le n 0 with hneg | hpos
    all_goals
      go_enter Tryd.func48, Tryd.ntmps48
      go_wp2
      go_loopw [0, 4] (fun m out wr => ∃ (m' : Int) (s : ByteArray), m = .int .i64 m' ∧ out = .string s ∧ -9223372036854775808 ≤ m' ∧ m' ≤ 9223372036854775807 ∧ Hid (dg n.natAbs = dg m'.natAbs ++ s.data.toList) ∧ Below w.heap.size w wr) (fun m _ _ => (intOf m).natAbs)
      case atStart => exact ⟨n, _, rfl, rfl, h0, h1, Lib.hid (by simp), Below.refl _ _⟩
      case round =>
        obtain ⟨m, s, rfl, rfl, hm0, hm1, hdg, hbel⟩ := hrel
        have hsz := hbel.size
        have hsl : s.size ≤ 20 := by
          have := congrArg List.length hdg.out
          simp at this
          have e : s.size = s.data.size := rfl
          omega
        have hss : ∀ x : Int, (strOf [x]).size = 1 := fun _ => rfl
        by_cases hmz : m = 0
        · subst hmz
          go_wp2
          go_ret
          refine ⟨?_, hbel⟩
          have e1 : dg n.natAbs = s.data.toList := by simpa [dg] using hdg.out
          have e2 := hit.out
          simp only [e1] at e2
          first
            | (rw [if_pos hneg] at e2; exact congrArg (fun b => Ending.returned (Value.string b)) (str_ext (by simp [e2])))
            | (rw [if_neg (by omega)] at e2; exact congrArg (fun b => Ending.returned (Value.string b)) (str_ext (by simp [e2])))
        · have hmb : (m != 0) = true := by simpa using hmz
          obtain ⟨d, hd⟩ : ∃ d : Int, m.tmod 10 = d := ⟨_, rfl⟩
          have ha : d.natAbs = m.natAbs % 10 := by rw [← hd, Int.natAbs_tmod]; rfl
          have hb : (m.tdiv 10).natAbs = m.natAbs / 10 := by rw [Int.natAbs_tdiv]; rfl
          have hdlo : -10 < d := by omega
          have hdhi : d < 10 := by omega
          have hq1 : -9223372036854775808 ≤ m.tdiv 10 := by omega
          have hq2 : m.tdiv 10 ≤ 9223372036854775807 := by omega
          have hq3 : (m.tdiv 10).natAbs < m.natAbs := by omega
          rcases Int.lt_or_le d 0 with hdn | hdp
          · have hx : (48 + (-d)) = 48 + ((m.natAbs % 10 : Nat) : Int) := by omega
            have HR := Lib.hid (num_round hmz hdg.out hx)
            clear hx hmz ha hb
            go_wp2
            go_roundw
            case rel => exact ⟨_, _, rfl, rfl, hq1, hq2, HR, hbel.alloc hsz _⟩
            case measure => exact hq3
          · have hx : (48 + d) = 48 + ((m.natAbs % 10 : Nat) : Int) := by omega
            have HR := Lib.hid (num_round hmz hdg.out hx)
            clear hx hmz ha hb
            go_wp2
            go_roundw
            case rel => exact ⟨_, _, rfl, rfl, hq1, hq2, HR, hbel.alloc hsz _⟩
            case measure => exact hq3

end Go.Proofs.YtopaeiogbijppaaDoor
